/- Walks. -/
import Derived.Test.YteglbaidaekccaaWp
import Derived.Test.YteglbaidaekccaaP39
set_option linter.unusedVariables false
set_option linter.unusedSimpArgs false
set_option maxRecDepth 10000
namespace Go.Proofs.Yteglbaidaekccaa
open Go Go.RowKit
theorem set_iff (s : Nat) (d : Int) : andI (shrI (s : Int) d) 1 = 1 ↔ s.testBit d.toNat = true := by
  unfold andI shrI
  simp only [Int.toNat_natCast, Nat.testBit_eq_decide_div_mod_eq]
  rw [show (1 : Int).toNat = 1 from rfl, Nat.and_one_is_mod]
  simp only [decide_eq_true_eq]
  omega
theorem getD_at {l : List Int} {k : Nat} {d : Int} (h : l[k]? = some d) : l.getD k 0 = d := by rw [List.getD_eq_getElem?_getD, h]; rfl
theorem getD_ati {l : List Int} {k : Nat} {d : Int} (h : l[(k : Int).toNat]? = some d) : l.getD k 0 = d := by rw [Int.toNat_natCast] at h; exact getD_at h
theorem ids_bd {d : Int} (h : d ∈ ids8) : 0 ≤ d ∧ d ≤ 7 := by
  obtain ⟨k, hk, he⟩ := List.mem_iff_getElem.1 h
  have := ids_at (List.getElem?_eq_getElem hk)
  omega
theorem good_st {l : List Int} (h : goodI l) : StOK (groupsOf l) l := ⟨h.2.1, h.1, fun s hs => ((grp_ok _ _ (nzTo_lt l 8)).zero s hs).1⟩
theorem good_dis (l : List Int) : (groupsOf l).Pairwise Dis := (grp_ok _ _ (nzTo_lt l 8)).dis
theorem groups_lt {l : List Int} {s : Nat} (h : s ∈ groupsOf l) : s < 256 := by
  have h1 := ((grp_ok (sumS l) _ (nzTo_lt l 8)).zero s h).2
  have h2 := nzTo_lt l 8
  exact Nat.lt_of_le_of_lt (Nat.le_of_testBit h1) h2
theorem groups_len (l : List Int) : (groupsOf l).length ≤ 255 := by
  have h1 := grpS_len (sumS l) (nzM l)
  have h2 := nzTo_lt l 8
  unfold groupsOf
  unfold nzM at h1 ⊢
  omega
theorem stlTo_succ {gs : List Nat} {l : List Int} {j s : Nat} (h : gs[j]? = some s) : stlTo gs l (j + 1) = payS s 8 (stlTo gs l j) := by
  unfold stlTo; rw [List.take_add_one, h, Option.toList, List.foldl_append]; rfl
theorem sets_at {gs : List Nat} {j : Nat} {d : Int} (h : (setsI gs)[(j : Int).toNat]? = some d) : ∃ s : Nat, gs[j]? = some s ∧ d = (s : Int) := by
  unfold setsI at h
  rw [Int.toNat_natCast, List.getElem?_map] at h
  cases hs : gs[j]? with
  | none => rw [hs] at h; simp at h
  | some s => rw [hs] at h; simp at h; exact ⟨s, rfl, h.symm⟩
theorem ok_17 : callOK Try.prog 17 = true := by kernel_rfl
theorem ok_28 : callOK Try.prog 28 = true := by kernel_rfl
theorem ok_29 : callOK Try.prog 29 = true := by kernel_rfl
theorem ok_30 : callOK Try.prog 30 = true := by kernel_rfl
theorem ok_31 : callOK Try.prog 31 = true := by kernel_rfl
theorem ok_32 : callOK Try.prog 32 = true := by kernel_rfl

theorem c_settle11 (d : Int) (r1 r2 : Nat) (q3 : Nat) (s : Nat) (sign : Int) (A : Option Addr) (cap : Nat) (lf : List Int) (w : World) (hd : 0 ≤ d ∧ d ≤ 7) (h1 : RowAt w r1 3 [.int .i64 (s : Int)]) (h2 : RowAt w r2 3 [.int .i64 sign]) (h3 : RowAt w q3 41 [.slice A 8 cap]) (hl : Sl w A (encs encI lf)) (hsg : sign = 1 ∨ sign = -1) (hl8 : lf.length = 8) (hlb : ∀ x ∈ lf, -1000000000000 ≤ x ∧ x ≤ 1000000000000) (hs : s < 256) :
    Cl Try.prog 31 [.int .i64 d, .pointer (some ⟨r1, 0, none⟩), .pointer (some ⟨r2, 0, none⟩), .pointer (some ⟨q3, 0, none⟩)] w (IsV (.bool (decide (nextP s sign lf d))) w) := by
  refine cl_of Try.func31 rfl Try.ntmps31 rfl (Mem.refl w) ?_
  refine wc_seq ?_
  refine wc_region ?_
  refine wl_ex (ex_assign rfl) rfl rfl ?_
  refine wl_nil ?_
  refine pe_seq ?_
  refine wc_seq ?_
  refine wc_draw [] [(0, true), (1, true), (2, true), (3, true), (4, true), (5, true), (6, true), (7, true), (8, true), (9, true), (10, true), (11, true), (12, true), (13, true), (14, true)] mixed (by kernel_rfl) (.nil _) ?_
  refine cn_ex rfl (ex_load rfl ag_3 (rd_fix1 h1 (by simp) rfl)) rfl rfl ?_
  refine cn_ex rfl (ex_move rfl) rfl rfl ?_
  have hsn := shr_nn (s : Int) d
  have hsl := shr_le s d
  refine cn_ex rfl (ex_shr rfl rfl (by omega) (by omega)) rfl rfl ?_
  refine cn_ex rfl (ex_and rfl rfl (by omega) (by omega)) rfl rfl ?_
  refine cn_ex rfl (ex_eql rfl rfl) rfl rfl ?_
  refine cn_ex rfl (ex_move rfl) rfl rfl ?_
  by_cases g1 : andI (shrI (s : Int) d) 1 = 1
  · refine cn_exg rfl (ex_load rfl ag_3 (rd_fix1 h2 (by simp) rfl)) rfl rfl rfl (decide_eq_true g1) rfl rfl ?_
    refine cn_exg rfl (ex_load rfl ag_41 (rd_fix1 h3 (by simp) rfl)) rfl rfl rfl (decide_eq_true g1) rfl rfl ?_
    refine cn_exg rfl (ex_move rfl) rfl rfl rfl (decide_eq_true g1) rfl rfl ?_
    refine cn_exg rfl (ex_indexAddr rfl rfl Try.underlying41 sz_3 (sl_arg hl rfl) (by omega) (by omega) (enc_pos encI_len (by omega))) rfl rfl rfl (decide_eq_true g1) rfl rfl ?_
    obtain ⟨d_lf_d, hd_lf_d⟩ := get_if lf d
    refine cn_exg rfl (ex_load rfl ag_3 (rd_int (sl_arg hl rfl) (hd_lf_d (by omega) (by omega)))) rfl rfl rfl (decide_eq_true g1) rfl rfl ?_
    have hdb := hlb _ (mem_at (hd_lf_d (by omega) (by omega)))
    refine cn_exg rfl (ex_mul rfl rfl (by rcases hsg with h | h <;> subst h <;> omega) (by rcases hsg with h | h <;> subst h <;> omega)) rfl rfl rfl (decide_eq_true g1) rfl rfl ?_
    refine cn_exg rfl (ex_gtr rfl rfl) rfl rfl rfl (decide_eq_true g1) rfl rfl ?_
    refine cn_ex rfl (ex_pickt rfl (decide_eq_true g1) rfl) rfl rfl ?_
    refine cn_ex rfl (ex_assign rfl) rfl rfl ?_
    refine cn_nil ?_
    refine pe_seq ?_
    refine wc_ret ?_
    refine pe_ret1 rfl rfl rfl (fun w' hm => ⟨?_, hm.ent (.nil _)⟩)
    refine congrArg Value.bool (decide_eq_decide.2 ?_)
    unfold nextP
    rw [← set_iff, getD_at (hd_lf_d (by omega) (by omega))]
    exact ⟨fun h => ⟨g1, h⟩, fun h => h.2⟩
  · refine cn_skip rfl rfl rfl rfl (fun h => g1 (of_decide_eq_true (Value.bool.inj h))) rfl ?_
    refine cn_skip rfl rfl rfl rfl (fun h => g1 (of_decide_eq_true (Value.bool.inj h))) rfl ?_
    refine cn_skip rfl rfl rfl rfl (fun h => g1 (of_decide_eq_true (Value.bool.inj h))) rfl ?_
    refine cn_skip rfl rfl rfl rfl (fun h => g1 (of_decide_eq_true (Value.bool.inj h))) rfl ?_
    refine cn_skip rfl rfl rfl rfl (fun h => g1 (of_decide_eq_true (Value.bool.inj h))) rfl ?_
    refine cn_skip rfl rfl rfl rfl (fun h => g1 (of_decide_eq_true (Value.bool.inj h))) rfl ?_
    refine cn_skip rfl rfl rfl rfl (fun h => g1 (of_decide_eq_true (Value.bool.inj h))) rfl ?_
    refine cn_ex rfl (ex_pickf rfl (decide_eq_false g1) rfl) rfl rfl ?_
    refine cn_ex rfl (ex_assign rfl) rfl rfl ?_
    refine cn_nil ?_
    refine pe_seq ?_
    refine wc_ret ?_
    refine pe_ret1 rfl rfl rfl (fun w' hm => ⟨?_, hm.ent (.nil _)⟩)
    refine congrArg Value.bool (Eq.symm (decide_eq_false ?_))
    unfold nextP
    rw [← set_iff]
    exact fun h => g1 h.1

theorem c_IndexFuncM (Al : Option Addr) (cl : Nat) (l : List Int) (f : FuncId) (caps : List Value) (p : Int → Prop) [DecidablePred p] (w : World) (hl : Sl w Al (encs encI l)) (hlen : l.length ≤ 1000) (hok : callOK Try.prog f = true) (hf : ∀ (d : Int), d ∈ l → ∀ (w' : World), Upd [] w w' → Cl Try.prog f ([.int .i64 d] ++ caps) w' (IsV (.bool (decide (p d))) w')) :
    Cl Try.prog 30 [.slice Al l.length cl, .func (.func f) [].toArray caps.toArray] w (IsV (.int .i64 (idxI p l)) w) := by
  refine cl_of Try.func30 rfl Try.ntmps30 rfl (Mem.refl w) ?_
  refine wc_seq ?_
  refine wc_region ?_
  refine wl_ex (ex_assign rfl) rfl rfl ?_
  refine wl_nil ?_
  refine pe_seq ?_
  refine wc_seq ?_
  refine wc_seq ?_
  refine wc_region ?_
  refine wl_ex (ex_move rfl) rfl rfl ?_
  refine wl_ex (ex_len Try.underlying41 rfl) rfl rfl ?_
  refine wl_ex (ex_move rfl) rfl rfl ?_
  refine wl_nil ?_
  refine pe_seq ?_
  refine wc_block ?_
  refine wc_loop (σ := Int) (fun s => [(8, .int .i64 s), (0, .slice Al l.length cl), (1, .func (.func f) [].toArray caps.toArray), (7, .int .i64 (l.length : Int))]) (fun s => []) (fun s => 0 ≤ s ∧ s ≤ (l.length : Int) ∧ ∀ x ∈ l.take s.toNat, ¬ p x) (fun s => ((l.length : Int) - s).toNat) _ (Sub.cons rfl rfl (Sub.cons rfl rfl (Sub.cons rfl rfl (Sub.cons rfl rfl (Sub.nil _))))) (.nil _) (by simp) ?_
  rintro i hG
  show WC _ _ _ [(8, .int .i64 i), (0, .slice Al l.length cl), (1, .func (.func f) [].toArray caps.toArray), (7, .int .i64 (l.length : Int))] []
  replace hG : 0 ≤ i ∧ i ≤ (l.length : Int) ∧ ∀ x ∈ l.take i.toNat, ¬ p x := hG
  obtain ⟨h1, h2, h3⟩ := hG
  refine wc_seq ?_
  refine wc_region ?_
  refine wl_ex (ex_lss rfl rfl) rfl rfl ?_
  refine wl_nil ?_
  refine pe_seq ?_
  refine wc_seq ?_
  refine wc_ite rfl (fun c9 => ?_) (fun c9 => ?_)
  · refine wc_skip ?_
    refine pe_seq ?_
    refine wc_seq ?_
    refine wc_block ?_
    refine wc_seq ?_
    refine wc_region ?_
    refine wl_ex (ex_move rfl) rfl rfl ?_
    refine wl_ex (ex_assign rfl) rfl rfl ?_
    refine wl_nil ?_
    refine pe_seq ?_
    refine wc_seq ?_
    refine wc_region ?_
    refine wl_ex (ex_move rfl) rfl rfl ?_
    refine wl_ex (ex_move rfl) rfl rfl ?_
    refine wl_ex (ex_move rfl) rfl rfl ?_
    refine wl_ex (ex_indexAddr rfl rfl Try.underlying41 sz_3 (sl_arg hl rfl) (by omega) (by omega) (enc_pos encI_len (by omega))) rfl rfl ?_
    obtain ⟨d_l_i, hd_l_i⟩ := get_if l i
    refine wl_ex (ex_load rfl ag_3 (rd_int (sl_arg hl rfl) (hd_l_i (by omega) (by omega)))) rfl rfl ?_
    refine wl_callcV [.tmp 15] rfl rfl hok rfl (fun w' hm => hf d_l_i (mem_at (hd_l_i (by omega) (by omega))) w' hm.upd) rfl ?_
    refine wl_nil ?_
    refine pe_seq ?_
    refine wc_ite rfl (fun c16 => ?_) (fun c16 => ?_)
    · refine wc_seq ?_
      refine wc_region ?_
      refine wl_ex (ex_move rfl) rfl rfl ?_
      refine wl_ex (ex_assign rfl) rfl rfl ?_
      refine wl_nil ?_
      refine pe_seq ?_
      refine wc_ret ?_
      refine pe_block_ret _ ?_
      refine pe_seq_ret ?_
      refine pe_loop_ret ?_
      refine pe_block_ret _ ?_
      refine pe_seq_ret ?_
      refine pe_ret1 rfl rfl rfl (fun w' hm => ⟨?_, hm.ent (.nil _)⟩)
      have := idxI_found (hd_l_i (by omega) (by omega)) h3 c16
      exact congrArg (Value.int .i64) (by rw [this]; omega)
    · refine wc_skip ?_
      refine pe_block _ ?_
      refine pe_seq ?_
      refine wc_region ?_
      refine wl_ex (ex_add rfl rfl (by omega) (by omega)) rfl rfl ?_
      refine wl_ex (ex_move rfl) rfl rfl ?_
      refine wl_nil ?_
      refine pe_again (i + 1) (Sub.cons rfl rfl (Sub.cons rfl rfl (Sub.cons rfl rfl (Sub.cons rfl rfl (Sub.nil _))))) (.nil _) ?_ ?_
      · show 0 ≤ (i + 1) ∧ (i + 1) ≤ (l.length : Int) ∧ ∀ x ∈ l.take (i + 1).toNat, ¬ p x
        have hi : (i + 1).toNat = i.toNat + 1 := by omega
        refine ⟨by omega, by omega, ?_⟩
        rw [hi]
        exact all_take (hd_l_i (by omega) (by omega)) h3 c16
      · first | omega | (simp only []; omega)
  · refine wc_exit ?_
    refine pe_seq_exit ?_
    refine pe_loop_exit ?_
    refine pe_block_exit ?_
    refine pe_seq ?_
    refine wc_seq ?_
    refine wc_region ?_
    refine wl_ex (ex_assign rfl) rfl rfl ?_
    refine wl_nil ?_
    refine pe_seq ?_
    refine wc_ret ?_
    refine pe_ret1 rfl rfl rfl (fun w' hm => ⟨?_, hm.ent (.nil _)⟩)
    rw [List.take_of_length_le (by omega)] at h3
    exact congrArg (Value.int .i64) (idxI_none h3).symm

theorem c_settle1 (q3 : Nat) (s : Nat) (sign : Int) (A : Option Addr) (cap : Nat) (lf : List Int) (w : World) (h3 : RowAt w q3 41 [.slice A 8 cap]) (hl : Sl w A (encs encI lf)) (hsg : sign = 1 ∨ sign = -1) (hl8 : lf.length = 8) (hlb : ∀ x ∈ lf, -1000000000000 ≤ x ∧ x ≤ 1000000000000) (hs : s < 256) :
    Cl Try.prog 29 [.int .i64 (s : Int), .int .i64 sign, .pointer (some ⟨q3, 0, none⟩)] w (IsV (.int .i64 (nxt s sign lf)) w) := by
  refine cl_of Try.func29 rfl Try.ntmps29 rfl (Mem.refl w) ?_
  refine wc_seq ?_
  refine wc_region ?_
  refine wl_box rfl rfl rfl fun r1 => ?_
  refine wl_box rfl rfl rfl fun r2 => ?_
  refine wl_ex (ex_assign rfl) rfl rfl ?_
  refine wl_nil ?_
  refine pe_seq ?_
  refine wc_seq ?_
  refine wc_region ?_
  refine wl_buildSlice [.const (.int .i64 0), .const (.int .i64 1), .const (.int .i64 2), .const (.int .i64 3), .const (.int .i64 4), .const (.int .i64 5), .const (.int .i64 6), .const (.int .i64 7)] rfl rfl Try.underlying41 sz_3 ze_3 rfl (by simp [Value.cells]) (by omega) (by omega) rfl fun r3 => ?_
  rw [show List.flatMap (fun x => x.cells.toList) ([Value.int .i64 0, Value.int .i64 1, Value.int .i64 2, Value.int .i64 3, Value.int .i64 4, Value.int .i64 5, Value.int .i64 6, Value.int .i64 7] : List Value) = encs encI [0, 1, 2, 3, 4, 5, 6, 7] from rfl]
  refine wl_ex (ex_makeFunc (os := []) (cs := [.tmp 3, .tmp 4, .tmp 2]) rfl rfl) rfl rfl ?_
  refine wl_callV [.tmp 6, .tmp 7] rfl ok_30 rfl (fun w hm => c_IndexFuncM (some ⟨r3, 0, none⟩) 8 ([0, 1, 2, 3, 4, 5, 6, 7]) 31 [.pointer (some ⟨r1, 0, none⟩), .pointer (some ⟨r2, 0, none⟩), .pointer (some ⟨q3, 0, none⟩)] (nextP s sign lf) w (((sl_own (.head _ _))).at hm) (by first | omega | assumption | (simp only [List.length_cons, List.length_nil]; omega)) ok_31 (fun d hd w' hu => c_settle11 d r1 r2 q3 s sign A cap lf w' (ids_bd hd) ((hm.rowAt (.tail (.tail (.head _ _)))).upd hu (by simp)) ((hm.rowAt (.tail (.head _ _))).upd hu (by simp)) ((row_at h3 (by simp) hm).upd hu (by simp)) ((hl.upd hm.upd).upd hu) hsg hl8 hlb hs)  ) rfl ?_
  refine wl_ex (ex_assign rfl) rfl rfl ?_
  refine wl_nil ?_
  refine pe_seq ?_
  refine wc_ret ?_
  refine pe_ret1 rfl rfl rfl (fun w' hm => ⟨?_, hm.ent (.nil _)⟩)
  rfl

theorem c_Settle (Al : Option Addr) (cl : Nat) (l : List Int) (w : World) (hl : Sl w Al (encs encI l)) (hlen : l.length ≤ 1000) :
    Cl Try.prog 17 [.slice Al l.length cl] w (IsS2 ((stlR l).length) 39 3 (encs encD (stlR l)) (.int .i64 (errI l)) w) := by
  refine cl_of Try.func17 rfl Try.ntmps17 rfl (Mem.refl w) ?_
  refine wc_seq ?_
  refine wc_region ?_
  refine wl_ex (ex_assign rfl) rfl rfl ?_
  refine wl_ex (ex_assign rfl) rfl rfl ?_
  refine wl_nil ?_
  refine pe_seq ?_
  refine wc_seq ?_
  refine wc_seq ?_
  refine wc_region ?_
  refine wl_ex (ex_move rfl) rfl rfl ?_
  refine wl_callV [.tmp 12] rfl ok_27 rfl (fun w hm => c_isGood Al cl l w (((sl_arg hl rfl)).at hm)  (by first | omega | assumption)) rfl ?_
  refine wl_ex (ex_not rfl) rfl rfl ?_
  refine wl_nil ?_
  refine pe_seq ?_
  refine wc_ite rfl (fun c14 => ?_) (fun c14 => ?_)
  · refine wc_seq ?_
    refine wc_region ?_
    refine wl_ex (ex_assign rfl) rfl rfl ?_
    refine wl_ex (ex_assign rfl) rfl rfl ?_
    refine wl_nil ?_
    refine pe_seq ?_
    refine wc_ret ?_
    refine pe_seq_ret ?_
    refine pe_nilOwn 39 3 ?_
    refine pe_ret2 rfl rfl rfl rfl (fun w' hm => isS2_mk hm (.head _ _) ?_ ?_ ?_)
    · simp [stlR, c14, encs]
    · simp [errI, c14]
    · simp [stlR, c14]
  · have c14 := Decidable.not_not.1 c14
    have hl8 := c14.2.1
    have hgl := groups_len l
    have hdis := good_dis l
    have hsl : (setsI (groupsOf l)).length = (groupsOf l).length := by simp [setsI]
    refine wc_skip ?_
    refine pe_seq ?_
    refine wc_seq ?_
    refine wc_region ?_
    refine wl_ex (ex_assign rfl) rfl rfl ?_
    refine wl_nil ?_
    refine pe_seq ?_
    refine wc_seq ?_
    refine wc_region ?_
    refine wl_ex (ex_move rfl) rfl rfl ?_
    refine wl_callS [.tmp 15] rfl ok_28 rfl (fun w hm => c_Clone Al cl l w (((sl_arg hl rfl)).at hm)  (by first | assumption | omega)) rfl fun A1 c2 => ?_
    refine wl_alloc ze_41 rfl rfl fun r3 => ?_
    refine wl_store rfl rfl rfl sz_41 (.head _ _) (by simp) ?_
    refine wl_nil ?_
    refine pe_seq ?_
    refine wc_seq ?_
    refine wc_region ?_
    refine wl_ex (ex_makeFunc (os := []) (cs := [.tmp 5]) rfl rfl) rfl rfl ?_
    refine wl_ex (ex_assign rfl) rfl rfl ?_
    refine wl_nil ?_
    refine pe_seq ?_
    refine wc_seq ?_
    refine wc_seq ?_
    refine wc_region ?_
    refine wl_ex (ex_move rfl) rfl rfl ?_
    refine wl_callW [.tmp 18] rfl ok_32 rfl (fun w2 hm => c_grouped Al cl l w2 ((sl_arg hl rfl).at hm) c14) rfl ?_
    rintro w2 v w3 hm ⟨A9, cap9, rfl, hm3, hB3⟩
    have m5 := hm.call hm3
    refine ⟨[.row r3 41 [.slice A1 l.length c2], .own A1 l.length c2 3 1 (encs encI l)], m5, ?_⟩
    have hB3s : SlB w3 (blks [.row r3 41 [.slice A1 l.length c2], .own A1 l.length c2 3 1 (encs encI l)]) A9 (encs encI (setsI (groupsOf l))) := hB3.less (fun r hr => List.mem_range.2 (hm.blks_lt r hr))
    show WL _ _ _ _ ((19, .slice A9 ((setsI (groupsOf l)).length) cap9) :: _) [.row r3 41 [.slice A1 l.length c2], .own A1 l.length c2 3 1 (encs encI l)]
    refine wl_ex (ex_len Try.underlying41 rfl) rfl rfl ?_
    refine wl_ex (ex_move rfl) rfl rfl ?_
    refine wl_nil ?_
    refine pe_seq ?_
    refine wc_block ?_
    refine wc_nilOwn 39 3 ?_
    refine wc_loop (σ := Nat × (List Int) × (List Debt) × (Option Addr) × Nat) (fun s => [(4, .slice s.2.2.2.1 s.2.2.1.length s.2.2.2.2), (21, .int .i64 (s.1 : Int)), (5, .pointer (some ⟨r3, 0, none⟩)), (6, .func (.func 29) [].toArray [.pointer (some ⟨r3, 0, none⟩)].toArray), (19, .slice A9 ((setsI (groupsOf l)).length) cap9), (20, .int .i64 ((setsI (groupsOf l)).length : Int))]) (fun s => [.own s.2.2.2.1 s.2.2.1.length s.2.2.2.2 39 3 (encs encD s.2.2.1), .row r3 41 [.slice A1 8 c2], .own A1 8 c2 3 1 (encs encI s.2.1)]) (fun s => s.1 ≤ (groupsOf l).length ∧ StOK (groupsOf l) s.2.1 ∧ stlTo (groupsOf l) l s.1 = (s.2.1, s.2.2.1) ∧ s.2.2.1.length ≤ 8 * s.1) (fun s => (groupsOf l).length - s.1) (0, l, [], _, _) (Sub.cons rfl rfl (Sub.cons rfl rfl (Sub.cons rfl rfl (Sub.cons rfl rfl (Sub.cons rfl rfl (Sub.cons rfl rfl (Sub.nil _))))))) (.cons (.head _ _) rfl (.cons (.head _ _) (by rw [hl8]) (.cons (.head _ _) (by rw [hl8]) (.nil _)))) (by exact ⟨by omega, good_st c14, rfl, by simp⟩) ?_
    rintro ⟨j, lf, m, AM, cm⟩ hG
    show WC _ _ _ [(4, .slice AM m.length cm), (21, .int .i64 (j : Int)), (5, .pointer (some ⟨r3, 0, none⟩)), (6, .func (.func 29) [].toArray [.pointer (some ⟨r3, 0, none⟩)].toArray), (19, .slice A9 ((setsI (groupsOf l)).length) cap9), (20, .int .i64 ((setsI (groupsOf l)).length : Int))] [.own AM m.length cm 39 3 (encs encD m), .row r3 41 [.slice A1 8 c2], .own A1 8 c2 3 1 (encs encI lf)]
    replace hG : j ≤ (groupsOf l).length ∧ StOK (groupsOf l) lf ∧ stlTo (groupsOf l) l j = (lf, m) ∧ m.length ≤ 8 * j := hG
    obtain ⟨h1, h2, h3, h4⟩ := hG
    refine wc_seq ?_
    refine wc_region ?_
    refine wl_ex (ex_lss rfl rfl) rfl rfl ?_
    refine wl_nil ?_
    refine pe_seq ?_
    refine wc_seq ?_
    refine wc_ite rfl (fun c22 => ?_) (fun c22 => ?_)
    · refine wc_skip ?_
      refine pe_seq ?_
      refine wc_seq ?_
      refine wc_block ?_
      refine wc_seq ?_
      refine wc_region ?_
      refine wl_ex (ex_indexAddr rfl rfl Try.underlying41 sz_3 (sl_argB hB3s) (by omega) (by omega) (enc_pos encI_len (by omega))) rfl rfl ?_
      obtain ⟨d_setsI_groupsOf_l___j_Int, hd_setsI_groupsOf_l___j_Int⟩ := get_if (setsI (groupsOf l)) (j : Int)
      refine wl_ex (ex_load rfl ag_3 (rd_int (sl_argB hB3s) (hd_setsI_groupsOf_l___j_Int (by omega) (by omega)))) rfl rfl ?_
      obtain ⟨se, hsj, hsd⟩ := sets_at (hd_setsI_groupsOf_l___j_Int (by omega) (by omega))
      subst hsd
      have hsm := mem_at hsj
      have hs := groups_lt hsm
      refine wl_ex (ex_assign rfl) rfl rfl ?_
      refine wl_nil ?_
      refine pe_seq ?_
      refine wc_block ?_
      refine wc_loop (σ := (List Int) × (List Debt) × (Option Addr) × Nat) (fun s => [(4, .slice s.2.2.1 s.2.1.length s.2.2.2), (5, .pointer (some ⟨r3, 0, none⟩)), (6, .func (.func 29) [].toArray [.pointer (some ⟨r3, 0, none⟩)].toArray), (8, .int .i64 (se : Int)), (19, .slice A9 ((setsI (groupsOf l)).length) cap9), (20, .int .i64 ((setsI (groupsOf l)).length : Int)), (21, .int .i64 (j : Int))]) (fun s => [.own s.2.2.1 s.2.1.length s.2.2.2 39 3 (encs encD s.2.1), .row r3 41 [.slice A1 8 c2], .own A1 8 c2 3 1 (encs encI s.1)]) (fun s => StOK (groupsOf l) s.1 ∧ (∃ k, nzc s.1 ≤ k ∧ payS se 8 (lf, m) = payS se k (s.1, s.2.1)) ∧ s.2.1.length + nzc s.1 ≤ 8 * j + 8) (fun s => nzc s.1) (lf, m, _, _) (Sub.cons rfl rfl (Sub.cons rfl rfl (Sub.cons rfl rfl (Sub.cons rfl rfl (Sub.cons rfl rfl (Sub.cons rfl rfl (Sub.cons rfl rfl (Sub.nil _)))))))) (.cons (.head _ _) (by first | rfl | simp) (.cons (.head _ _) rfl (.cons (.head _ _) (by first | rfl | simp) (.nil _)))) (by exact ⟨h2, ⟨8, by have := nzc_le lf; have := h2.len; show nzc lf ≤ 8; omega, rfl⟩, by have := nzc_le lf; have := h2.len; show m.length + nzc lf ≤ 8 * j + 8; omega⟩) ?_
      rintro ⟨lf2, m2, AN, cn⟩ hG
      show WC _ _ _ [(4, .slice AN m2.length cn), (5, .pointer (some ⟨r3, 0, none⟩)), (6, .func (.func 29) [].toArray [.pointer (some ⟨r3, 0, none⟩)].toArray), (8, .int .i64 (se : Int)), (19, .slice A9 ((setsI (groupsOf l)).length) cap9), (20, .int .i64 ((setsI (groupsOf l)).length : Int)), (21, .int .i64 (j : Int))] [.own AN m2.length cn 39 3 (encs encD m2), .row r3 41 [.slice A1 8 c2], .own A1 8 c2 3 1 (encs encI lf2)]
      replace hG : StOK (groupsOf l) lf2 ∧ (∃ k, nzc lf2 ≤ k ∧ payS se 8 (lf, m) = payS se k (lf2, m2)) ∧ m2.length + nzc lf2 ≤ 8 * j + 8 := hG
      obtain ⟨hst, ⟨k, hk1, hk2⟩, h5⟩ := hG
      have hjg : j < (groupsOf l).length := (List.getElem?_eq_some_iff.1 hsj).1
      refine wc_block ?_
      refine wc_seq ?_
      refine wc_region ?_
      refine wl_ex (ex_move rfl) rfl rfl ?_
      refine wl_ex (ex_move rfl) rfl rfl ?_
      refine wl_callcV [.tmp 26, .const (.int .i64 (-1))] rfl rfl ok_29 rfl (fun w hm => c_settle1 r3 se (-1) A1 c2 lf2 w (hm.rowAt (.tail (.head _ _))) ((sl_own (.tail (.tail (.head _ _)))).at hm)  (by first | exact .inl rfl | exact .inr rfl) (by exact hst.len) (by exact hst.bd) (by assumption)) rfl ?_
      refine wl_ex (ex_move rfl) rfl rfl ?_
      refine wl_ex (ex_move rfl) rfl rfl ?_
      refine wl_callcV [.tmp 29, .const (.int .i64 1)] rfl rfl ok_29 rfl (fun w hm => c_settle1 r3 se 1 A1 c2 lf2 w (hm.rowAt (.tail (.head _ _))) ((sl_own (.tail (.tail (.head _ _)))).at hm)  (by first | exact .inl rfl | exact .inr rfl) (by exact hst.len) (by exact hst.bd) (by assumption)) rfl ?_
      refine wl_ex (ex_assign rfl) rfl rfl ?_
      refine wl_ex (ex_assign rfl) rfl rfl ?_
      refine wl_nil ?_
      refine pe_seq ?_
      refine wc_seq ?_
      refine wc_seq ?_
      refine wc_region ?_
      refine wl_ex (ex_move rfl) rfl rfl ?_
      refine wl_ex (ex_lss rfl rfl) rfl rfl ?_
      refine wl_nil ?_
      refine pe_seq ?_
      refine wc_ite rfl (fun c32 => ?_) (fun c32 => ?_)
      · refine wc_exit ?_
        refine pe_seq_exit ?_
        refine pe_block_other (by decide) ?_
        refine pe_loop_exit ?_
        refine pe_block_exit ?_
        refine pe_block _ ?_
        refine pe_seq ?_
        refine wc_region ?_
        refine wl_ex (ex_add rfl rfl (by omega) (by omega)) rfl rfl ?_
        refine wl_ex (ex_move rfl) rfl rfl ?_
        refine wl_nil ?_
        refine pe_again ⟨j + 1, lf2, m2, _, _⟩ (Sub.cons rfl (by first | rfl | simp) (Sub.cons rfl (congrArg (Value.int .i64) (by omega)) (Sub.cons rfl rfl (Sub.cons rfl rfl (Sub.cons rfl rfl (Sub.cons rfl rfl (Sub.nil _))))))) (.cons (.head _ _) (by first | rfl | simp) (.cons (.head _ _) rfl (.cons (.head _ _) (by first | rfl | simp) (.nil _)))) ?_ ?_
        · show (j + 1) ≤ (groupsOf l).length ∧ StOK (groupsOf l) lf2 ∧ stlTo (groupsOf l) l (j + 1) = (lf2, m2) ∧ m2.length ≤ 8 * (j + 1)
          have hz : payS se 8 (lf, m) = (lf2, m2) := by
            rw [hk2]
            cases k with
            | zero => rfl
            | succ k => show (if nxt se (-1) lf2 < 0 then _ else _) = _; rw [if_pos c32]
          exact ⟨by omega, hst, by rw [stlTo_succ hsj, h3, hz], by omega⟩
        · (have := (List.getElem?_eq_some_iff.1 hsj).1; omega)
      · refine wc_skip ?_
        refine pe_seq ?_
        refine wc_seq ?_
        refine wc_draw [.own AN m2.length cn 39 3 (encs encD m2), .row r3 41 [.slice A1 8 c2], .own A1 8 c2 3 1 (encs encI lf2)] [(0, true), (1, true), (2, true), (3, true), (4, true), (5, true), (6, true), (7, true), (8, true), (9, true), (10, true)] mixed (by kernel_rfl) (.cons (.head _ _) rfl (.cons (.head _ _) rfl (.cons (.head _ _) rfl (.nil _)))) ?_
        obtain ⟨f, t, hf8, ht8, ef, et, hfs, hts, hneg, hpos, hne⟩ := pay_facts hst hsm c32
        rw [ef, et]
        have hl8 := hst.len
        refine cn_ex rfl (ex_load rfl ag_41 (rd_row1 (.tail (.head _ _)) rfl)) rfl rfl ?_
        refine cn_ex rfl (ex_move rfl) rfl rfl ?_
        refine cn_ex rfl (ex_indexAddr rfl rfl Try.underlying41 sz_3 (sl_own (.tail (.tail (.head _ _)))) (by omega) (by omega) (enc_pos encI_len (by omega))) rfl rfl ?_
        obtain ⟨d_lf2__f_Int, hd_lf2__f_Int⟩ := get_if lf2 (f : Int)
        refine cn_ex rfl (ex_load rfl ag_3 (rd_int (sl_own (.tail (.tail (.head _ _)))) (hd_lf2__f_Int (by omega) (by omega)))) rfl rfl ?_
        have hfb := hst.bd _ (mem_at (hd_lf2__f_Int (by omega) (by omega)))
        refine cn_ex rfl (ex_neg rfl (by omega) (by omega)) rfl rfl ?_
        refine cn_ex rfl (ex_load rfl ag_41 (rd_row1 (.tail (.head _ _)) rfl)) rfl rfl ?_
        refine cn_ex rfl (ex_move rfl) rfl rfl ?_
        refine cn_ex rfl (ex_indexAddr rfl rfl Try.underlying41 sz_3 (sl_own (.tail (.tail (.head _ _)))) (by omega) (by omega) (enc_pos encI_len (by omega))) rfl rfl ?_
        obtain ⟨d_lf2__t_Int, hd_lf2__t_Int⟩ := get_if lf2 (t : Int)
        refine cn_ex rfl (ex_load rfl ag_3 (rd_int (sl_own (.tail (.tail (.head _ _)))) (hd_lf2__t_Int (by omega) (by omega)))) rfl rfl ?_
        have htb := hst.bd _ (mem_at (hd_lf2__t_Int (by omega) (by omega)))
        refine cn_ex rfl (ex_min rfl rfl) rfl rfl ?_
        refine cn_ex rfl (ex_assign rfl) rfl rfl ?_
        refine cn_nil ?_
        refine pe_seq ?_
        refine wc_seq ?_
        refine wc_region ?_
        refine wl_ex (ex_load rfl ag_41 (rd_row1 (.tail (.head _ _)) rfl)) rfl rfl ?_
        refine wl_ex (ex_move rfl) rfl rfl ?_
        refine wl_ex (ex_indexAddr rfl rfl Try.underlying41 sz_3 (sl_own (.tail (.tail (.head _ _)))) (by omega) (by omega) (enc_pos encI_len (by omega))) rfl rfl ?_
        refine wl_ex (ex_load rfl ag_3 (rd_int (sl_own (.tail (.tail (.head _ _)))) (hd_lf2__f_Int (by omega) (by omega)))) rfl rfl ?_
        refine wl_ex (ex_move rfl) rfl rfl ?_
        refine wl_ex (ex_add rfl rfl (by omega) (by omega)) rfl rfl ?_
        refine wl_ex (ex_indexAddr rfl rfl Try.underlying41 sz_3 (sl_own (.tail (.tail (.head _ _)))) (by omega) (by omega) (enc_pos encI_len (by omega))) rfl rfl ?_
        refine wl_storeI rfl rfl sz_3 (.tail (.tail (.head _ _))) (by omega) (by omega) ?_
        have hpv : (min (-d_lf2__f_Int) d_lf2__t_Int) = payV se lf2 := by unfold payV; rw [ef, et, Int.toNat_natCast, Int.toNat_natCast, getD_ati (hd_lf2__f_Int (by omega) (by omega)), getD_ati (hd_lf2__t_Int (by omega) (by omega))]
        rw [hpv, set_addAt (hd_lf2__f_Int (by omega) (by omega))]
        generalize hb1 : addAt lf2 (f : Int) (payV se lf2) = b1
        have hb1l : b1.length = 8 := by rw [← hb1, addAt_length]; exact hl8
        have hw1 : Within 2000000000000 b1 := by rw [← hb1]; exact within_addAt (m := 1000000000000) (a := 1000000000000) hst.bd (by omega) (by rw [← hpv]; omega)
        refine wl_nil ?_
        refine pe_seq ?_
        refine wc_seq ?_
        refine wc_region ?_
        refine wl_ex (ex_load rfl ag_41 (rd_row1 (.tail (.tail (.head _ _))) rfl)) rfl rfl ?_
        refine wl_ex (ex_move rfl) rfl rfl ?_
        refine wl_ex (ex_indexAddr rfl rfl Try.underlying41 sz_3 (sl_own (.head _ _)) (by omega) (by omega) (enc_pos encI_len (by omega))) rfl rfl ?_
        obtain ⟨d_b1__t_Int, hd_b1__t_Int⟩ := get_if b1 (t : Int)
        refine wl_ex (ex_load rfl ag_3 (rd_int (sl_own (.head _ _)) (hd_b1__t_Int (by omega) (by omega)))) rfl rfl ?_
        refine wl_ex (ex_move rfl) rfl rfl ?_
        have hbb := wn hw1 (hd_b1__t_Int (by omega) (by omega))
        have hpb : -1000000000000 ≤ payV se lf2 ∧ payV se lf2 ≤ 1000000000000 := by rw [← hpv]; omega
        refine wl_ex (ex_sub rfl rfl (by omega) (by omega)) rfl rfl ?_
        refine wl_ex (ex_indexAddr rfl rfl Try.underlying41 sz_3 (sl_own (.head _ _)) (by omega) (by omega) (enc_pos encI_len (by omega))) rfl rfl ?_
        refine wl_storeI rfl rfl sz_3 (.head _ _) (by omega) (by omega) ?_
        rw [Int.sub_eq_add_neg, set_addAt (hd_b1__t_Int (by omega) (by omega)), ← hb1, show addAt (addAt lf2 (f : Int) (payV se lf2)) (t : Int) (-(payV se lf2)) = pay1 se lf2 by unfold pay1; rw [ef, et]]
        refine wl_nil ?_
        refine pe_seq ?_
        refine wc_region ?_
        refine wl_ex (ex_move rfl) rfl rfl ?_
        refine wl_ex (ex_move rfl) rfl rfl ?_
        refine wl_ex (ex_move rfl) rfl rfl ?_
        refine wl_ex (ex_move rfl) rfl rfl ?_
        refine wl_ex (ex_build (cells := #[.int .i64 (f : Int), .int .i64 (t : Int), .int .i64 (payV se lf2)]) [0, 1, 2] [.tmp 58, .tmp 59, .tmp 60] rfl rfl Try.underlying39 ze_39 pl_39 rfl) rfl rfl ?_
        refine wl_buildSlice [.tmp 61] rfl rfl Try.underlying29 sz_39 ze_39 rfl (by simp [Value.cells]) (by omega) (by omega) rfl fun r4 => ?_
        rw [show List.flatMap (fun x => x.cells.toList) ([(.agg #[.int .i64 (f : Int), .int .i64 (t : Int), .int .i64 (payV se lf2)] : Value)] : List Value) = encs encD [⟨(f : Int), (t : Int), payV se lf2⟩] from rfl]
        refine wl_appendE encD_len encD_one rfl rfl Try.underlying29 sz_39 ze_39 rfl by_39 rfl (.tail (.tail (.head _ _))) (sl_own (.head _ _)) (by rfl) (by first | rfl | simp) (by first | omega | (simp; omega)) (by first | omega | (simp; omega)) rfl fun A5 c6 => ?_
        refine wl_ex (ex_assign rfl) rfl rfl ?_
        refine wl_nil ?_
        refine pe_block _ ?_
        have hless := pay_less hst hsm c32
        refine pe_again ⟨pay1 se lf2, m2 ++ [(⟨(f : Int), (t : Int), payV se lf2⟩ : Debt)], _, _⟩ (Sub.cons rfl (by first | rfl | simp) (Sub.cons rfl rfl (Sub.cons rfl rfl (Sub.cons rfl rfl (Sub.cons rfl rfl (Sub.cons rfl rfl (Sub.cons rfl rfl (Sub.nil _)))))))) (.cons (.head _ _) (by first | rfl | simp) (.cons (.tail (.tail (.head _ _))) rfl (.cons (.tail (.head _ _)) (by first | rfl | simp) (.nil _)))) ?_ ?_
        · show StOK (groupsOf l) (pay1 se lf2) ∧ (∃ k, nzc (pay1 se lf2) ≤ k ∧ payS se 8 (lf, m) = payS se k ((pay1 se lf2), (m2 ++ [(⟨(f : Int), (t : Int), payV se lf2⟩ : Debt)]))) ∧ (m2 ++ [(⟨(f : Int), (t : Int), payV se lf2⟩ : Debt)]).length + nzc (pay1 se lf2) ≤ 8 * j + 8
          refine ⟨pay_ok hdis hst hsm c32, ⟨k - 1, by omega, ?_⟩, by simp; omega⟩
          obtain ⟨k2, rfl⟩ : ∃ k2, k = k2 + 1 := ⟨k - 1, by omega⟩
          rw [hk2]
          show (if nxt se (-1) lf2 < 0 then _ else payS se k2 (pay1 se lf2, m2 ++ [payD se lf2])) = _
          rw [if_neg c32]
          unfold payD
          rw [ef, et]
          rfl
        · exact hless
    · refine wc_exit ?_
      refine pe_seq_exit ?_
      refine pe_loop_exit ?_
      refine pe_block_exit ?_
      refine pe_seq ?_
      refine wc_seq ?_
      refine wc_region ?_
      refine wl_ex (ex_move rfl) rfl rfl ?_
      refine wl_ex (ex_assign rfl) rfl rfl ?_
      refine wl_ex (ex_assign rfl) rfl rfl ?_
      refine wl_nil ?_
      refine pe_seq ?_
      refine wc_ret ?_
      have hstl : stlR l = m := by
        have hjl : j = (groupsOf l).length := by simp [setsI] at c22; omega
        unfold stlR stlI; rw [if_pos c14, ← hjl, h3]
      refine pe_ret2 rfl rfl rfl rfl (fun w' hm => isS2_mk (m5.un hm) (.head _ _) ?_ ?_ ?_)
      · rw [hstl]
      · simp [errI, c14]
      · rw [hstl]

theorem c_Fewest (Al : Option Addr) (cl : Nat) (l : List Int) (w : World) (hl : Sl w Al (encs encI l)) (hlen : l.length ≤ 1000) :
    Cl Try.prog 16 [.slice Al l.length cl] w (IsV (.tuple #[.int .i64 ((stlR l).length : Int), .int .i64 (errI l)]) w) := by
  refine cl_of Try.func16 rfl Try.ntmps16 rfl (Mem.refl w) ?_
  refine wc_seq ?_
  refine wc_region ?_
  refine wl_ex (ex_assign rfl) rfl rfl ?_
  refine wl_ex (ex_assign rfl) rfl rfl ?_
  refine wl_nil ?_
  refine pe_seq ?_
  refine wc_seq ?_
  refine wc_region ?_
  refine wl_ex (ex_move rfl) rfl rfl ?_
  refine wl_callS2 [.tmp 7] rfl ok_17 rfl (fun w hm => c_Settle Al cl l w (((sl_arg hl rfl)).at hm)  (by first | assumption | omega)) rfl fun A1 c2 => ?_
  refine wl_ex (ex_move rfl) rfl rfl ?_
  refine wl_ex (ex_extract rfl rfl) rfl rfl ?_
  refine wl_ex (ex_extract rfl rfl) rfl rfl ?_
  refine wl_ex (ex_assign rfl) rfl rfl ?_
  refine wl_ex (ex_assign rfl) rfl rfl ?_
  refine wl_nil ?_
  refine pe_seq ?_
  refine wc_seq ?_
  refine wc_region ?_
  refine wl_ex (ex_move rfl) rfl rfl ?_
  refine wl_ex (ex_len Try.underlying29 rfl) rfl rfl ?_
  refine wl_ex (ex_move rfl) rfl rfl ?_
  refine wl_ex (ex_assign rfl) rfl rfl ?_
  refine wl_ex (ex_assign rfl) rfl rfl ?_
  refine wl_nil ?_
  refine pe_seq ?_
  refine wc_ret ?_
  refine pe_ret2 rfl rfl rfl rfl (fun w' hm => ⟨?_, hm.ent (.nil _)⟩)
  first | rfl | (congr 1; omega)

end Go.Proofs.Yteglbaidaekccaa
