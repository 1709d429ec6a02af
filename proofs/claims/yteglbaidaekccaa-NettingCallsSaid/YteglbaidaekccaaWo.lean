/- Walks. -/
import Derived.Test.YteglbaidaekccaaWn
set_option linter.unusedVariables false
set_option linter.unusedSimpArgs false
set_option maxRecDepth 10000
namespace Go.Proofs.Yteglbaidaekccaa
open Go Go.RowKit
def tabL (g : Nat → Int) : List Value := (List.range 256).map fun k : Nat => Value.int .i64 (g k)
theorem tabL_length (g : Nat → Int) : (tabL g).length = 256 := by simp [tabL]
theorem tab_getn (g : Nat → Int) (k : Nat) (h : k < 256) : (tabL g)[(k : Int).toNat * 1]? = some (.int .i64 (g k)) := by
  simp only [tabL, List.getElem?_map, Int.toNat_natCast, Nat.mul_one]
  rw [List.getElem?_range h]; rfl
theorem clear_iff (a : Nat) (k : Int) : andI (shrI (a : Int) k) 1 = 0 ↔ a.testBit k.toNat = false := by
  unfold andI shrI
  simp only [Int.toNat_natCast, Nat.testBit_eq_decide_div_mod_eq]
  rw [show (1 : Int).toNat = 1 from rfl, Nat.and_one_is_mod]
  simp only [decide_eq_false_iff_not]
  omega
theorem shr_nn (a c : Int) : 0 ≤ shrI a c := Int.natCast_nonneg _
theorem shr_le (a : Nat) (c : Int) : shrI (a : Int) c ≤ a := by
  unfold shrI
  have := Nat.div_le_self a (2 ^ c.toNat)
  simp only [Int.toNat_natCast]; omega
/-- what is known already -/
def KnownOK (g : Nat → Int) (w : World) (T : List Nat) (es : Array MapEntry) : Prop := KeysI es ∧ ∀ e ∈ es.toList, ∀ k : Nat, e.key = .int .i64 (k : Int) → ∃ A cap, e.val = .slice A (setsI (grpS g k)).length cap ∧ SlB w T A (encs encI (setsI (grpS g k)))
theorem KnownOK.upd {g w w' S T es} (h : KnownOK g w T es) (u : Upd S w w') (hS : ∀ r ∈ S, r ∈ T) : KnownOK g w' T es :=
  ⟨h.1, fun e he k hk => let ⟨A, cap, h1, h2⟩ := h.2 e he k hk; ⟨A, cap, h1, h2.upd u hS⟩⟩
theorem KnownOK.less {g w T T' es} (h : KnownOK g w T es) (hT : ∀ r ∈ T', r ∈ T) : KnownOK g w T' es :=
  ⟨h.1, fun e he k hk => let ⟨A, cap, h1, h2⟩ := h.2 e he k hk; ⟨A, cap, h1, h2.less hT⟩⟩
theorem KnownOK.widen {g w0 w S T B es} (h : KnownOK g w0 T es) (u : Upd S w0 w) (hS : ∀ r ∈ S, r ∈ T) (hB : ∀ r ∈ B, r ∈ T ∨ w0.heap.size ≤ r) : KnownOK g w (T ++ B) es :=
  ⟨h.1, fun e he k hk => let ⟨A, cap, h1, h2⟩ := h.2 e he k hk; ⟨A, cap, h1, h2.widen u hS hB⟩⟩
theorem Hold.one {x : Hp} {w : World} (h : x.Holds w) : Hold [x] w := ⟨by simpa using h, by simp⟩
/-- the blocks of a call of groups within its loop -/
def GB (b r10 rm r5 r4 r3 s2 s1 : Nat) : List Nat := [b + 1, b, r10, rm, r5, r4, r3, s2, s1]
def GR (r10 rm r5 r4 r3 s2 s1 rs all lw : Nat) (A : Option Addr) (l : List Int) (cap : Nat) (es : Array MapEntry) (clock : Nat) : List Hp :=
  [.row r10 41 [.slice A l.length cap], .obj rm (.map es clock), .row r5 3 [.int .i64 (all : Int)], .row r4 86 [.map (some rm)], .row r3 85 [.pointer (some ⟨rs, 0, none⟩)], .row s2 3 [.int .i64 (lw : Int)], .row s1 3 [.int .i64 (all : Int)]]
def GI (rec : Loop) (b r10 rm r5 r4 r3 s2 s1 rs all : Nat) (g : Nat → Int) (T : List Nat) (w0 : World) (j : Nat) (w : World) : Prop :=
  ∃ A cap es clock, Mem w0 [rm] (.obj (b + 1) (.loop rec) :: .obj b (.deferred (some [])) :: GR r10 rm r5 r4 r3 s2 s1 rs all (low all) A (setsI (bestTo g all j)) cap es clock) w ∧ KnownOK g w (T ++ GB b r10 rm r5 r4 r3 s2 s1) es ∧ SlB w (T ++ GB b r10 rm r5 r4 r3 s2 s1) A (encs encI (setsI (bestTo g all j)))
def GrC (all : Nat) : Prop := ∀ (rs rm : Nat) (g : Nat → Int) (T : List Nat) (es : Array MapEntry) (clock : Nat) (w : World) (hk : Hold [.obj rm (.map es clock)] w) (hs : RowB w [rm] rs 83 (tabL g)) (hT : ∀ t ∈ T, t < w.heap.size) (hrm : rm ∈ T) (hK : KnownOK g w T es) (h8 : all < 256), Cl Try.prog 43 [.pointer (some ⟨rs, 0, none⟩), .map (some rm), .int .i64 (all : Int)] w (fun v w' => ∃ es' clock' A cap, v = .slice A (setsI (grpS g all)).length cap ∧ Mem w [rm] [.obj rm (.map es' clock')] w' ∧ KnownOK g w' T es' ∧ SlB w' T A (encs encI (setsI (grpS g all))))
theorem ag_85 : isAggT Try.prog 85 = some false := by kernel_rfl
theorem ag_86 : isAggT Try.prog 86 = some false := by kernel_rfl
theorem ok_43 : callOK Try.prog 43 = true := by kernel_rfl
theorem ok_55 : callOK Try.prog 55 = true := by kernel_rfl
theorem ok_63 : callOK Try.prog 63 = true := by kernel_rfl

theorem c_sets (all c : Int) (w : World)  :
    Cl Try.prog 55 [.int .i64 all, .int .i64 c] w (IsR (γ := Nat × Nat) (fun _ => True) (fun s => .func (.func 63) [].toArray [.pointer (some ⟨s.1, 0, none⟩), .pointer (some ⟨s.2, 0, none⟩)].toArray) (fun s => [.row s.2 3 [.int .i64 c], .row s.1 3 [.int .i64 all]]) w) := by
  refine cl_of Try.func55 rfl Try.ntmps55 rfl (Mem.refl w) ?_
  refine wc_seq ?_
  refine wc_region ?_
  refine wl_box rfl rfl rfl fun r1 => ?_
  refine wl_box rfl rfl rfl fun r2 => ?_
  refine wl_ex (ex_assign rfl) rfl rfl ?_
  refine wl_nil ?_
  refine pe_seq ?_
  refine wc_seq ?_
  refine wc_region ?_
  refine wl_ex (ex_makeFunc (os := []) (cs := [.tmp 2, .tmp 3]) rfl rfl) rfl rfl ?_
  refine wl_ex (ex_assign rfl) rfl rfl ?_
  refine wl_nil ?_
  refine pe_seq ?_
  refine wc_ret ?_
  refine pe_ret1 rfl rfl rfl (fun w' hm => ⟨(r1, r2), trivial, rfl, hm.ent (.cons (.head _ _) rfl (.cons (.head _ _) rfl (.nil _)))⟩)

theorem c_groups1 (rs rm all : Nat) (g : Nat → Int) (T : List Nat) (es : Array MapEntry) (clock : Nat) (w : World) (ih : ∀ m, m < all → GrC m) (hk : Hold [.obj rm (.map es clock)] w) (hs : RowB w [rm] rs 83 (tabL g)) (hT : ∀ t ∈ T, t < w.heap.size) (hrm : rm ∈ T) (hK : KnownOK g w T es) (h8 : all < 256) :
    Cl Try.prog 43 [.pointer (some ⟨rs, 0, none⟩), .map (some rm), .int .i64 (all : Int)] w (fun v w' => ∃ es' clock' A cap, v = .slice A (setsI (grpS g all)).length cap ∧ Mem w [rm] [.obj rm (.map es' clock')] w' ∧ KnownOK g w' T es' ∧ SlB w' T A (encs encI (setsI (grpS g all)))) := by
  refine cl_ofM Try.func43 rfl Try.ntmps43 rfl (hk.mem) ?_
  have hS : ∀ r ∈ [rm], r ∈ T := by simpa using hrm
  refine wc_seq ?_
  refine wc_region ?_
  refine wl_box rfl rfl rfl fun r1 => ?_
  refine wl_box rfl rfl rfl fun r2 => ?_
  refine wl_box rfl rfl rfl fun r3 => ?_
  refine wl_ex (ex_assign rfl) rfl rfl ?_
  refine wl_nil ?_
  refine pe_seq ?_
  refine wc_seq ?_
  refine wc_seq ?_
  refine wc_region ?_
  refine wl_ex (ex_load rfl ag_3 (rd_row1 (.head _ _) rfl)) rfl rfl ?_
  refine wl_ex (ex_eql rfl rfl) rfl rfl ?_
  refine wl_nil ?_
  refine pe_seq ?_
  refine wc_ite rfl (fun c14 => ?_) (fun c14 => ?_)
  · refine wc_seq ?_
    refine wc_region ?_
    refine wl_ex (ex_assign rfl) rfl rfl ?_
    refine wl_nil ?_
    refine pe_seq ?_
    refine wc_ret ?_
    refine pe_seq_ret ?_
    have h0 : all = 0 := by omega
    subst h0
    refine pe_retM1 rfl rfl rfl (fun w' hm => ⟨es, clock, none, 0, rfl, hm.ent (.cons (.tail (.tail (.tail (.head _ _)))) rfl (.nil _)), hK.upd hm.upd hS, Sl.nil _ _, .inl rfl⟩)
  · have h0 : all ≠ 0 := by omega
    have hlw := low_spec h0 h8
    refine wc_skip ?_
    refine pe_seq ?_
    refine wc_seq ?_
    refine wc_seq ?_
    refine wc_region ?_
    refine wl_ex (ex_load rfl ag_86 (rd_row1 (.tail (.head _ _)) rfl)) rfl rfl ?_
    refine wl_ex (ex_load rfl ag_3 (rd_row1 (.head _ _) rfl)) rfl rfl ?_
    refine wl_lookupI rfl rfl Try.underlying86 Try.underlying3 ze_41 (.tail (.tail (.tail (.head _ _)))) hK.1 rfl ?_ ?_
    · intro e he hke
      obtain ⟨Ae, cape, hve, hse⟩ := hK.2 e he all hke
      rw [hve]
      refine wl_ex (ex_move rfl) rfl rfl ?_
      refine wl_ex (ex_extract rfl rfl) rfl rfl ?_
      refine wl_ex (ex_extract rfl rfl) rfl rfl ?_
      refine wl_ex (ex_assign rfl) rfl rfl ?_
      refine wl_ex (ex_assign rfl) rfl rfl ?_
      refine wl_nil ?_
      refine pe_seq ?_
      refine wc_seq ?_
      refine wc_region ?_
      refine wl_ex (ex_move rfl) rfl rfl ?_
      refine wl_nil ?_
      refine pe_seq ?_
      refine wc_ift rfl ?_
      refine wc_seq ?_
      refine wc_region ?_
      refine wl_ex (ex_move rfl) rfl rfl ?_
      refine wl_ex (ex_assign rfl) rfl rfl ?_
      refine wl_nil ?_
      refine pe_seq ?_
      refine wc_ret ?_
      refine pe_seq_ret ?_
      refine pe_retM1 rfl rfl rfl (fun w' hm => ⟨es, clock, Ae, cape, rfl, hm.ent (.cons (.tail (.tail (.tail (.head _ _)))) rfl (.nil _)), hK.upd hm.upd hS, hse.upd hm.upd hS⟩)
    · intro hnk
      refine wl_ex (ex_move rfl) rfl rfl ?_
      refine wl_ex (ex_extract rfl rfl) rfl rfl ?_
      refine wl_ex (ex_extract rfl rfl) rfl rfl ?_
      refine wl_ex (ex_assign rfl) rfl rfl ?_
      refine wl_ex (ex_assign rfl) rfl rfl ?_
      refine wl_nil ?_
      refine pe_seq ?_
      refine wc_seq ?_
      refine wc_region ?_
      refine wl_ex (ex_move rfl) rfl rfl ?_
      refine wl_nil ?_
      refine pe_seq ?_
      refine wc_iff rfl ?_
      refine wc_skip ?_
      refine pe_seq ?_
      refine wc_seq ?_
      refine wc_region ?_
      refine wl_ex (ex_assign rfl) rfl rfl ?_
      refine wl_nil ?_
      refine pe_seq ?_
      refine wc_seq ?_
      refine wc_block ?_
      refine wc_loop (σ := Int) (fun s => [(9, .int .i64 s), (3, .pointer (some ⟨r1, 0, none⟩)), (4, .pointer (some ⟨r2, 0, none⟩)), (5, .pointer (some ⟨r3, 0, none⟩))]) (fun s => [.row r3 3 [.int .i64 (all : Int)], .row r2 86 [.map (some rm)], .row r1 85 [.pointer (some ⟨rs, 0, none⟩)], .obj rm (.map es clock)]) (fun s => 0 ≤ s ∧ s ≤ (low all : Int)) (fun s => ((low all : Int) - s).toNat) _ (Sub.cons rfl rfl (Sub.cons rfl rfl (Sub.cons rfl rfl (Sub.cons rfl rfl (Sub.nil _))))) (.cons (.head _ _) rfl (.cons (.head _ _) rfl (.cons (.head _ _) rfl (.cons (.head _ _) rfl (.nil _))))) (by omega) ?_
      rintro k hG
      show WC _ _ _ [(9, .int .i64 k), (3, .pointer (some ⟨r1, 0, none⟩)), (4, .pointer (some ⟨r2, 0, none⟩)), (5, .pointer (some ⟨r3, 0, none⟩))] [.row r3 3 [.int .i64 (all : Int)], .row r2 86 [.map (some rm)], .row r1 85 [.pointer (some ⟨rs, 0, none⟩)], .obj rm (.map es clock)]
      replace hG : 0 ≤ k ∧ k ≤ (low all : Int) := hG
      obtain ⟨h1, h2⟩ := hG
      have hsn := shr_nn (all : Int) k
      have hsl := shr_le all k
      refine wc_seq ?_
      refine wc_seq ?_
      refine wc_region ?_
      refine wl_ex (ex_load rfl ag_3 (rd_row1 (.head _ _) rfl)) rfl rfl ?_
      refine wl_ex (ex_move rfl) rfl rfl ?_
      refine wl_ex (ex_shr rfl rfl (by omega) (by omega)) rfl rfl ?_
      refine wl_ex (ex_and rfl rfl (by omega) (by omega)) rfl rfl ?_
      refine wl_ex (ex_eql rfl rfl) rfl rfl ?_
      refine wl_nil ?_
      refine pe_seq ?_
      refine wc_ite rfl (fun c27 => ?_) (fun c27 => ?_)
      · refine wc_skip ?_
        refine pe_seq ?_
        refine wc_block ?_
        refine wc_region ?_
        refine wl_ex (ex_move rfl) rfl rfl ?_
        refine wl_ex (ex_add rfl rfl (by omega) (by omega)) rfl rfl ?_
        refine wl_ex (ex_assign rfl) rfl rfl ?_
        refine wl_nil ?_
        refine pe_block _ ?_
        refine pe_again (k + 1) (Sub.cons rfl rfl (Sub.cons rfl rfl (Sub.cons rfl rfl (Sub.cons rfl rfl (Sub.nil _))))) (.cons (.head _ _) rfl (.cons (.head _ _) rfl (.cons (.head _ _) rfl (.cons (.head _ _) rfl (.nil _))))) ?_ ?_
        · show 0 ≤ (k + 1) ∧ (k + 1) ≤ (low all : Int)
          have hne : k ≠ (low all : Int) := by
            intro e
            rw [clear_iff, e, Int.toNat_natCast, hlw.2.1] at c27
            simp at c27
          omega
        · (have hne : k ≠ (low all : Int) := by intro e; rw [clear_iff, e, Int.toNat_natCast, hlw.2.1] at c27; simp at c27); omega
      · have hk9 : k = (low all : Int) := by
          rw [clear_iff] at c27
          have hn : ¬ k.toNat < low all := fun h => c27 (hlw.2.2 _ h)
          omega
        subst hk9
        refine wc_exit ?_
        refine pe_seq_exit ?_
        refine pe_loop_exit ?_
        refine pe_block_exit ?_
        refine pe_seq ?_
        refine wc_seq ?_
        refine wc_region ?_
        refine wl_alloc ze_41 rfl rfl fun r4 => ?_
        refine wl_nil ?_
        refine pe_seq ?_
        refine wc_seq ?_
        refine wc_seq ?_
        refine wc_region ?_
        refine wl_ex (ex_load rfl ag_3 (rd_row1 (.tail (.head _ _)) rfl)) rfl rfl ?_
        refine wl_ex (ex_move rfl) rfl rfl ?_
        refine wl_callR [.tmp 30, .tmp 31] rfl ok_55 rfl (fun w hm => c_sets (all : Int) (low all : Int) w   ) rfl ?_
        rintro ⟨s5, s6⟩ _
        show WL _ _ _ _ ((32, .func (.func 63) [].toArray [.pointer (some ⟨s5, 0, none⟩), .pointer (some ⟨s6, 0, none⟩)].toArray) :: _) [.row s6 3 [.int .i64 (low all : Int)], .row s5 3 [.int .i64 (all : Int)], .row r4 41 [.slice none 0 0], .row r3 3 [.int .i64 (all : Int)], .row r2 86 [.map (some rm)], .row r1 85 [.pointer (some ⟨rs, 0, none⟩)], .obj rm (.map es clock)]
        refine wl_nil ?_
        refine pe_seq ?_
        refine wc_block ?_
        refine wc_rangeFunc rfl rfl ok_63 (fun b H3 w3 => ∃ A cap es clock, H3 = GR r4 rm r3 r2 r1 s6 s5 rs all (low all) A (setsI (bestTo g all (subsL (dropS all (2 ^ low all))).length)) cap es clock ∧ KnownOK g w3 (T ++ GB b r4 rm r3 r2 r1 s6 s5) es ∧ SlB w3 (T ++ GB b r4 rm r3 r2 r1 s6 s5) A (encs encI (setsI (bestTo g all (subsL (dropS all (2 ^ low all))).length)))) ?_ ?_
        · intro fn tmps w1 b hE m1
          have m2 := m1.ent (.cons (.head _ _) (by first | rfl | simp) (.cons (.head _ _) (by first | rfl | simp) (.cons (.tail (.tail (.head _ _))) (by first | rfl | simp) (.cons (.tail (.tail (.tail (.tail (.tail (.head _ _)))))) rfl (.cons (.tail (.tail (.head _ _))) rfl (.cons (.tail (.tail (.head _ _))) rfl (.cons (.tail (.tail (.head _ _))) rfl (.cons (.head _ _) rfl (.cons (.head _ _) rfl (.nil _))))))))))
          have hnew := m2.blks_new
          have hgb : ∀ r ∈ GB b r4 rm r3 r2 r1 s6 s5, r ∈ T ∨ w.heap.size ≤ r := fun r hr => (hnew r hr).imp (hS r) id
          have hlt2 := m2.blks_lt
          have h0I : GI _ b r4 rm r3 r2 r1 s6 s5 rs all g T w 0 w1 := ⟨none, 0, es, clock, m2, hK.widen m2.upd hS hgb, Sl.nil _ _, .inl rfl⟩
          refine (c_sets1 all (low all) (b + 1) s5 s6 (GI _ b r4 rm r3 r2 r1 s6 s5 rs all g T w) w1 ?_ ?_ ?_ h0I h8 hlw.1).mono ?_
          · rintro j w' ⟨A, cap, es', ck', hM, _, _⟩; exact ⟨hM.get (.tail (.tail (.tail (.tail (.tail (.tail (.tail (.tail (.head _ _))))))))), hM.get (.tail (.tail (.tail (.tail (.tail (.tail (.tail (.head _ _))))))))⟩
          · rintro j w' w'' ⟨A, cap, es', ck', hM, hK', hB'⟩ u; exact ⟨A, cap, es', ck', hM.ext u, hK'.upd u (by simp), hB'.upd u (by simp)⟩
          · rintro j x w' ⟨A, cap, es', ck', hM, hK', hB'⟩ hx
            have hx8 : x < 256 := (mem_subs.1 (List.mem_of_getElem? hx)).1
            have hset8 : x ||| 2 ^ low all < 256 := or_lt (k := 8) hx8 (Nat.pow_lt_pow_right (by omega) hlw.1)
            have hsb : (x ||| 2 ^ low all).testBit (low all) = true := by rw [Nat.testBit_or, pow_bit]; simp
            have hbs := bestTo_succ g hx
            unfold gstep at hbs
            generalize hset : x ||| 2 ^ low all = set at *
            have hdl : dropS all set < all := dropS_lt hlw.2.1 hsb
            have hbk : (setsI (bestTo g all j)).length ≤ 256 := by have := bestTo_len g all j h8; simpa [setsI] using this
            have hgk : (setsI (grpS g (dropS all set))).length ≤ 256 := by have := grpS_len g (dropS all set); simp [setsI]; omega
            have hs2 : RowB w' (GB b r4 rm r3 r2 r1 s6 s5) rs 83 (tabL g) := (hs.widen hM.upd (fun _ h => h) hM.blks_new).less (fun r hr => List.mem_append.2 (.inr hr))
            have hsz1 := hM.upd.size
            have hT2 : ∀ t ∈ T ++ GB b r4 rm r3 r2 r1 s6 s5, t < w'.heap.size := fun t ht => (List.mem_append.1 ht).elim (fun h => Nat.lt_of_lt_of_le (hT t h) hM.upd.size) (fun h => hM.blks_lt t h)
            refine ycl_of hM.self (.head _ _) rfl hE rfl ?_
            show WC _ _ _ ((33, .int .i64 (set : Int)) :: _) [.obj (b + 1) (.loop _), .obj b (.deferred (some [])), .row r4 41 [.slice A ((setsI (bestTo g all j)).length) cap], .obj rm (.map es' ck'), .row r3 3 [.int .i64 (all : Int)], .row r2 86 [.map (some rm)], .row r1 85 [.pointer (some ⟨rs, 0, none⟩)], .row s6 3 [.int .i64 (low all : Int)], .row s5 3 [.int .i64 (all : Int)]]
            refine wc_region ?_
            refine wl_ex (ex_assign rfl) rfl rfl ?_
            refine wl_nil ?_
            refine pe_asg rfl (.head _ _) rfl ?_
            refine wc_block ?_
            refine wc_seq ?_
            refine wc_seq ?_
            refine wc_region ?_
            refine wl_ex (ex_load rfl ag_85 (rd_row1 (.tail (.tail (.tail (.tail (.tail (.tail (.head _ _))))))) rfl)) rfl rfl ?_
            refine wl_ex (ex_move rfl) rfl rfl ?_
            refine wl_ex (ex_nilCheck rfl) rfl rfl ?_
            refine wl_ex (ex_indexAddrA (off' := ((set : Int)).toNat * 1) rfl rfl Try.underlying83 sz_3 (by omega) (by omega) (by simp)) rfl rfl ?_
            refine wl_ex (ex_load rfl ag_3 (rd_fix1 hs2.1 hs2.2 (tab_getn g set hset8))) rfl rfl ?_
            refine wl_ex (ex_neq rfl rfl) rfl rfl ?_
            refine wl_nil ?_
            refine pe_seq ?_
            refine wc_ite rfl (fun c39 => ?_) (fun c39 => ?_)
            · refine wc_exit ?_
              refine pe_seq_exit ?_
              refine pe_block_exit ?_
              rw [if_pos c39] at hbs
              have hsubA : ∀ r ∈ GB b r4 rm r3 r2 r1 s6 s5, r ∈ T ++ GB b r4 rm r3 r2 r1 s6 s5 := fun r hr => List.mem_append.2 (.inr hr)
              refine pe_round (.head _ _) (fun w'' hm => ⟨rfl, ?_⟩)
              unfold GI; rw [hbs]
              exact ⟨A, cap, es', ck', (hM.un hm).ent (.cons (.head _ _) (by first | rfl | simp) (.cons (.head _ _) rfl (.cons (.head _ _) rfl (.cons (.head _ _) rfl (.cons (.head _ _) rfl (.cons (.head _ _) rfl (.cons (.head _ _) rfl (.cons (.head _ _) rfl (.cons (.head _ _) rfl (.nil _)))))))))), hK'.upd hm.upd hsubA, hB'.upd hm.upd hsubA⟩
            · refine wc_skip ?_
              refine pe_seq ?_
              refine wc_seq ?_
              refine wc_region ?_
              refine wl_ex (ex_load rfl ag_85 (rd_row1 (.tail (.tail (.tail (.tail (.tail (.tail (.head _ _))))))) rfl)) rfl rfl ?_
              refine wl_ex (ex_load rfl ag_86 (rd_row1 (.tail (.tail (.tail (.tail (.tail (.head _ _)))))) rfl)) rfl rfl ?_
              refine wl_ex (ex_load rfl ag_3 (rd_row1 (.tail (.tail (.tail (.tail (.head _ _))))) rfl)) rfl rfl ?_
              refine wl_ex (ex_move rfl) rfl rfl ?_
              refine wl_ex (ex_andNot rfl rfl (by omega) (by omega)) rfl rfl ?_
              rw [show dropI (all : Int) (set : Int) = ((dropS all set : Nat) : Int) by unfold dropI dropS; simp only [Int.toNat_natCast]]
              have hsub : ∀ r ∈ GB b r4 rm r3 r2 r1 s6 s5, r ∈ T ++ GB b r4 rm r3 r2 r1 s6 s5 := fun r hr => List.mem_append.2 (.inr hr)
              refine wl_callW [.tmp 40, .tmp 41, .tmp 44] rfl ok_43 rfl (fun w2 hm => ih (dropS all set) hdl rs rm g (T ++ GB b r4 rm r3 r2 r1 s6 s5) es' ck' w2 (Hold.one (hm.get (.tail (.tail (.tail (.head _ _)))))) ((hs2.upd hm.upd (fun _ h => h)).less (by simp [GB])) (fun t ht => Nat.lt_of_lt_of_le (hT2 t ht) hm.upd.size) (List.mem_append.2 (.inl hrm)) (hK'.upd hm.upd hsub) (by omega)) rfl ?_
              rintro w2 v w3 hm ⟨es3, ck3, A3, cap3, rfl, hm3, hK3, hB3⟩
              have m5 := Mem.callT (K := [.obj rm (.map es' ck')]) (hm.perm (Pick.perm (.tail (.tail (.tail (.head _ _)))))) hm3
              refine ⟨_, m5, ?_⟩
              show WL _ _ _ _ ((45, .slice A3 ((setsI (grpS g (dropS all set))).length) cap3) :: _) [.obj rm (.map es3 ck3), .obj (b + 1) (.loop _), .obj b (.deferred (some [])), .row r4 41 [.slice A ((setsI (bestTo g all j)).length) cap], .row r3 3 [.int .i64 (all : Int)], .row r2 86 [.map (some rm)], .row r1 85 [.pointer (some ⟨rs, 0, none⟩)], .row s6 3 [.int .i64 (low all : Int)], .row s5 3 [.int .i64 (all : Int)]]
              have hsub5 : ∀ r ∈ [rm, (b + 1), b, r4, r3, r2, r1, s6, s5], r ∈ T ++ GB b r4 rm r3 r2 r1 s6 s5 := by
                intro r hr
                refine List.mem_append.2 (.inr ?_)
                simp only [List.mem_cons, List.not_mem_nil, or_false] at hr
                simp only [GB, List.mem_cons, List.not_mem_nil, or_false]
                grind
              have hB3s := hB3.less hsub5
              have hB5 := hB'.upd m5.upd hsub
              have hB5s := hB5.less hsub5
              have hT3 : ∀ t ∈ T ++ GB b r4 rm r3 r2 r1 s6 s5, t < w3.heap.size := fun t ht => Nat.lt_of_lt_of_le (hT2 t ht) m5.upd.size
              refine wl_ex (ex_assign rfl) rfl rfl ?_
              refine wl_nil ?_
              refine pe_seq ?_
              refine wc_seq ?_
              refine wc_region ?_
              refine wl_ex (ex_move rfl) rfl rfl ?_
              refine wl_ex (ex_len Try.underlying41 rfl) rfl rfl ?_
              refine wl_ex (ex_add rfl rfl (by omega) (by omega)) rfl rfl ?_
              refine wl_ex (ex_load rfl ag_41 (rd_row1 (.tail (.tail (.tail (.head _ _)))) rfl)) rfl rfl ?_
              refine wl_ex (ex_len Try.underlying41 rfl) rfl rfl ?_
              refine wl_ex (ex_gtr rfl rfl) rfl rfl ?_
              refine wl_nil ?_
              refine pe_seq ?_
              refine wc_ite rfl (fun c51 => ?_) (fun c51 => ?_)
              · refine wc_region ?_
                refine wl_ex (ex_move rfl) rfl rfl ?_
                refine wl_buildSlice [.tmp 52] rfl rfl Try.underlying41 sz_3 ze_3 rfl (by simp [Value.cells]) (by omega) (by omega) rfl fun r7 => ?_
                rw [show List.flatMap (fun x => x.cells.toList) ([Value.int .i64 (set : Int)] : List Value) = encs encI [(set : Int)] from rfl]
                refine wl_ex (ex_move rfl) rfl rfl ?_
                refine wl_appendE encI_len encI_one rfl rfl Try.underlying41 sz_3 ze_3 rfl by_3 rfl (.head _ _) (sl_argB hB3s) (by first | rfl | simp) (by first | rfl | simp) (by first | omega | (simp; omega)) (by first | omega | (simp; omega)) rfl fun A8 c9 => ?_
                refine wl_store rfl rfl rfl sz_41 (.tail (.tail (.tail (.tail (.head _ _))))) (by simp) ?_
                refine wl_nil ?_
                refine pe_block _ ?_
                rw [if_neg (by simpa using c39), if_pos (by simp [setsI] at c51; omega)] at hbs
                refine pe_round (.tail (.tail (.tail (.head _ _)))) (fun w'' hm => ⟨rfl, ?_⟩)
                unfold GI; rw [hbs]
                exact ⟨A8, c9, es3, ck3, (hM.un (m5.un hm)).ent (.cons (.head _ _) (by first | rfl | simp) (.cons (.tail (.tail (.tail (.head _ _)))) rfl (.cons (.head _ _) (by first | rfl | simp) (.cons (.tail (.head _ _)) rfl (.cons (.tail (.head _ _)) rfl (.cons (.tail (.head _ _)) rfl (.cons (.tail (.head _ _)) rfl (.cons (.tail (.head _ _)) rfl (.cons (.tail (.head _ _)) rfl (.nil _)))))))))), hK3.upd hm.upd hsub5, own_slB hm (.tail (.tail (.head _ _))) (by simp [blks, Hp.blk]) hT3⟩
              · refine wc_skip ?_
                refine pe_block _ ?_
                rw [if_neg (by simpa using c39), if_neg (by simp [setsI] at c51; omega)] at hbs
                refine pe_round (.tail (.head _ _)) (fun w'' hm => ⟨rfl, ?_⟩)
                unfold GI; rw [hbs]
                exact ⟨A, cap, es3, ck3, (hM.un (m5.un hm)).ent (.cons (.head _ _) (by first | rfl | simp) (.cons (.tail (.head _ _)) rfl (.cons (.tail (.head _ _)) rfl (.cons (.head _ _) rfl (.cons (.head _ _) rfl (.cons (.head _ _) rfl (.cons (.head _ _) rfl (.cons (.head _ _) rfl (.cons (.head _ _) rfl (.nil _)))))))))), hK3.upd hm.upd hsub5, hB5.upd hm.upd hsub5⟩
          · rintro v w3 ⟨_, A, cap, es', ck', hM, hK', hB'⟩
            exact ⟨_, _, by simp, rfl, hM, A, cap, es', ck', rfl, hK', hB'⟩
        · rintro b _ w3 w4 ⟨A, cap, es', ck', rfl, hK', hB'⟩ u4 m4
          have hKw := hK'.upd u4 (by simp [GB])
          have hBw := hB'.upd u4 (by simp [GB])
          show PE _ _ _ _ [.obj b (.deferred (some [])), .row r4 41 [.slice A ((setsI (bestTo g all (subsL (dropS all (2 ^ low all))).length)).length) cap], .obj rm (.map es' ck'), .row r3 3 [.int .i64 (all : Int)], .row r2 86 [.map (some rm)], .row r1 85 [.pointer (some ⟨rs, 0, none⟩)], .row s6 3 [.int .i64 (low all : Int)], .row s5 3 [.int .i64 (all : Int)]]
          refine pe_block _ ?_
          refine pe_seq ?_
          refine wc_seq ?_
          refine wc_region ?_
          refine wl_ex (ex_load rfl ag_86 (rd_row1 (.tail (.tail (.tail (.tail (.head _ _))))) rfl)) rfl rfl ?_
          refine wl_ex (ex_load rfl ag_3 (rd_row1 (.tail (.tail (.tail (.head _ _)))) rfl)) rfl rfl ?_
          refine wl_ex (ex_load rfl ag_41 (rd_row1 (.tail (.head _ _)) rfl)) rfl rfl ?_
          refine wl_mapUpdateI rfl rfl rfl Try.underlying86 Try.underlying3 (.tail (.tail (.head _ _))) hKw.1 fun es2 ck2 hk2 hm2 => ?_
          refine wl_nil ?_
          refine pe_seq ?_
          refine wc_seq ?_
          refine wc_region ?_
          refine wl_ex (ex_load rfl ag_41 (rd_row1 (.tail (.tail (.head _ _))) rfl)) rfl rfl ?_
          refine wl_ex (ex_assign rfl) rfl rfl ?_
          refine wl_nil ?_
          refine pe_seq ?_
          refine wc_ret ?_
          have hfull := grpS_eq g h0 h8
          have hsub4 : ∀ r ∈ blks (.obj b (.deferred (some [])) :: GR r4 rm r3 r2 r1 s6 s5 rs all (low all) A (setsI (bestTo g all (subsL (dropS all (2 ^ low all))).length)) cap es' ck'), r ∈ T ++ GB b r4 rm r3 r2 r1 s6 s5 := fun r hr => List.mem_append.2 (.inr (List.mem_cons_of_mem _ hr))
          refine pe_retM1m rfl rfl rfl (.tail (.head _ _)) (fun w' hm => ⟨es2, ck2, A, cap, ?_, (m4.un hm).ent (.cons (.tail (.head _ _)) rfl (.nil _)), ⟨hk2, fun e he k hek => ?_⟩, ?_⟩)
          · rw [hfull]
          · rcases hm2 e he with h | ⟨h1, h2⟩
            · exact ((hKw.upd hm.upd hsub4).less (fun r hr => List.mem_append.2 (.inl hr))).2 e h k hek
            · have hka : k = all := by rw [h1] at hek; simp only [Value.int.injEq, true_and] at hek; omega
              subst hka
              exact ⟨A, cap, by rw [h2, hfull], by rw [hfull]; exact (hBw.upd hm.upd hsub4).less (fun r hr => List.mem_append.2 (.inl hr))⟩
          · rw [hfull]; exact (hBw.upd hm.upd hsub4).less (fun r hr => List.mem_append.2 (.inl hr))

theorem grC (all : Nat) : GrC all := by
  induction all using Nat.strongRecOn with
  | _ all ih =>
    intro rs rm g T es clock w hk hs hT hrm hK h8
    exact c_groups1 rs rm all g T es clock w ih hk hs hT hrm hK h8

end Go.Proofs.Yteglbaidaekccaa
