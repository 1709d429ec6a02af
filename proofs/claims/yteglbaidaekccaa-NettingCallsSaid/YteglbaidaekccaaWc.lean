/- Walks. -/
import Derived.Test.YteglbaidaekccaaWb
set_option linter.unusedVariables false
set_option linter.unusedSimpArgs false
set_option maxRecDepth 10000
namespace Go.Proofs.Yteglbaidaekccaa
open Go Go.RowKit
theorem set_addAt {b : List Int} {i n x : Int} (h : b[i.toNat]? = some x) : b.set i.toNat (x + n) = addAt b i n := by
  unfold addAt; rw [List.getD_eq_getElem?_getD, h]; rfl
theorem addAt_comm (b : List Int) (i j m n : Int) (hi : 0 ≤ i) (hj : 0 ≤ j) (hij : i ≠ j) : addAt (addAt b i m) j n = addAt (addAt b j n) i m := by
  have hne : i.toNat ≠ j.toNat := by omega
  unfold addAt
  rw [List.set_comm _ _ hne]
  congr 1
  · congr 1; simp [List.getD_eq_getElem?_getD, List.getElem?_set_ne hne]
  · simp [List.getD_eq_getElem?_getD, List.getElem?_set_ne hne.symm]
theorem addAt_get (b : List Int) (i j n : Int) (hi : 0 ≤ i) (hj : 0 ≤ j) (hij : i ≠ j) : (addAt b i n)[j.toNat]? = b[j.toNat]? := by
  unfold addAt; rw [List.getElem?_set_ne (by omega)]
theorem wn {m : Int} {l : List Int} {i x : Int} (h : Within m l) (hx : l[i.toNat]? = some x) : -m ≤ x ∧ x ≤ m := h x (List.mem_of_getElem? hx)
theorem by_3 : byT Try.prog 3 = some 8 := by kernel_rfl
theorem ze_3 : zeT Try.prog 3 = some (.int .i64 0) := by kernel_rfl
theorem ze_39 : zeT Try.prog 39 = some (.agg #[.int .i64 0, .int .i64 0, .int .i64 0]) := by kernel_rfl
theorem ok_33 : callOK Try.prog 33 = true := by kernel_rfl
theorem ok_44 : callOK Try.prog 44 = true := by kernel_rfl
theorem ok_45 : callOK Try.prog 45 = true := by kernel_rfl
theorem ok_56 : callOK Try.prog 56 = true := by kernel_rfl

theorem c_IndexFuncD (Al : Option Addr) (cl : Nat) (l : List Debt) (f : FuncId) (caps : List Value) (p : Debt → Prop) [DecidablePred p] (w : World) (hl : Sl w Al (encs encD l)) (hlen : l.length ≤ 1000) (hok : callOK Try.prog f = true) (hf : ∀ (d : Debt) (w' : World), Upd [] w w' → Cl Try.prog f ([.agg (encD d).toArray] ++ caps) w' (IsV (.bool (decide (p d))) w')) :
    Cl Try.prog 56 [.slice Al l.length cl, .func (.func f) [].toArray caps.toArray] w (IsV (.int .i64 (idxI p l)) w) := by
  refine cl_of Try.func56 rfl Try.ntmps56 rfl (Mem.refl w) ?_
  refine wc_seq ?_
  refine wc_region ?_
  refine wl_ex (ex_assign rfl) rfl rfl ?_
  refine wl_nil ?_
  refine pe_seq ?_
  refine wc_seq ?_
  refine wc_seq ?_
  refine wc_region ?_
  refine wl_ex (ex_move rfl) rfl rfl ?_
  refine wl_ex (ex_len Try.underlying29 rfl) rfl rfl ?_
  refine wl_ex (ex_move rfl) rfl rfl ?_
  refine wl_nil ?_
  refine pe_seq ?_
  refine wc_block ?_
  refine wc_loop (σ := Int) (fun s => [(8, .int .i64 s), (0, .slice Al l.length cl), (1, .func (.func f) [].toArray caps.toArray), (7, .int .i64 (l.length : Int))]) (fun s => []) (fun s => 0 ≤ s ∧ s ≤ (l.length : Int) ∧ ∀ x ∈ l.take s.toNat, ¬ p x) (fun s => ((l.length : Int) - s).toNat) _ (Sub.cons rfl rfl (Sub.cons rfl rfl (Sub.cons rfl rfl (Sub.cons rfl rfl (Sub.nil _))))) (.nil _) (by simp) ?_
  rintro i hG
  show WC _ _ _ [(8, .int .i64 i), (0, .slice Al l.length cl), (1, .func (.func f) [].toArray caps.toArray), (7, .int .i64 (l.length : Int))] []
  replace hG : 0 ≤ i ∧ i ≤ (l.length : Int) ∧ ∀ x ∈ l.take i.toNat, ¬ p x := hG
  obtain ⟨h1, h2, h3⟩ := hG
  refine wc_seq ?_
  refine wc_region ?_
  refine wl_ex (ex_lss rfl rfl) rfl rfl ?_
  refine wl_nil ?_
  refine pe_seq ?_
  refine wc_seq ?_
  refine wc_ite rfl (fun c9 => ?_) (fun c9 => ?_)
  · refine wc_skip ?_
    refine pe_seq ?_
    refine wc_seq ?_
    refine wc_block ?_
    refine wc_seq ?_
    refine wc_region ?_
    refine wl_ex (ex_move rfl) rfl rfl ?_
    refine wl_ex (ex_assign rfl) rfl rfl ?_
    refine wl_nil ?_
    refine pe_seq ?_
    refine wc_seq ?_
    refine wc_region ?_
    refine wl_ex (ex_move rfl) rfl rfl ?_
    refine wl_ex (ex_move rfl) rfl rfl ?_
    refine wl_ex (ex_move rfl) rfl rfl ?_
    refine wl_ex (ex_indexAddr rfl rfl Try.underlying29 sz_39 (sl_arg hl rfl) (by omega) (by omega) (enc_pos encD_len (by omega))) rfl rfl ?_
    obtain ⟨d_l_i, hd_l_i⟩ := get_if l i
    refine wl_ex (ex_loadS rfl ag_39 sz_39 (encD_len _) (rd_encs encD_len (sl_arg hl rfl) (hd_l_i (by omega) (by omega)))) rfl rfl ?_
    refine wl_callcV [.tmp 15] rfl rfl hok rfl (fun w' hm => hf d_l_i w' hm.upd) rfl ?_
    refine wl_nil ?_
    refine pe_seq ?_
    refine wc_ite rfl (fun c16 => ?_) (fun c16 => ?_)
    · refine wc_seq ?_
      refine wc_region ?_
      refine wl_ex (ex_move rfl) rfl rfl ?_
      refine wl_ex (ex_assign rfl) rfl rfl ?_
      refine wl_nil ?_
      refine pe_seq ?_
      refine wc_ret ?_
      refine pe_block_ret _ ?_
      refine pe_seq_ret ?_
      refine pe_loop_ret ?_
      refine pe_block_ret _ ?_
      refine pe_seq_ret ?_
      refine pe_ret1 rfl rfl rfl (fun w' hm => ⟨?_, hm.ent (.nil _)⟩)
      have := idxI_found (hd_l_i (by omega) (by omega)) h3 c16
      exact congrArg (Value.int .i64) (by rw [this]; omega)
    · refine wc_skip ?_
      refine pe_block _ ?_
      refine pe_seq ?_
      refine wc_region ?_
      refine wl_ex (ex_add rfl rfl (by omega) (by omega)) rfl rfl ?_
      refine wl_ex (ex_move rfl) rfl rfl ?_
      refine wl_nil ?_
      refine pe_again (i + 1) (Sub.cons rfl rfl (Sub.cons rfl rfl (Sub.cons rfl rfl (Sub.cons rfl rfl (Sub.nil _))))) (.nil _) ?_ ?_
      · show 0 ≤ (i + 1) ∧ (i + 1) ≤ (l.length : Int) ∧ ∀ x ∈ l.take (i + 1).toNat, ¬ p x
        have hi : (i + 1).toNat = i.toNat + 1 := by omega
        refine ⟨by omega, by omega, ?_⟩
        rw [hi]
        exact all_take (hd_l_i (by omega) (by omega)) h3 c16
      · first | omega | (simp only []; omega)
  · refine wc_exit ?_
    refine pe_seq_exit ?_
    refine pe_loop_exit ?_
    refine pe_block_exit ?_
    refine pe_seq ?_
    refine wc_seq ?_
    refine wc_region ?_
    refine wl_ex (ex_assign rfl) rfl rfl ?_
    refine wl_nil ?_
    refine pe_seq ?_
    refine wc_ret ?_
    refine pe_ret1 rfl rfl rfl (fun w' hm => ⟨?_, hm.ent (.nil _)⟩)
    rw [List.take_of_length_le (by omega)] at h3
    exact congrArg (Value.int .i64) (idxI_none h3).symm

theorem c_ContainsFuncD (Al : Option Addr) (cl : Nat) (l : List Debt) (f : FuncId) (caps : List Value) (p : Debt → Prop) [DecidablePred p] (w : World) (hl : Sl w Al (encs encD l)) (hlen : l.length ≤ 1000) (hok : callOK Try.prog f = true) (hf : ∀ (d : Debt) (w' : World), Upd [] w w' → Cl Try.prog f ([.agg (encD d).toArray] ++ caps) w' (IsV (.bool (decide (p d))) w')) :
    Cl Try.prog 45 [.slice Al l.length cl, .func (.func f) [].toArray caps.toArray] w (IsV (.bool (decide (∃ d ∈ l, p d))) w) := by
  refine cl_of Try.func45 rfl Try.ntmps45 rfl (Mem.refl w) ?_
  refine wc_seq ?_
  refine wc_region ?_
  refine wl_ex (ex_assign rfl) rfl rfl ?_
  refine wl_nil ?_
  refine pe_seq ?_
  refine wc_seq ?_
  refine wc_region ?_
  refine wl_ex (ex_move rfl) rfl rfl ?_
  refine wl_ex (ex_move rfl) rfl rfl ?_
  refine wl_callV [.tmp 5, .tmp 6] rfl ok_56 rfl (fun w hm => c_IndexFuncD Al cl l f caps p w (((sl_arg hl rfl)).at hm) (by first | omega | assumption | (simp only [List.length_cons, List.length_nil]; omega)) hok (fun d w' hu => hf d w' (hm.upd.trans hu))  ) rfl ?_
  refine wl_ex (ex_geq rfl rfl) rfl rfl ?_
  refine wl_ex (ex_assign rfl) rfl rfl ?_
  refine wl_nil ?_
  refine pe_seq ?_
  refine wc_ret ?_
  refine pe_ret1 rfl rfl rfl (fun w' hm => ⟨?_, hm.ent (.nil _)⟩)
  exact congrArg Value.bool (decide_eq_decide.2 (idxI_nonneg p l))

theorem c_areDebts1 (d : Debt) (r : Nat) (lim : Int) (w : World) (hr : RowAt w r 3 [.int .i64 lim]) :
    Cl Try.prog 44 [.agg (encD d).toArray, .pointer (some ⟨r, 0, none⟩)] w (IsV (.bool (decide (¬ okD lim d))) w) := by
  refine cl_of Try.func44 rfl Try.ntmps44 rfl (Mem.refl w) ?_
  refine wc_seq ?_
  refine wc_region ?_
  refine wl_box rfl rfl rfl fun r1 => ?_
  refine wl_ex (ex_assign rfl) rfl rfl ?_
  refine wl_nil ?_
  refine pe_seq ?_
  refine wc_seq ?_
  refine wc_region ?_
  refine wl_ex (ex_fieldAddr (off' := 0) rfl Try.underlying39 rfl sz_3 rfl rfl) rfl rfl ?_
  refine wl_ex (ex_load rfl ag_3 (rd_row1 (.head _ _) rfl)) rfl rfl ?_
  refine wl_callV [.tmp 5, .const (.int .i64 0), .const (.int .i64 7)] rfl ok_42 rfl (fun w hm => c_isIn d.frm 0 7 w   ) rfl ?_
  refine wl_ex (ex_not rfl) rfl rfl ?_
  refine wl_ex (ex_move rfl) rfl rfl ?_
  by_cases g2 : ¬ (0 ≤ d.frm ∧ d.frm ≤ 7)
  · refine wl_skip rfl rfl rfl (fun h => of_decide_eq_false (Value.bool.inj h) g2) rfl rfl ?_
    refine wl_skip rfl rfl rfl (fun h => of_decide_eq_false (Value.bool.inj h) g2) rfl rfl ?_
    refine wl_skip rfl rfl rfl (fun h => of_decide_eq_false (Value.bool.inj h) g2) rfl rfl ?_
    refine wl_skip rfl rfl rfl (fun h => of_decide_eq_false (Value.bool.inj h) g2) rfl rfl ?_
    refine wl_ex (ex_pickt rfl (decide_eq_true g2) rfl) rfl rfl ?_
    refine wl_ex (ex_move rfl) rfl rfl ?_
    refine wl_skip rfl rfl rfl (by simp) rfl rfl ?_
    refine wl_skip rfl rfl rfl (by simp) rfl rfl ?_
    refine wl_skip rfl rfl rfl (by simp) rfl rfl ?_
    refine wl_skip rfl rfl rfl (by simp) rfl rfl ?_
    refine wl_skip rfl rfl rfl (by simp) rfl rfl ?_
    refine wl_ex (ex_pickt rfl rfl rfl) rfl rfl ?_
    refine wl_ex (ex_move rfl) rfl rfl ?_
    refine wl_skip rfl rfl rfl (by simp) rfl rfl ?_
    refine wl_skip rfl rfl rfl (by simp) rfl rfl ?_
    refine wl_skip rfl rfl rfl (by simp) rfl rfl ?_
    refine wl_skip rfl rfl rfl (by simp) rfl rfl ?_
    refine wl_skip rfl rfl rfl (by simp) rfl rfl ?_
    refine wl_ex (ex_pickt rfl rfl rfl) rfl rfl ?_
    refine wl_ex (ex_assign rfl) rfl rfl ?_
    refine wl_nil ?_
    refine pe_seq ?_
    refine wc_ret ?_
    refine pe_ret1 rfl rfl rfl (fun w' hm => ⟨?_, hm.ent (.nil _)⟩)
    refine congrArg Value.bool (by grind [okD])
  · refine wl_pass rfl rfl rfl (decide_eq_false g2) ?_
    refine wl_ex (ex_fieldAddr (off' := 1) rfl Try.underlying39 rfl sz_3 rfl rfl) rfl rfl ?_
    refine wl_pass rfl rfl rfl (decide_eq_false g2) ?_
    refine wl_ex (ex_load rfl ag_3 (rd_row1 (.head _ _) rfl)) rfl rfl ?_
    refine wl_pass rfl rfl rfl (decide_eq_false g2) ?_
    refine wl_callV [.tmp 10, .const (.int .i64 0), .const (.int .i64 7)] rfl ok_42 rfl (fun w hm => c_isIn d.to 0 7 w   ) rfl ?_
    refine wl_pass rfl rfl rfl (decide_eq_false g2) ?_
    refine wl_ex (ex_not rfl) rfl rfl ?_
    refine wl_ex (ex_pickf rfl (decide_eq_false g2) rfl) rfl rfl ?_
    refine wl_ex (ex_move rfl) rfl rfl ?_
    by_cases g3 : ¬ (0 ≤ d.to ∧ d.to ≤ 7)
    · refine wl_skip rfl rfl rfl (fun h => of_decide_eq_false (Value.bool.inj h) g3) rfl rfl ?_
      refine wl_skip rfl rfl rfl (fun h => of_decide_eq_false (Value.bool.inj h) g3) rfl rfl ?_
      refine wl_skip rfl rfl rfl (fun h => of_decide_eq_false (Value.bool.inj h) g3) rfl rfl ?_
      refine wl_skip rfl rfl rfl (fun h => of_decide_eq_false (Value.bool.inj h) g3) rfl rfl ?_
      refine wl_skip rfl rfl rfl (fun h => of_decide_eq_false (Value.bool.inj h) g3) rfl rfl ?_
      refine wl_ex (ex_pickt rfl (decide_eq_true g3) rfl) rfl rfl ?_
      refine wl_ex (ex_move rfl) rfl rfl ?_
      refine wl_skip rfl rfl rfl (by simp) rfl rfl ?_
      refine wl_skip rfl rfl rfl (by simp) rfl rfl ?_
      refine wl_skip rfl rfl rfl (by simp) rfl rfl ?_
      refine wl_skip rfl rfl rfl (by simp) rfl rfl ?_
      refine wl_skip rfl rfl rfl (by simp) rfl rfl ?_
      refine wl_ex (ex_pickt rfl rfl rfl) rfl rfl ?_
      refine wl_ex (ex_assign rfl) rfl rfl ?_
      refine wl_nil ?_
      refine pe_seq ?_
      refine wc_ret ?_
      refine pe_ret1 rfl rfl rfl (fun w' hm => ⟨?_, hm.ent (.nil _)⟩)
      refine congrArg Value.bool (by grind [okD])
    · refine wl_pass rfl rfl rfl (decide_eq_false g3) ?_
      refine wl_ex (ex_fieldAddr (off' := 0) rfl Try.underlying39 rfl sz_3 rfl rfl) rfl rfl ?_
      refine wl_pass rfl rfl rfl (decide_eq_false g3) ?_
      refine wl_ex (ex_load rfl ag_3 (rd_row1 (.head _ _) rfl)) rfl rfl ?_
      refine wl_pass rfl rfl rfl (decide_eq_false g3) ?_
      refine wl_ex (ex_fieldAddr (off' := 1) rfl Try.underlying39 rfl sz_3 rfl rfl) rfl rfl ?_
      refine wl_pass rfl rfl rfl (decide_eq_false g3) ?_
      refine wl_ex (ex_load rfl ag_3 (rd_row1 (.head _ _) rfl)) rfl rfl ?_
      refine wl_pass rfl rfl rfl (decide_eq_false g3) ?_
      refine wl_ex (ex_eql rfl rfl) rfl rfl ?_
      refine wl_ex (ex_pickf rfl (decide_eq_false g3) rfl) rfl rfl ?_
      refine wl_ex (ex_move rfl) rfl rfl ?_
      by_cases g4 : d.frm = d.to
      · refine wl_skip rfl rfl rfl (fun h => of_decide_eq_false (Value.bool.inj h) g4) rfl rfl ?_
        refine wl_skip rfl rfl rfl (fun h => of_decide_eq_false (Value.bool.inj h) g4) rfl rfl ?_
        refine wl_skip rfl rfl rfl (fun h => of_decide_eq_false (Value.bool.inj h) g4) rfl rfl ?_
        refine wl_skip rfl rfl rfl (fun h => of_decide_eq_false (Value.bool.inj h) g4) rfl rfl ?_
        refine wl_skip rfl rfl rfl (fun h => of_decide_eq_false (Value.bool.inj h) g4) rfl rfl ?_
        refine wl_ex (ex_pickt rfl (decide_eq_true g4) rfl) rfl rfl ?_
        refine wl_ex (ex_assign rfl) rfl rfl ?_
        refine wl_nil ?_
        refine pe_seq ?_
        refine wc_ret ?_
        refine pe_ret1 rfl rfl rfl (fun w' hm => ⟨?_, hm.ent (.nil _)⟩)
        refine congrArg Value.bool (by grind [okD])
      · refine wl_pass rfl rfl rfl (decide_eq_false g4) ?_
        refine wl_ex (ex_fieldAddr (off' := 2) rfl Try.underlying39 rfl sz_3 rfl rfl) rfl rfl ?_
        refine wl_pass rfl rfl rfl (decide_eq_false g4) ?_
        refine wl_ex (ex_load rfl ag_3 (rd_row1 (.head _ _) rfl)) rfl rfl ?_
        refine wl_pass rfl rfl rfl (decide_eq_false g4) ?_
        refine wl_ex (ex_load rfl ag_3 (rd_fix1 hr (by simp) rfl)) rfl rfl ?_
        refine wl_pass rfl rfl rfl (decide_eq_false g4) ?_
        refine wl_callV [.tmp 23, .const (.int .i64 1), .tmp 24] rfl ok_42 rfl (fun w hm => c_isIn d.amt 1 lim w   ) rfl ?_
        refine wl_pass rfl rfl rfl (decide_eq_false g4) ?_
        refine wl_ex (ex_not rfl) rfl rfl ?_
        refine wl_ex (ex_pickf rfl (decide_eq_false g4) rfl) rfl rfl ?_
        refine wl_ex (ex_assign rfl) rfl rfl ?_
        refine wl_nil ?_
        refine pe_seq ?_
        refine wc_ret ?_
        refine pe_ret1 rfl rfl rfl (fun w' hm => ⟨?_, hm.ent (.nil _)⟩)
        refine congrArg Value.bool (by grind [okD])

theorem c_areDebts (Al : Option Addr) (cl : Nat) (l : List Debt) (lim : Int) (w : World) (hl : Sl w Al (encs encD l)) (hlen : l.length ≤ 1000) :
    Cl Try.prog 33 [.slice Al l.length cl, .int .i64 lim] w (IsV (.bool (decide (DebtsOK lim l))) w) := by
  refine cl_of Try.func33 rfl Try.ntmps33 rfl (Mem.refl w) ?_
  refine wc_seq ?_
  refine wc_region ?_
  refine wl_box rfl rfl rfl fun r1 => ?_
  refine wl_ex (ex_assign rfl) rfl rfl ?_
  refine wl_nil ?_
  refine pe_seq ?_
  refine wc_seq ?_
  refine wc_region ?_
  refine wl_ex (ex_makeFunc (os := []) (cs := [.tmp 3]) rfl rfl) rfl rfl ?_
  refine wl_ex (ex_assign rfl) rfl rfl ?_
  refine wl_nil ?_
  refine pe_seq ?_
  refine wc_seq ?_
  refine wc_region ?_
  refine wl_ex (ex_move rfl) rfl rfl ?_
  refine wl_ex (ex_len Try.underlying29 rfl) rfl rfl ?_
  refine wl_ex (ex_leq rfl rfl) rfl rfl ?_
  refine wl_ex (ex_move rfl) rfl rfl ?_
  by_cases g2 : (l.length : Int) ≤ 60
  · refine wl_pass rfl rfl rfl (decide_eq_true g2) ?_
    refine wl_ex (ex_move rfl) rfl rfl ?_
    refine wl_pass rfl rfl rfl (decide_eq_true g2) ?_
    refine wl_ex (ex_move rfl) rfl rfl ?_
    refine wl_pass rfl rfl rfl (decide_eq_true g2) ?_
    refine wl_callV [.tmp 11, .tmp 12] rfl ok_45 rfl (fun w hm => c_ContainsFuncD Al cl l 44 [.pointer (some ⟨r1, 0, none⟩)] (fun d => ¬ okD lim d) w (((sl_arg hl rfl)).at hm) (by first | omega | assumption | (simp only [List.length_cons, List.length_nil]; omega)) ok_44 (fun d w' hu => c_areDebts1 d r1 lim w' ((hm.rowAt (.head _ _)).upd hu (by simp)))  ) rfl ?_
    refine wl_pass rfl rfl rfl (decide_eq_true g2) ?_
    refine wl_ex (ex_not rfl) rfl rfl ?_
    refine wl_ex (ex_pickt rfl (decide_eq_true g2) rfl) rfl rfl ?_
    refine wl_ex (ex_assign rfl) rfl rfl ?_
    refine wl_nil ?_
    refine pe_seq ?_
    refine wc_ret ?_
    refine pe_ret1 rfl rfl rfl (fun w' hm => ⟨?_, hm.ent (.nil _)⟩)
    refine congrArg Value.bool (decide_eq_decide.2 ?_)
    simp only [DebtsOK, not_exists, not_and, Decidable.not_not]
    exact ⟨fun h => ⟨h, by omega⟩, fun h => h.1⟩
  · refine wl_skip rfl rfl rfl (fun h => g2 (of_decide_eq_true (Value.bool.inj h))) rfl rfl ?_
    refine wl_skip rfl rfl rfl (fun h => g2 (of_decide_eq_true (Value.bool.inj h))) rfl rfl ?_
    refine wl_skip rfl rfl rfl (fun h => g2 (of_decide_eq_true (Value.bool.inj h))) rfl rfl ?_
    refine wl_skip rfl rfl rfl (fun h => g2 (of_decide_eq_true (Value.bool.inj h))) rfl rfl ?_
    refine wl_ex (ex_pickf rfl (decide_eq_false g2) rfl) rfl rfl ?_
    refine wl_ex (ex_assign rfl) rfl rfl ?_
    refine wl_nil ?_
    refine pe_seq ?_
    refine wc_ret ?_
    refine pe_ret1 rfl rfl rfl (fun w' hm => ⟨?_, hm.ent (.nil _)⟩)
    refine congrArg Value.bool (Eq.symm (decide_eq_false ?_))
    unfold DebtsOK
    omega

theorem c_Valid (Al : Option Addr) (cl : Nat) (l : List Debt) (w : World) (hl : Sl w Al (encs encD l)) (hlen : l.length ≤ 1000) :
    Cl Try.prog 19 [.slice Al l.length cl] w (IsV (.bool (decide (DebtsOK 1000000000 l))) w) := by
  refine cl_of Try.func19 rfl Try.ntmps19 rfl (Mem.refl w) ?_
  refine wc_seq ?_
  refine wc_region ?_
  refine wl_ex (ex_assign rfl) rfl rfl ?_
  refine wl_nil ?_
  refine pe_seq ?_
  refine wc_seq ?_
  refine wc_region ?_
  refine wl_ex (ex_move rfl) rfl rfl ?_
  refine wl_callV [.tmp 3, .const (.int .i64 1000000000)] rfl ok_33 rfl (fun w hm => c_areDebts Al cl l 1000000000 w (((sl_arg hl rfl)).at hm)  (by first | omega | assumption)) rfl ?_
  refine wl_ex (ex_assign rfl) rfl rfl ?_
  refine wl_nil ?_
  refine pe_seq ?_
  refine wc_ret ?_
  refine pe_ret1 rfl rfl rfl (fun w' hm => ⟨?_, hm.ent (.nil _)⟩)
  first | rfl | (congr 1; omega)

theorem c_balancesN (Al : Option Addr) (cl : Nat) (l : List Debt) (w : World) (hl : Sl w Al (encs encD l)) (hok : DebtsOK 1000000000000 l) :
    Cl Try.prog 23 [.slice Al l.length cl] w (IsS ((balI l).length) 3 1 (encs encI (balI l)) w) := by
  refine cl_of Try.func23 rfl Try.ntmps23 rfl (Mem.refl w) ?_
  refine wc_seq ?_
  refine wc_region ?_
  refine wl_ex (ex_assign rfl) rfl rfl ?_
  refine wl_nil ?_
  refine pe_seq ?_
  refine wc_seq ?_
  refine wc_region ?_
  refine wl_make (n := 8) rfl rfl Try.underlying41 sz_3 ze_3 rfl by_3 (by omega) (by omega) rfl fun r1 => ?_
  rw [rep_enc]
  refine wl_ex (ex_assign rfl) rfl rfl ?_
  refine wl_nil ?_
  refine pe_seq ?_
  refine wc_seq ?_
  refine wc_seq ?_
  refine wc_region ?_
  refine wl_ex (ex_move rfl) rfl rfl ?_
  refine wl_ex (ex_len Try.underlying29 rfl) rfl rfl ?_
  refine wl_ex (ex_move rfl) rfl rfl ?_
  refine wl_nil ?_
  refine pe_seq ?_
  refine wc_block ?_
  refine wc_loop (σ := Int × (List Int)) (fun s => [(9, .int .i64 s.1), (3, .slice (some ⟨r1, 0, none⟩) 8 8), (7, .slice Al l.length cl), (8, .int .i64 (l.length : Int))]) (fun s => [.own (some ⟨r1, 0, none⟩) 8 8 3 1 (encs encI s.2)]) (fun s => 0 ≤ s.1 ∧ s.1 ≤ (l.length : Int) ∧ s.2 = balI (l.take s.1.toNat)) (fun s => ((l.length : Int) - s.1).toNat) ((0 : Int), List.replicate 8 0) (Sub.cons rfl rfl (Sub.cons rfl rfl (Sub.cons rfl rfl (Sub.cons rfl rfl (Sub.nil _))))) (.cons (.head _ _) (by first | rfl | simp) (.nil _)) (by simp [balI]) ?_
  rintro ⟨i, b⟩ hG
  show WC _ _ _ [(9, .int .i64 i), (3, .slice (some ⟨r1, 0, none⟩) 8 8), (7, .slice Al l.length cl), (8, .int .i64 (l.length : Int))] [.own (some ⟨r1, 0, none⟩) 8 8 3 1 (encs encI b)]
  replace hG : 0 ≤ i ∧ i ≤ (l.length : Int) ∧ b = balI (l.take i.toNat) := hG
  obtain ⟨h1, h2, h3⟩ := hG
  have hl60 := hok.2
  have hbd := balI_bound hok i.toNat
  rw [← h3] at hbd
  have hbl : b.length = 8 := by rw [h3]; exact balI_length _
  refine wc_seq ?_
  refine wc_region ?_
  refine wl_ex (ex_lss rfl rfl) rfl rfl ?_
  refine wl_nil ?_
  refine pe_seq ?_
  refine wc_seq ?_
  refine wc_ite rfl (fun c10 => ?_) (fun c10 => ?_)
  · refine wc_skip ?_
    refine pe_seq ?_
    refine wc_seq ?_
    refine wc_block ?_
    refine wc_seq ?_
    refine wc_region ?_
    refine wl_ex (ex_indexAddr rfl rfl Try.underlying29 sz_39 (sl_arg hl rfl) (by omega) (by omega) (enc_pos encD_len (by omega))) rfl rfl ?_
    obtain ⟨d_l_i, hd_l_i⟩ := get_if l i
    refine wl_ex (ex_loadS rfl ag_39 sz_39 (encD_len _) (rd_encs encD_len (sl_arg hl rfl) (hd_l_i (by omega) (by omega)))) rfl rfl ?_
    refine wl_alloc ze_39 rfl rfl fun r2 => ?_
    refine wl_storeS (vs := [.int .i64 d_l_i.frm, .int .i64 d_l_i.to, .int .i64 d_l_i.amt]) rfl rfl (by simp [Value.oneCell']) sz_39 rfl (.head _ _) (by simp) ?_
    rw [show ovr [.int .i64 0, .int .i64 0, .int .i64 0] 0 [.int .i64 d_l_i.frm, .int .i64 d_l_i.to, .int .i64 d_l_i.amt] = [.int .i64 d_l_i.frm, .int .i64 d_l_i.to, .int .i64 d_l_i.amt] from rfl]
    refine wl_nil ?_
    refine pe_seq ?_
    refine wc_seq ?_
    refine wc_draw [.row r2 39 [.int .i64 d_l_i.frm, .int .i64 d_l_i.to, .int .i64 d_l_i.amt]] [(0, true), (1, true), (2, true), (3, true), (5, true), (6, true), (4, false), (7, true), (8, true), (9, false)] mixed (by kernel_rfl) (.cons (.head _ _) rfl (.nil _)) ?_
    have hdi := debts_idx hok _ (mem_at (hd_l_i (by omega) (by omega)))
    have hda := debts_amt hok _ (mem_at (hd_l_i (by omega) (by omega)))
    have hdk := hok.1 _ (mem_at (hd_l_i (by omega) (by omega)))
    unfold okD at hdk
    refine cn_ex rfl (ex_move rfl) rfl rfl ?_
    refine cn_ex rfl (ex_fieldAddr (off' := 0) rfl Try.underlying39 rfl sz_3 rfl rfl) rfl rfl ?_
    refine cn_ex rfl (ex_load rfl ag_3 (rd_row1 (.head _ _) rfl)) rfl rfl ?_
    refine cn_ex rfl (ex_indexAddrN rfl rfl rfl Try.underlying41 sz_3 (by omega) (by omega)) rfl rfl ?_
    refine cn_ex rfl (ex_fieldAddr (off' := 2) rfl Try.underlying39 rfl sz_3 rfl rfl) rfl rfl ?_
    refine cn_ex rfl (ex_load rfl ag_3 (rd_row1 (.head _ _) rfl)) rfl rfl ?_
    refine cn_tail rfl ?_
    obtain ⟨d_b_d_l_i_frm, hd_b_d_l_i_frm⟩ := get_if b d_l_i.frm
    refine wl_ex (ex_load rfl ag_3 (rd_int (sl_own (.tail (.head _ _))) (hd_b_d_l_i_frm (by omega) (by omega)))) rfl rfl ?_
    refine cn_back (.cons (.head _ _) rfl (.nil _)) ?_
    have hv1 := wn hbd (hd_b_d_l_i_frm (by omega) (by omega))
    refine cn_ex rfl (ex_sub rfl rfl (by omega) (by omega)) rfl rfl ?_
    refine cn_ex rfl (ex_indexAddrN rfl rfl rfl Try.underlying41 sz_3 (by omega) (by omega)) rfl rfl ?_
    refine cn_tail rfl ?_
    refine wl_storeI rfl rfl sz_3 (.tail (.head _ _)) (by omega) (by omega) ?_
    rw [Int.sub_eq_add_neg]
    rw [set_addAt (hd_b_d_l_i_frm (by omega) (by omega))]
    generalize hb1 : addAt b d_l_i.frm (-d_l_i.amt) = b1
    have hb1l : b1.length = 8 := by rw [← hb1, addAt_length]; exact hbl
    have hw1 : Within 121000000000000 b1 := by rw [← hb1]; exact within_addAt (m := 120000000000000) (a := 1000000000000) hbd (by omega) (by omega)
    refine cn_back (.cons (.tail (.head _ _)) rfl (.nil _)) ?_
    refine cn_nil ?_
    refine pe_seq ?_
    refine wc_draw [.row r2 39 [.int .i64 d_l_i.frm, .int .i64 d_l_i.to, .int .i64 d_l_i.amt]] [(0, true), (1, true), (2, true), (3, true), (5, true), (6, true), (4, false), (7, true), (8, true), (9, false)] mixed (by kernel_rfl) (.cons (.tail (.head _ _)) rfl (.nil _)) ?_
    refine cn_ex rfl (ex_move rfl) rfl rfl ?_
    refine cn_ex rfl (ex_fieldAddr (off' := 1) rfl Try.underlying39 rfl sz_3 rfl rfl) rfl rfl ?_
    refine cn_ex rfl (ex_load rfl ag_3 (rd_row1 (.head _ _) rfl)) rfl rfl ?_
    refine cn_ex rfl (ex_indexAddrN rfl rfl rfl Try.underlying41 sz_3 (by omega) (by omega)) rfl rfl ?_
    refine cn_ex rfl (ex_fieldAddr (off' := 2) rfl Try.underlying39 rfl sz_3 rfl rfl) rfl rfl ?_
    refine cn_ex rfl (ex_load rfl ag_3 (rd_row1 (.head _ _) rfl)) rfl rfl ?_
    refine cn_tail rfl ?_
    obtain ⟨d_b1_d_l_i_to, hd_b1_d_l_i_to⟩ := get_if b1 d_l_i.to
    refine wl_ex (ex_load rfl ag_3 (rd_int (sl_own (.head _ _)) (hd_b1_d_l_i_to (by omega) (by omega)))) rfl rfl ?_
    refine cn_back (.cons (.tail (.head _ _)) rfl (.nil _)) ?_
    have hv2 := wn hw1 (hd_b1_d_l_i_to (by omega) (by omega))
    refine cn_ex rfl (ex_add rfl rfl (by omega) (by omega)) rfl rfl ?_
    refine cn_ex rfl (ex_indexAddrN rfl rfl rfl Try.underlying41 sz_3 (by omega) (by omega)) rfl rfl ?_
    refine cn_tail rfl ?_
    refine wl_storeI rfl rfl sz_3 (.head _ _) (by omega) (by omega) ?_
    rw [set_addAt (hd_b1_d_l_i_to (by omega) (by omega))]
    generalize hb2 : addAt b1 d_l_i.to (d_l_i.amt) = b2
    refine cn_back (.cons (.tail (.head _ _)) rfl (.nil _)) ?_
    refine cn_nil ?_
    refine pe_block _ ?_
    refine pe_seq ?_
    refine wc_region ?_
    refine wl_ex (ex_add rfl rfl (by omega) (by omega)) rfl rfl ?_
    refine wl_ex (ex_move rfl) rfl rfl ?_
    refine wl_nil ?_
    refine pe_again ⟨i + 1, b2⟩ (Sub.cons rfl rfl (Sub.cons rfl rfl (Sub.cons rfl rfl (Sub.cons rfl rfl (Sub.nil _))))) (.cons (.head _ _) (by first | rfl | simp) (.nil _)) ?_ ?_
    · show 0 ≤ (i + 1) ∧ (i + 1) ≤ (l.length : Int) ∧ b2 = balI (l.take (i + 1).toNat)
      have hi : (i + 1).toNat = i.toNat + 1 := by omega
      refine ⟨by omega, by omega, ?_⟩
      rw [hi, balI_take (hd_l_i (by omega) (by omega)), ← h3, ← hb2, ← hb1]
      unfold bal1
      first | rfl | exact addAt_comm _ _ _ _ _ (by omega) (by omega) (by omega)
    · first | omega | (simp only []; omega)
  · refine wc_exit ?_
    refine pe_seq_exit ?_
    refine pe_loop_exit ?_
    refine pe_block_exit ?_
    refine pe_seq ?_
    refine wc_seq ?_
    refine wc_region ?_
    refine wl_ex (ex_move rfl) rfl rfl ?_
    refine wl_ex (ex_assign rfl) rfl rfl ?_
    refine wl_nil ?_
    refine pe_seq ?_
    refine wc_ret ?_
    refine pe_ret1 rfl rfl rfl (fun w' hm => isS_mk hm (.head _ _) ?_ ?_)
    · rw [h3, List.take_of_length_le (by omega)]
    · exact (balI_length l).symm

end Go.Proofs.Yteglbaidaekccaa
