/- Walks. -/
import Derived.Test.YteglbaidaekccaaWe
set_option linter.unusedVariables false
set_option linter.unusedSimpArgs false
set_option maxRecDepth 10000
namespace Go.Proofs.Yteglbaidaekccaa
open Go Go.RowKit
theorem pairsI_bd {l : List Debt} (h : DebtsOK 1000000000 l) : ∀ d ∈ l, -1000000000000 ≤ d.amt ∧ d.amt ≤ 1000000000000 := fun d hd => by have := debts_amt h d hd; omega
theorem book_debts {l : List Debt} (h : DebtsOK 1000000000 l) : ∀ d ∈ pairsI l, -1000000000000 ≤ d.amt ∧ d.amt ≤ 1000000000000 := by
  intro d hd
  unfold pairsI listI at hd
  rw [List.mem_flatMap] at hd
  obtain ⟨a, _, ha⟩ := hd
  unfold rowD at ha
  rw [List.mem_filterMap] at ha
  obtain ⟨k, _, hk⟩ := ha
  split at hk
  · simp only [Option.some.injEq] at hk
    have := book_bound h a k
    rw [← hk]
    exact ⟨by simp; omega, by simp; omega⟩
  · simp at hk
/-- a cycle or none, as two results: a slice of its own -/
abbrev cycL (o : Option (List Int)) : List Int := o.getD []
theorem ok_24 : callOK Try.prog 24 = true := by kernel_rfl
theorem ok_26 : callOK Try.prog 26 = true := by kernel_rfl

theorem c_Pairs (Al : Option Addr) (cl : Nat) (l : List Debt) (w : World) (hl : Sl w Al (encs encD l)) (hlen : l.length ≤ 1000) :
    Cl Try.prog 14 [.slice Al l.length cl] w (IsS2 ((pairR l).length) 39 3 (encs encD (pairR l)) (.int .i64 (errN l)) w) := by
  refine cl_of Try.func14 rfl Try.ntmps14 rfl (Mem.refl w) ?_
  refine wc_seq ?_
  refine wc_region ?_
  refine wl_ex (ex_assign rfl) rfl rfl ?_
  refine wl_ex (ex_assign rfl) rfl rfl ?_
  refine wl_nil ?_
  refine pe_seq ?_
  refine wc_seq ?_
  refine wc_seq ?_
  refine wc_region ?_
  refine wl_ex (ex_move rfl) rfl rfl ?_
  refine wl_callV [.tmp 4] rfl ok_19 rfl (fun w hm => c_Valid Al cl l w (((sl_arg hl rfl)).at hm)  (by first | omega | assumption)) rfl ?_
  refine wl_ex (ex_not rfl) rfl rfl ?_
  refine wl_nil ?_
  refine pe_seq ?_
  refine wc_ite rfl (fun c6 => ?_) (fun c6 => ?_)
  · refine wc_seq ?_
    refine wc_region ?_
    refine wl_ex (ex_assign rfl) rfl rfl ?_
    refine wl_ex (ex_assign rfl) rfl rfl ?_
    refine wl_nil ?_
    refine pe_seq ?_
    refine wc_ret ?_
    refine pe_seq_ret ?_
    refine pe_nilOwn 39 3 ?_
    refine pe_ret2 rfl rfl rfl rfl (fun w' hm => isS2_mk hm (.head _ _) ?_ ?_ ?_)
    · simp [pairR, c6, encs]
    · simp [errN, c6]
    · simp [pairR, c6]
  · have c6 := Decidable.not_not.1 c6
    have hb := pairsI_bd c6
    refine wc_skip ?_
    refine pe_seq ?_
    refine wc_seq ?_
    refine wc_region ?_
    refine wl_ex (ex_move rfl) rfl rfl ?_
    refine wl_callR [.tmp 7] rfl ok_24 rfl (fun w hm => c_open Al cl l w (((sl_arg hl rfl)).at hm)  (by first | assumption)) rfl fun r1 _ => ?_
    refine wl_callS [.tmp 8] rfl ok_26 rfl (fun w hm => c_list r1 (bookOf l) w (hm.rowAt (.head _ _))  (by first | assumption | exact book_bound (by assumption) | exact Norm.bd (by assumption))) rfl fun A2 c3 => ?_
    refine wl_ex (ex_assign rfl) rfl rfl ?_
    refine wl_ex (ex_assign rfl) rfl rfl ?_
    refine wl_nil ?_
    refine pe_seq ?_
    refine wc_ret ?_
    refine pe_ret2 rfl rfl rfl rfl (fun w' hm => isS2_mk hm (.head _ _) ?_ ?_ ?_)
    · simp [pairR, c6, pairsI]
    · simp [errN, c6]
    · simp [pairR, c6, pairsI]

end Go.Proofs.Yteglbaidaekccaa
