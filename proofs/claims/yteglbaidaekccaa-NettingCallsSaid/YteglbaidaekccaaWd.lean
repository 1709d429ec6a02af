/- Walks. -/
import Derived.Test.YteglbaidaekccaaWc
set_option linter.unusedVariables false
set_option linter.unusedSimpArgs false
set_option maxRecDepth 10000
namespace Go.Proofs.Yteglbaidaekccaa
open Go Go.RowKit

theorem ok_19 : callOK Try.prog 19 = true := by kernel_rfl
theorem ok_23 : callOK Try.prog 23 = true := by kernel_rfl

theorem c_BalancesN (Al : Option Addr) (cl : Nat) (l : List Debt) (w : World) (hl : Sl w Al (encs encD l)) (hlen : l.length ≤ 1000) :
    Cl Try.prog 10 [.slice Al l.length cl] w (IsS2 ((balR l).length) 3 1 (encs encI (balR l)) (.int .i64 (errN l)) w) := by
  refine cl_of Try.func10 rfl Try.ntmps10 rfl (Mem.refl w) ?_
  refine wc_seq ?_
  refine wc_region ?_
  refine wl_ex (ex_assign rfl) rfl rfl ?_
  refine wl_ex (ex_assign rfl) rfl rfl ?_
  refine wl_nil ?_
  refine pe_seq ?_
  refine wc_seq ?_
  refine wc_seq ?_
  refine wc_region ?_
  refine wl_ex (ex_move rfl) rfl rfl ?_
  refine wl_callV [.tmp 4] rfl ok_19 rfl (fun w hm => c_Valid Al cl l w (((sl_arg hl rfl)).at hm)  (by first | omega | assumption)) rfl ?_
  refine wl_ex (ex_not rfl) rfl rfl ?_
  refine wl_nil ?_
  refine pe_seq ?_
  refine wc_ite rfl (fun c6 => ?_) (fun c6 => ?_)
  · refine wc_seq ?_
    refine wc_region ?_
    refine wl_ex (ex_assign rfl) rfl rfl ?_
    refine wl_ex (ex_assign rfl) rfl rfl ?_
    refine wl_nil ?_
    refine pe_seq ?_
    refine wc_ret ?_
    refine pe_seq_ret ?_
    refine pe_nilOwn 3 1 ?_
    refine pe_ret2 rfl rfl rfl rfl (fun w' hm => isS2_mk hm (.head _ _) ?_ ?_ ?_)
    · simp [balR, c6, encs]
    · simp [errN, c6]
    · simp [balR, c6]
  · have c6 := Decidable.not_not.1 c6
    refine wc_skip ?_
    refine pe_seq ?_
    refine wc_seq ?_
    refine wc_region ?_
    refine wl_ex (ex_move rfl) rfl rfl ?_
    refine wl_callS [.tmp 7] rfl ok_23 rfl (fun w hm => c_balancesN Al cl l w (((sl_arg hl rfl)).at hm)  (by first | assumption | exact debts_mono (a := 1000000000) (by decide) (by assumption))) rfl fun A1 c2 => ?_
    refine wl_ex (ex_assign rfl) rfl rfl ?_
    refine wl_ex (ex_assign rfl) rfl rfl ?_
    refine wl_nil ?_
    refine pe_seq ?_
    refine wc_ret ?_
    refine pe_ret2 rfl rfl rfl rfl (fun w' hm => isS2_mk hm (.head _ _) ?_ ?_ ?_)
    · simp [balR, c6]
    · simp [errN, c6]
    · simp [balR, c6, balI_length]

end Go.Proofs.Yteglbaidaekccaa
