/- Walks. -/
import Derived.Test.YteglbaidaekccaaE8
import Derived.Test.YteglbaidaekccaaProg
import Derived.Test.YteglbaidaekccaaP39
set_option linter.unusedVariables false
set_option linter.unusedSimpArgs false
set_option maxRecDepth 10000
namespace Go.Proofs.Yteglbaidaekccaa
open Go Go.RowKit
def encD (d : Debt) : List Value := [.int .i64 d.frm, .int .i64 d.to, .int .i64 d.amt]
theorem encD_len (d : Debt) : (encD d).length = 3 := rfl
theorem encD_one1 (d : Debt) : ∀ v ∈ encD d, v.oneCell' = true := by simp [encD, Value.oneCell']
theorem encD_one (l : List Debt) : ∀ v ∈ encs encD l, v.oneCell' = true := by
  intro v hv
  simp only [encs, List.mem_flatMap] at hv
  obtain ⟨d, _, hd⟩ := hv
  exact encD_one1 d v hd
def toID (d : Debt) : List Int := [d.frm, d.to, d.amt]
theorem toID_inj {d e : Debt} : toID d = toID e ↔ d = e := by
  cases d; cases e; simp [toID]
theorem mixed : Try.prog.follows .mixedOrders = true := by kernel_rfl



theorem c_isIn (n lo hi : Int) (w : World)  :
    Cl Try.prog 42 [.int .i64 n, .int .i64 lo, .int .i64 hi] w (IsV (.bool (decide (lo ≤ n ∧ n ≤ hi))) w) := by
  refine cl_of Try.func42 rfl Try.ntmps42 rfl (Mem.refl w) ?_
  refine wc_seq ?_
  refine wc_region ?_
  refine wl_ex (ex_assign rfl) rfl rfl ?_
  refine wl_nil ?_
  refine pe_seq ?_
  refine wc_cut (σ := Unit) (fun _ => [(6, .bool (decide ((lo ≤ n) ∧ (n ≤ hi))))]) (fun _ => []) (fun _ => True) ?_ ?_
  · refine wc_region ?_
    refine wl_ex (ex_move rfl) rfl rfl ?_
    refine wl_ex (ex_move rfl) rfl rfl ?_
    refine wl_ex (ex_leq rfl rfl) rfl rfl ?_
    refine wl_ex (ex_move rfl) rfl rfl ?_
    by_cases g1 : lo ≤ n
    · refine wl_pass rfl rfl rfl (decide_eq_true g1) ?_
      refine wl_ex (ex_move rfl) rfl rfl ?_
      refine wl_pass rfl rfl rfl (decide_eq_true g1) ?_
      refine wl_ex (ex_move rfl) rfl rfl ?_
      refine wl_pass rfl rfl rfl (decide_eq_true g1) ?_
      refine wl_ex (ex_leq rfl rfl) rfl rfl ?_
      refine wl_ex (ex_pickt rfl (decide_eq_true g1) rfl) rfl rfl ?_
      refine wl_ex (ex_assign rfl) rfl rfl ?_
      refine wl_nil ?_
      refine pe_cut () (Sub.cons rfl (congrArg Value.bool (by first | (simp [g1]; done) | grind)) (Sub.nil _)) (.nil _) trivial
    · refine wl_skip rfl rfl rfl (fun h => g1 (of_decide_eq_true (Value.bool.inj h))) rfl rfl ?_
      refine wl_skip rfl rfl rfl (fun h => g1 (of_decide_eq_true (Value.bool.inj h))) rfl rfl ?_
      refine wl_skip rfl rfl rfl (fun h => g1 (of_decide_eq_true (Value.bool.inj h))) rfl rfl ?_
      refine wl_ex (ex_pickf rfl (decide_eq_false g1) rfl) rfl rfl ?_
      refine wl_ex (ex_assign rfl) rfl rfl ?_
      refine wl_nil ?_
      refine pe_cut () (Sub.cons rfl (congrArg Value.bool (by first | (simp [g1]; done) | grind)) (Sub.nil _)) (.nil _) trivial
  · rintro _ _
    show WC _ _ _ [(6, .bool (decide ((lo ≤ n) ∧ (n ≤ hi))))] []
    refine wc_ret ?_
    refine pe_ret1 rfl rfl rfl (fun w' hm => ⟨?_, hm.ent (.nil _)⟩)
    first | rfl | (congr 1; omega)

theorem c_pickL (c n : Int) (w : World) (b1 : -9223372036854775808 ≤ c ∧ c < 9223372036854775808) (b3 : 0 < n) :
    Cl Try.prog 7 [.int .i64 c, .int .i64 n] w (IsV (.int .i64 (pickI c n)) w) := by
  refine cl_of Try.func7 rfl Try.ntmps7 rfl (Mem.refl w) ?_
  refine wc_seq ?_
  refine wc_region ?_
  refine wl_ex (ex_assign rfl) rfl rfl ?_
  refine wl_nil ?_
  refine pe_seq ?_
  refine wc_seq ?_
  refine wc_seq ?_
  refine wc_region ?_
  refine wl_ex (ex_move rfl) rfl rfl ?_
  refine wl_ex (ex_lss rfl rfl) rfl rfl ?_
  refine wl_nil ?_
  refine pe_seq ?_
  refine wc_ite rfl (fun c6 => ?_) (fun c6 => ?_)
  · refine wc_region ?_
    refine wl_ex (ex_move rfl) rfl rfl ?_
    refine wl_ex (ex_add rfl rfl (by omega) (by omega)) rfl rfl ?_
    refine wl_ex (ex_neg rfl (by omega) (by omega)) rfl rfl ?_
    refine wl_ex (ex_assign rfl) rfl rfl ?_
    refine wl_nil ?_
    refine pe_seq ?_
    refine wc_seq ?_
    refine wc_region ?_
    refine wl_ex (ex_move rfl) rfl rfl ?_
    refine wl_ex (ex_move rfl) rfl rfl ?_
    refine wl_ex (ex_rem rfl rfl (by omega) (by omega)) rfl rfl ?_
    refine wl_ex (ex_assign rfl) rfl rfl ?_
    refine wl_nil ?_
    refine pe_seq ?_
    refine wc_ret ?_
    refine pe_ret1 rfl rfl rfl (fun w' hm => ⟨?_, hm.ent (.nil _)⟩)
    simp only [pickI]; simp [*]
  · refine wc_skip ?_
    refine pe_seq ?_
    refine wc_seq ?_
    refine wc_region ?_
    refine wl_ex (ex_move rfl) rfl rfl ?_
    refine wl_ex (ex_move rfl) rfl rfl ?_
    refine wl_ex (ex_rem rfl rfl (by omega) (by omega)) rfl rfl ?_
    refine wl_ex (ex_assign rfl) rfl rfl ?_
    refine wl_nil ?_
    refine pe_seq ?_
    refine wc_ret ?_
    refine pe_ret1 rfl rfl rfl (fun w' hm => ⟨?_, hm.ent (.nil _)⟩)
    simp only [pickI]; simp [*]

end Go.Proofs.Yteglbaidaekccaa
