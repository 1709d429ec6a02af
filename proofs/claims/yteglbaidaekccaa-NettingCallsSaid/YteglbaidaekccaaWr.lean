/- Walks. -/
import Derived.Test.YteglbaidaekccaaWq
import Derived.Test.YteglbaidaekccaaP39
set_option linter.unusedVariables false
set_option linter.unusedSimpArgs false
set_option maxRecDepth 10000
namespace Go.Proofs.Yteglbaidaekccaa
open Go Go.RowKit
def encT (t : Tri) : List Value := [.int .i64 t.a, .int .i64 t.b, .int .i64 t.c]
theorem encT_len (t : Tri) : (encT t).length = 3 := rfl
theorem encT_one1 (t : Tri) : ∀ v ∈ encT t, v.oneCell' = true := by simp [encT, Value.oneCell']
theorem encT_one (l : List Tri) : ∀ v ∈ encs encT l, v.oneCell' = true := by
  intro v hv
  simp only [encs, List.mem_flatMap] at hv
  obtain ⟨d, _, hd⟩ := hv
  exact encT_one1 d v hd
theorem sf0 : ¬ (errN ([⟨0, 1, 10⟩, ⟨0, 1, 5⟩, ⟨1, 0, 4⟩, ⟨1, 2, 8⟩, ⟨2, 0, 6⟩]) ≠ 0) := of_decide_eq_true (by kernel_rfl)
theorem sf1 : ¬ (errI (balR ([⟨0, 1, 10⟩, ⟨0, 1, 5⟩, ⟨1, 0, 4⟩, ⟨1, 2, 8⟩, ⟨2, 0, 6⟩])) ≠ 0) := of_decide_eq_true (by kernel_rfl)
theorem sf2 : (!((cycI ([⟨0, 1, 10⟩, ⟨0, 1, 5⟩, ⟨1, 0, 4⟩, ⟨1, 2, 8⟩, ⟨2, 0, 6⟩])).isSome)) = false := by kernel_rfl
theorem sf3 : ¬ (((stlR (balR ([⟨0, 1, 10⟩, ⟨0, 1, 5⟩, ⟨1, 0, 4⟩, ⟨1, 2, 8⟩, ⟨2, 0, 6⟩]))).length : Int) ≠ 2) := of_decide_eq_true (by kernel_rfl)
theorem sf4 : ¬ (¬ (CheckP (balR ([⟨0, 1, 10⟩, ⟨0, 1, 5⟩, ⟨1, 0, 4⟩, ⟨1, 2, 8⟩, ⟨2, 0, 6⟩])) (stlR (balR ([⟨0, 1, 10⟩, ⟨0, 1, 5⟩, ⟨1, 0, 4⟩, ⟨1, 2, 8⟩, ⟨2, 0, 6⟩]))))) := of_decide_eq_true (by kernel_rfl)
theorem sf5 : (balR ([⟨0, 1, 10⟩, ⟨0, 1, 5⟩, ⟨1, 0, 4⟩, ⟨1, 2, 8⟩, ⟨2, 0, 6⟩])) = ([-5, 3, 2, 0, 0, 0, 0, 0]) := of_decide_eq_true (by kernel_rfl)
theorem sf6 : (pairR ([⟨0, 1, 10⟩, ⟨0, 1, 5⟩, ⟨1, 0, 4⟩, ⟨1, 2, 8⟩, ⟨2, 0, 6⟩])) = ([⟨0, 1, 11⟩, ⟨1, 2, 8⟩, ⟨2, 0, 6⟩]) := of_decide_eq_true (by kernel_rfl)
theorem sf7 : (cycL (cycI ([⟨0, 1, 10⟩, ⟨0, 1, 5⟩, ⟨1, 0, 4⟩, ⟨1, 2, 8⟩, ⟨2, 0, 6⟩]))) = ([0, 1, 2]) := of_decide_eq_true (by kernel_rfl)
theorem sf8 : (rndR ([⟨0, 1, 10⟩, ⟨0, 1, 5⟩, ⟨1, 0, 4⟩, ⟨1, 2, 8⟩, ⟨2, 0, 6⟩])) = ([⟨0, 1, 5⟩, ⟨1, 2, 2⟩]) := of_decide_eq_true (by kernel_rfl)
theorem sf9 : CheckP (balR ([⟨0, 1, 10⟩, ⟨0, 1, 5⟩, ⟨1, 0, 4⟩, ⟨1, 2, 8⟩, ⟨2, 0, 6⟩])) ([⟨0, 2, 2⟩, ⟨0, 1, 3⟩]) := of_decide_eq_true (by kernel_rfl)
theorem sf10 : ¬ (CheckP (balR ([⟨0, 1, 10⟩, ⟨0, 1, 5⟩, ⟨1, 0, 4⟩, ⟨1, 2, 8⟩, ⟨2, 0, 6⟩])) ([⟨0, 2, 5⟩])) := of_decide_eq_true (by kernel_rfl)
theorem sf11 : errI ([5, -5, 3, 4, -7, 0, 0, 0]) = 0 := of_decide_eq_true (by kernel_rfl)
theorem sf12 : errI ([5, -2, -3, 4, -4, 1, -1, 0]) = 0 := of_decide_eq_true (by kernel_rfl)
theorem sf13 : errI ([1, 0, 0, 0, 0, 0, 0, 0]) = 390 := of_decide_eq_true (by kernel_rfl)
theorem sf14 : ((stlR ([5, -5, 3, 4, -7, 0, 0, 0])).length : Int) = 3 := of_decide_eq_true (by kernel_rfl)
theorem sf15 : ((stlR ([5, -2, -3, 4, -4, 1, -1, 0])).length : Int) = 4 := of_decide_eq_true (by kernel_rfl)
theorem sf16 : DebtsOK 1000000000 ([⟨0, 1, 10⟩, ⟨0, 1, 5⟩, ⟨1, 0, 4⟩, ⟨1, 2, 8⟩, ⟨2, 0, 6⟩]) := of_decide_eq_true (by kernel_rfl)
theorem sf17 : ¬ (DebtsOK 1000000000 ([⟨0, 0, 0⟩])) := of_decide_eq_true (by kernel_rfl)
theorem sl1 : (balR ([⟨0, 1, 10⟩, ⟨0, 1, 5⟩, ⟨1, 0, 4⟩, ⟨1, 2, 8⟩, ⟨2, 0, 6⟩])).length ≤ 1000 := of_decide_eq_true (by kernel_rfl)
theorem sl2 : (stlR (balR ([⟨0, 1, 10⟩, ⟨0, 1, 5⟩, ⟨1, 0, 4⟩, ⟨1, 2, 8⟩, ⟨2, 0, 6⟩]))).length ≤ 1000 := of_decide_eq_true (by kernel_rfl)
theorem sl3 : (pairR ([⟨0, 1, 10⟩, ⟨0, 1, 5⟩, ⟨1, 0, 4⟩, ⟨1, 2, 8⟩, ⟨2, 0, 6⟩])).length ≤ 1000 := of_decide_eq_true (by kernel_rfl)
theorem sl4 : (cycL (cycI ([⟨0, 1, 10⟩, ⟨0, 1, 5⟩, ⟨1, 0, 4⟩, ⟨1, 2, 8⟩, ⟨2, 0, 6⟩]))).length ≤ 1000 := of_decide_eq_true (by kernel_rfl)
theorem sl5 : (rndR ([⟨0, 1, 10⟩, ⟨0, 1, 5⟩, ⟨1, 0, 4⟩, ⟨1, 2, 8⟩, ⟨2, 0, 6⟩])).length ≤ 1000 := of_decide_eq_true (by kernel_rfl)
theorem ok_10 : callOK Try.prog 10 = true := by kernel_rfl
theorem ok_11 : callOK Try.prog 11 = true := by kernel_rfl
theorem ok_12 : callOK Try.prog 12 = true := by kernel_rfl
theorem ok_13 : callOK Try.prog 13 = true := by kernel_rfl
theorem ok_14 : callOK Try.prog 14 = true := by kernel_rfl
theorem ok_15 : callOK Try.prog 15 = true := by kernel_rfl
theorem ok_16 : callOK Try.prog 16 = true := by kernel_rfl
theorem ok_18 : callOK Try.prog 18 = true := by kernel_rfl

theorem c_sane  (w : World)  :
    Cl Try.prog 4 [] w (IsV (.bool true) w) := by
  refine cl_of Try.func4 rfl Try.ntmps4 rfl (Mem.refl w) ?_
  have sl0 : (([⟨0, 1, 10⟩, ⟨0, 1, 5⟩, ⟨1, 0, 4⟩, ⟨1, 2, 8⟩, ⟨2, 0, 6⟩]) : List Debt).length ≤ 1000 := by decide
  have sl6 : ([⟨0, 0, 0⟩] : List Debt).length ≤ 1000 := by decide
  have sl1 := sl1
  have sl2 := sl2
  have sl3 := sl3
  have sl4 := sl4
  have sl5 := sl5
  refine wc_seq ?_
  refine wc_region ?_
  refine wl_ex (ex_assign rfl) rfl rfl ?_
  refine wl_nil ?_
  refine pe_seq ?_
  refine wc_seq ?_
  refine wc_region ?_
  refine wl_ex (ex_build (cells := #[.int .i64 0, .int .i64 1, .int .i64 10]) [0, 1, 2] [.const (.int .i64 0), .const (.int .i64 1), .const (.int .i64 10)] rfl rfl Try.underlying39 ze_39 pl_39 rfl) rfl rfl ?_
  refine wl_ex (ex_build (cells := #[.int .i64 0, .int .i64 1, .int .i64 5]) [0, 1, 2] [.const (.int .i64 0), .const (.int .i64 1), .const (.int .i64 5)] rfl rfl Try.underlying39 ze_39 pl_39 rfl) rfl rfl ?_
  refine wl_ex (ex_build (cells := #[.int .i64 1, .int .i64 0, .int .i64 4]) [0, 1, 2] [.const (.int .i64 1), .const (.int .i64 0), .const (.int .i64 4)] rfl rfl Try.underlying39 ze_39 pl_39 rfl) rfl rfl ?_
  refine wl_ex (ex_build (cells := #[.int .i64 1, .int .i64 2, .int .i64 8]) [0, 1, 2] [.const (.int .i64 1), .const (.int .i64 2), .const (.int .i64 8)] rfl rfl Try.underlying39 ze_39 pl_39 rfl) rfl rfl ?_
  refine wl_ex (ex_build (cells := #[.int .i64 2, .int .i64 0, .int .i64 6]) [0, 1, 2] [.const (.int .i64 2), .const (.int .i64 0), .const (.int .i64 6)] rfl rfl Try.underlying39 ze_39 pl_39 rfl) rfl rfl ?_
  refine wl_buildSlice [.tmp 22, .tmp 23, .tmp 24, .tmp 25, .tmp 26] rfl rfl Try.underlying29 sz_39 ze_39 rfl (by simp [Value.cells]) (by omega) (by omega) rfl fun r1 => ?_
  rw [show List.flatMap (fun x => x.cells.toList) ([(.agg #[.int .i64 0, .int .i64 1, .int .i64 10] : Value), (.agg #[.int .i64 0, .int .i64 1, .int .i64 5] : Value), (.agg #[.int .i64 1, .int .i64 0, .int .i64 4] : Value), (.agg #[.int .i64 1, .int .i64 2, .int .i64 8] : Value), (.agg #[.int .i64 2, .int .i64 0, .int .i64 6] : Value)] : List Value) = encs encD [⟨0, 1, 10⟩, ⟨0, 1, 5⟩, ⟨1, 0, 4⟩, ⟨1, 2, 8⟩, ⟨2, 0, 6⟩] from rfl]
  refine wl_ex (ex_assign rfl) rfl rfl ?_
  refine wl_nil ?_
  refine pe_seq ?_
  refine wc_seq ?_
  refine wc_region ?_
  refine wl_ex (ex_move rfl) rfl rfl ?_
  refine wl_callS2 [.tmp 29] rfl ok_10 rfl (fun w hm => c_BalancesN (some ⟨r1, 0, none⟩) 5 ([⟨0, 1, 10⟩, ⟨0, 1, 5⟩, ⟨1, 0, 4⟩, ⟨1, 2, 8⟩, ⟨2, 0, 6⟩]) w (((sl_own (.head _ _))).at hm)  (by first | omega | assumption)) rfl fun A2 c3 => ?_
  refine wl_ex (ex_move rfl) rfl rfl ?_
  refine wl_ex (ex_extract rfl rfl) rfl rfl ?_
  refine wl_ex (ex_extract rfl rfl) rfl rfl ?_
  refine wl_ex (ex_assign rfl) rfl rfl ?_
  refine wl_ex (ex_assign rfl) rfl rfl ?_
  refine wl_nil ?_
  refine pe_seq ?_
  refine wc_seq ?_
  refine wc_region ?_
  refine wl_ex (ex_move rfl) rfl rfl ?_
  refine wl_callS2 [.tmp 34] rfl ok_14 rfl (fun w hm => c_Pairs (some ⟨r1, 0, none⟩) 5 ([⟨0, 1, 10⟩, ⟨0, 1, 5⟩, ⟨1, 0, 4⟩, ⟨1, 2, 8⟩, ⟨2, 0, 6⟩]) w (((sl_own (.tail (.head _ _)))).at hm)  (by first | omega | assumption)) rfl fun A4 c5 => ?_
  refine wl_ex (ex_move rfl) rfl rfl ?_
  refine wl_ex (ex_extract rfl rfl) rfl rfl ?_
  refine wl_ex (ex_extract rfl rfl) rfl rfl ?_
  refine wl_ex (ex_assign rfl) rfl rfl ?_
  refine wl_ex (ex_assign rfl) rfl rfl ?_
  refine wl_nil ?_
  refine pe_seq ?_
  refine wc_seq ?_
  refine wc_region ?_
  refine wl_ex (ex_move rfl) rfl rfl ?_
  refine wl_callS2 [.tmp 39] rfl ok_15 rfl (fun w hm => c_Cycle (some ⟨r1, 0, none⟩) 5 ([⟨0, 1, 10⟩, ⟨0, 1, 5⟩, ⟨1, 0, 4⟩, ⟨1, 2, 8⟩, ⟨2, 0, 6⟩]) w (((sl_own (.tail (.tail (.head _ _))))).at hm)  (by first | assumption | omega)) rfl fun A6 c7 => ?_
  refine wl_ex (ex_move rfl) rfl rfl ?_
  refine wl_ex (ex_extract rfl rfl) rfl rfl ?_
  refine wl_ex (ex_extract rfl rfl) rfl rfl ?_
  refine wl_ex (ex_assign rfl) rfl rfl ?_
  refine wl_ex (ex_assign rfl) rfl rfl ?_
  refine wl_nil ?_
  refine pe_seq ?_
  refine wc_seq ?_
  refine wc_region ?_
  refine wl_ex (ex_move rfl) rfl rfl ?_
  refine wl_callS2 [.tmp 44] rfl ok_11 rfl (fun w hm => c_Round (some ⟨r1, 0, none⟩) 5 ([⟨0, 1, 10⟩, ⟨0, 1, 5⟩, ⟨1, 0, 4⟩, ⟨1, 2, 8⟩, ⟨2, 0, 6⟩]) w (((sl_own (.tail (.tail (.tail (.head _ _)))))).at hm)  (by first | omega | assumption)) rfl fun A8 c9 => ?_
  refine wl_ex (ex_move rfl) rfl rfl ?_
  refine wl_ex (ex_extract rfl rfl) rfl rfl ?_
  refine wl_ex (ex_extract rfl rfl) rfl rfl ?_
  refine wl_ex (ex_assign rfl) rfl rfl ?_
  refine wl_ex (ex_assign rfl) rfl rfl ?_
  refine wl_nil ?_
  refine pe_seq ?_
  refine wc_seq ?_
  refine wc_region ?_
  refine wl_ex (ex_move rfl) rfl rfl ?_
  refine wl_callV [.tmp 49] rfl ok_16 rfl (fun w hm => c_Fewest A2 c3 (balR ([⟨0, 1, 10⟩, ⟨0, 1, 5⟩, ⟨1, 0, 4⟩, ⟨1, 2, 8⟩, ⟨2, 0, 6⟩])) w (((sl_own (.tail (.tail (.tail (.head _ _)))))).at hm)  (by first | assumption | omega)) rfl ?_
  refine wl_ex (ex_move rfl) rfl rfl ?_
  refine wl_ex (ex_extract rfl rfl) rfl rfl ?_
  refine wl_ex (ex_extract rfl rfl) rfl rfl ?_
  refine wl_ex (ex_assign rfl) rfl rfl ?_
  refine wl_ex (ex_assign rfl) rfl rfl ?_
  refine wl_nil ?_
  refine pe_seq ?_
  refine wc_seq ?_
  refine wc_region ?_
  refine wl_ex (ex_move rfl) rfl rfl ?_
  refine wl_callS2 [.tmp 54] rfl ok_17 rfl (fun w hm => c_Settle A2 c3 (balR ([⟨0, 1, 10⟩, ⟨0, 1, 5⟩, ⟨1, 0, 4⟩, ⟨1, 2, 8⟩, ⟨2, 0, 6⟩])) w (((sl_own (.tail (.tail (.tail (.head _ _)))))).at hm)  (by first | assumption | omega)) rfl fun A10 c11 => ?_
  refine wl_ex (ex_move rfl) rfl rfl ?_
  refine wl_ex (ex_extract rfl rfl) rfl rfl ?_
  refine wl_ex (ex_extract rfl rfl) rfl rfl ?_
  refine wl_ex (ex_assign rfl) rfl rfl ?_
  refine wl_ex (ex_assign rfl) rfl rfl ?_
  refine wl_nil ?_
  refine pe_seq ?_
  refine wc_seq ?_
  refine wc_seq ?_
  refine wc_region ?_
  refine wl_ex (ex_move rfl) rfl rfl ?_
  refine wl_ex (ex_neq rfl rfl) rfl rfl ?_
  refine wl_ex (ex_move rfl) rfl rfl ?_
  refine wl_pass rfl rfl rfl (decide_eq_false sf0) ?_
  refine wl_ex (ex_move rfl) rfl rfl ?_
  refine wl_pass rfl rfl rfl (decide_eq_false sf0) ?_
  refine wl_ex (ex_neq rfl rfl) rfl rfl ?_
  refine wl_ex (ex_pickf rfl (decide_eq_false sf0) rfl) rfl rfl ?_
  refine wl_ex (ex_move rfl) rfl rfl ?_
  refine wl_pass rfl rfl rfl (decide_eq_false sf0) ?_
  refine wl_ex (ex_move rfl) rfl rfl ?_
  refine wl_pass rfl rfl rfl (decide_eq_false sf0) ?_
  refine wl_ex (ex_neq rfl rfl) rfl rfl ?_
  refine wl_ex (ex_pickf rfl (decide_eq_false sf0) rfl) rfl rfl ?_
  refine wl_ex (ex_move rfl) rfl rfl ?_
  refine wl_pass rfl rfl rfl (decide_eq_false sf0) ?_
  refine wl_ex (ex_move rfl) rfl rfl ?_
  refine wl_pass rfl rfl rfl (decide_eq_false sf0) ?_
  refine wl_ex (ex_neq rfl rfl) rfl rfl ?_
  refine wl_ex (ex_pickf rfl (decide_eq_false sf0) rfl) rfl rfl ?_
  refine wl_ex (ex_move rfl) rfl rfl ?_
  refine wl_pass rfl rfl rfl (decide_eq_false sf1) ?_
  refine wl_ex (ex_move rfl) rfl rfl ?_
  refine wl_pass rfl rfl rfl (decide_eq_false sf1) ?_
  refine wl_ex (ex_neq rfl rfl) rfl rfl ?_
  refine wl_ex (ex_pickf rfl (decide_eq_false sf1) rfl) rfl rfl ?_
  refine wl_ex (ex_move rfl) rfl rfl ?_
  refine wl_pass rfl rfl rfl (decide_eq_false sf1) ?_
  refine wl_ex (ex_move rfl) rfl rfl ?_
  refine wl_pass rfl rfl rfl (decide_eq_false sf1) ?_
  refine wl_ex (ex_notb rfl) rfl rfl ?_
  refine wl_ex (ex_pickf rfl (decide_eq_false sf1) rfl) rfl rfl ?_
  refine wl_ex (ex_move rfl) rfl rfl ?_
  refine wl_pass rfl rfl rfl sf2 ?_
  refine wl_ex (ex_move rfl) rfl rfl ?_
  refine wl_pass rfl rfl rfl sf2 ?_
  refine wl_ex (ex_neq rfl rfl) rfl rfl ?_
  refine wl_ex (ex_pickf rfl sf2 rfl) rfl rfl ?_
  refine wl_ex (ex_move rfl) rfl rfl ?_
  refine wl_pass rfl rfl rfl (decide_eq_false sf3) ?_
  refine wl_ex (ex_move rfl) rfl rfl ?_
  refine wl_pass rfl rfl rfl (decide_eq_false sf3) ?_
  refine wl_ex (ex_len Try.underlying29 rfl) rfl rfl ?_
  refine wl_pass rfl rfl rfl (decide_eq_false sf3) ?_
  refine wl_ex (ex_neq rfl rfl) rfl rfl ?_
  refine wl_ex (ex_pickf rfl (decide_eq_false sf3) rfl) rfl rfl ?_
  refine wl_ex (ex_move rfl) rfl rfl ?_
  refine wl_pass rfl rfl rfl (decide_eq_false sf3) ?_
  refine wl_ex (ex_move rfl) rfl rfl ?_
  refine wl_pass rfl rfl rfl (decide_eq_false sf3) ?_
  refine wl_ex (ex_move rfl) rfl rfl ?_
  refine wl_pass rfl rfl rfl (decide_eq_false sf3) ?_
  refine wl_callV [.tmp 90, .tmp 91] rfl ok_18 rfl (fun w hm => c_Check A2 c3 (balR ([⟨0, 1, 10⟩, ⟨0, 1, 5⟩, ⟨1, 0, 4⟩, ⟨1, 2, 8⟩, ⟨2, 0, 6⟩])) A10 c11 (stlR (balR ([⟨0, 1, 10⟩, ⟨0, 1, 5⟩, ⟨1, 0, 4⟩, ⟨1, 2, 8⟩, ⟨2, 0, 6⟩]))) w (((sl_own (.tail (.tail (.tail (.tail (.head _ _))))))).at hm) (((sl_own (.head _ _))).at hm)  (by first | assumption | omega) (by first | assumption | omega)) rfl ?_
  refine wl_pass rfl rfl rfl (decide_eq_false sf3) ?_
  refine wl_ex (ex_not rfl) rfl rfl ?_
  refine wl_ex (ex_pickf rfl (decide_eq_false sf3) rfl) rfl rfl ?_
  refine wl_nil ?_
  refine pe_seq ?_
  refine wc_ite rfl (fun c94 => absurd c94 sf4) (fun c94 => ?_)
  refine wc_skip ?_
  refine pe_seq ?_
  refine wc_seq ?_
  refine wc_region ?_
  refine wl_buildSlice [.const (.int .i64 5), .const (.int .i64 (-5)), .const (.int .i64 3), .const (.int .i64 4), .const (.int .i64 (-7)), .const (.int .i64 0), .const (.int .i64 0), .const (.int .i64 0)] rfl rfl Try.underlying41 sz_3 ze_3 rfl (by simp [Value.cells]) (by omega) (by omega) rfl fun r12 => ?_
  rw [show List.flatMap (fun x => x.cells.toList) ([Value.int .i64 5, Value.int .i64 (-5), Value.int .i64 3, Value.int .i64 4, Value.int .i64 (-7), Value.int .i64 0, Value.int .i64 0, Value.int .i64 0] : List Value) = encs encI [5, -5, 3, 4, -7, 0, 0, 0] from rfl]
  refine wl_callV [.tmp 96] rfl ok_16 rfl (fun w hm => c_Fewest (some ⟨r12, 0, none⟩) 8 ([5, -5, 3, 4, -7, 0, 0, 0]) w (((sl_own (.head _ _))).at hm)  (by first | assumption | omega)) rfl ?_
  refine wl_ex (ex_move rfl) rfl rfl ?_
  refine wl_ex (ex_extract rfl rfl) rfl rfl ?_
  refine wl_ex (ex_extract rfl rfl) rfl rfl ?_
  refine wl_ex (ex_assign rfl) rfl rfl ?_
  refine wl_ex (ex_assign rfl) rfl rfl ?_
  refine wl_nil ?_
  refine pe_seq ?_
  refine wc_seq ?_
  refine wc_region ?_
  refine wl_buildSlice [.const (.int .i64 5), .const (.int .i64 (-2)), .const (.int .i64 (-3)), .const (.int .i64 4), .const (.int .i64 (-4)), .const (.int .i64 1), .const (.int .i64 (-1)), .const (.int .i64 0)] rfl rfl Try.underlying41 sz_3 ze_3 rfl (by simp [Value.cells]) (by omega) (by omega) rfl fun r13 => ?_
  rw [show List.flatMap (fun x => x.cells.toList) ([Value.int .i64 5, Value.int .i64 (-2), Value.int .i64 (-3), Value.int .i64 4, Value.int .i64 (-4), Value.int .i64 1, Value.int .i64 (-1), Value.int .i64 0] : List Value) = encs encI [5, -2, -3, 4, -4, 1, -1, 0] from rfl]
  refine wl_callV [.tmp 101] rfl ok_16 rfl (fun w hm => c_Fewest (some ⟨r13, 0, none⟩) 8 ([5, -2, -3, 4, -4, 1, -1, 0]) w (((sl_own (.head _ _))).at hm)  (by first | assumption | omega)) rfl ?_
  refine wl_ex (ex_move rfl) rfl rfl ?_
  refine wl_ex (ex_extract rfl rfl) rfl rfl ?_
  refine wl_ex (ex_extract rfl rfl) rfl rfl ?_
  refine wl_ex (ex_assign rfl) rfl rfl ?_
  refine wl_ex (ex_assign rfl) rfl rfl ?_
  refine wl_nil ?_
  refine pe_seq ?_
  refine wc_seq ?_
  refine wc_region ?_
  refine wl_buildSlice [.const (.int .i64 1), .const (.int .i64 0), .const (.int .i64 0), .const (.int .i64 0), .const (.int .i64 0), .const (.int .i64 0), .const (.int .i64 0), .const (.int .i64 0)] rfl rfl Try.underlying41 sz_3 ze_3 rfl (by simp [Value.cells]) (by omega) (by omega) rfl fun r14 => ?_
  rw [show List.flatMap (fun x => x.cells.toList) ([Value.int .i64 1, Value.int .i64 0, Value.int .i64 0, Value.int .i64 0, Value.int .i64 0, Value.int .i64 0, Value.int .i64 0, Value.int .i64 0] : List Value) = encs encI [1, 0, 0, 0, 0, 0, 0, 0] from rfl]
  refine wl_callV [.tmp 106] rfl ok_16 rfl (fun w hm => c_Fewest (some ⟨r14, 0, none⟩) 8 ([1, 0, 0, 0, 0, 0, 0, 0]) w (((sl_own (.head _ _))).at hm)  (by first | assumption | omega)) rfl ?_
  refine wl_ex (ex_move rfl) rfl rfl ?_
  refine wl_ex (ex_extract rfl rfl) rfl rfl ?_
  refine wl_ex (ex_extract rfl rfl) rfl rfl ?_
  refine wl_ex (ex_assign rfl) rfl rfl ?_
  refine wl_ex (ex_assign rfl) rfl rfl ?_
  refine wl_nil ?_
  refine pe_seq ?_
  refine wc_seq ?_
  refine wc_region ?_
  refine wl_ex (ex_move rfl) rfl rfl ?_
  refine wl_buildSlice [.const (.int .i64 (-5)), .const (.int .i64 3), .const (.int .i64 2), .const (.int .i64 0), .const (.int .i64 0), .const (.int .i64 0), .const (.int .i64 0), .const (.int .i64 0)] rfl rfl Try.underlying41 sz_3 ze_3 rfl (by simp [Value.cells]) (by omega) (by omega) rfl fun r15 => ?_
  rw [show List.flatMap (fun x => x.cells.toList) ([Value.int .i64 (-5), Value.int .i64 3, Value.int .i64 2, Value.int .i64 0, Value.int .i64 0, Value.int .i64 0, Value.int .i64 0, Value.int .i64 0] : List Value) = encs encI [-5, 3, 2, 0, 0, 0, 0, 0] from rfl]
  refine wl_callV [.tmp 110, .tmp 111] rfl ok_12 rfl (fun w hm => c_Ints A2 c3 (balR ([⟨0, 1, 10⟩, ⟨0, 1, 5⟩, ⟨1, 0, 4⟩, ⟨1, 2, 8⟩, ⟨2, 0, 6⟩])) (some ⟨r15, 0, none⟩) 8 ([-5, 3, 2, 0, 0, 0, 0, 0]) w (((sl_own (.tail (.tail (.tail (.tail (.tail (.tail (.tail (.tail (.head _ _))))))))))).at hm) (((sl_own (.head _ _))).at hm)  (by first | omega | assumption | (simp; omega))) rfl ?_
  refine wl_ex (ex_move rfl) rfl rfl ?_
  refine wl_pass rfl rfl rfl (decide_eq_true sf5) ?_
  refine wl_ex (ex_move rfl) rfl rfl ?_
  refine wl_pass rfl rfl rfl (decide_eq_true sf5) ?_
  refine wl_ex (ex_build (cells := #[.int .i64 0, .int .i64 1, .int .i64 11]) [0, 1, 2] [.const (.int .i64 0), .const (.int .i64 1), .const (.int .i64 11)] rfl rfl Try.underlying39 ze_39 pl_39 rfl) rfl rfl ?_
  refine wl_pass rfl rfl rfl (decide_eq_true sf5) ?_
  refine wl_ex (ex_build (cells := #[.int .i64 1, .int .i64 2, .int .i64 8]) [0, 1, 2] [.const (.int .i64 1), .const (.int .i64 2), .const (.int .i64 8)] rfl rfl Try.underlying39 ze_39 pl_39 rfl) rfl rfl ?_
  refine wl_pass rfl rfl rfl (decide_eq_true sf5) ?_
  refine wl_ex (ex_build (cells := #[.int .i64 2, .int .i64 0, .int .i64 6]) [0, 1, 2] [.const (.int .i64 2), .const (.int .i64 0), .const (.int .i64 6)] rfl rfl Try.underlying39 ze_39 pl_39 rfl) rfl rfl ?_
  refine wl_pass rfl rfl rfl (decide_eq_true sf5) ?_
  refine wl_buildSlice [.tmp 115, .tmp 116, .tmp 117] rfl rfl Try.underlying29 sz_39 ze_39 rfl (by simp [Value.cells]) (by omega) (by omega) rfl fun r16 => ?_
  rw [show List.flatMap (fun x => x.cells.toList) ([(.agg #[.int .i64 0, .int .i64 1, .int .i64 11] : Value), (.agg #[.int .i64 1, .int .i64 2, .int .i64 8] : Value), (.agg #[.int .i64 2, .int .i64 0, .int .i64 6] : Value)] : List Value) = encs encD [⟨0, 1, 11⟩, ⟨1, 2, 8⟩, ⟨2, 0, 6⟩] from rfl]
  refine wl_pass rfl rfl rfl (decide_eq_true sf5) ?_
  refine wl_callV [.tmp 114, .tmp 118] rfl ok_13 rfl (fun w hm => c_Same A4 c5 (pairR ([⟨0, 1, 10⟩, ⟨0, 1, 5⟩, ⟨1, 0, 4⟩, ⟨1, 2, 8⟩, ⟨2, 0, 6⟩])) (some ⟨r16, 0, none⟩) 3 ([⟨0, 1, 11⟩, ⟨1, 2, 8⟩, ⟨2, 0, 6⟩]) w (((sl_own (.tail (.tail (.tail (.tail (.tail (.tail (.tail (.tail (.head _ _))))))))))).at hm) (((sl_own (.head _ _))).at hm)  (by first | omega | assumption | (simp; omega))) rfl ?_
  refine wl_ex (ex_pickt rfl (decide_eq_true sf5) rfl) rfl rfl ?_
  refine wl_ex (ex_move rfl) rfl rfl ?_
  refine wl_pass rfl rfl rfl (decide_eq_true sf6) ?_
  refine wl_ex (ex_move rfl) rfl rfl ?_
  refine wl_pass rfl rfl rfl (decide_eq_true sf6) ?_
  refine wl_buildSlice [.const (.int .i64 0), .const (.int .i64 1), .const (.int .i64 2)] rfl rfl Try.underlying41 sz_3 ze_3 rfl (by simp [Value.cells]) (by omega) (by omega) rfl fun r17 => ?_
  rw [show List.flatMap (fun x => x.cells.toList) ([Value.int .i64 0, Value.int .i64 1, Value.int .i64 2] : List Value) = encs encI [0, 1, 2] from rfl]
  refine wl_pass rfl rfl rfl (decide_eq_true sf6) ?_
  refine wl_callV [.tmp 122, .tmp 123] rfl ok_12 rfl (fun w hm => c_Ints A6 c7 (cycL (cycI ([⟨0, 1, 10⟩, ⟨0, 1, 5⟩, ⟨1, 0, 4⟩, ⟨1, 2, 8⟩, ⟨2, 0, 6⟩]))) (some ⟨r17, 0, none⟩) 3 ([0, 1, 2]) w (((sl_own (.tail (.tail (.tail (.tail (.tail (.tail (.tail (.tail (.head _ _))))))))))).at hm) (((sl_own (.head _ _))).at hm)  (by first | omega | assumption | (simp; omega))) rfl ?_
  refine wl_ex (ex_pickt rfl (decide_eq_true sf6) rfl) rfl rfl ?_
  refine wl_ex (ex_move rfl) rfl rfl ?_
  refine wl_pass rfl rfl rfl (decide_eq_true sf7) ?_
  refine wl_ex (ex_move rfl) rfl rfl ?_
  refine wl_pass rfl rfl rfl (decide_eq_true sf7) ?_
  refine wl_ex (ex_build (cells := #[.int .i64 0, .int .i64 1, .int .i64 5]) [0, 1, 2] [.const (.int .i64 0), .const (.int .i64 1), .const (.int .i64 5)] rfl rfl Try.underlying39 ze_39 pl_39 rfl) rfl rfl ?_
  refine wl_pass rfl rfl rfl (decide_eq_true sf7) ?_
  refine wl_ex (ex_build (cells := #[.int .i64 1, .int .i64 2, .int .i64 2]) [0, 1, 2] [.const (.int .i64 1), .const (.int .i64 2), .const (.int .i64 2)] rfl rfl Try.underlying39 ze_39 pl_39 rfl) rfl rfl ?_
  refine wl_pass rfl rfl rfl (decide_eq_true sf7) ?_
  refine wl_buildSlice [.tmp 128, .tmp 129] rfl rfl Try.underlying29 sz_39 ze_39 rfl (by simp [Value.cells]) (by omega) (by omega) rfl fun r18 => ?_
  rw [show List.flatMap (fun x => x.cells.toList) ([(.agg #[.int .i64 0, .int .i64 1, .int .i64 5] : Value), (.agg #[.int .i64 1, .int .i64 2, .int .i64 2] : Value)] : List Value) = encs encD [⟨0, 1, 5⟩, ⟨1, 2, 2⟩] from rfl]
  refine wl_pass rfl rfl rfl (decide_eq_true sf7) ?_
  refine wl_callV [.tmp 127, .tmp 130] rfl ok_13 rfl (fun w hm => c_Same A8 c9 (rndR ([⟨0, 1, 10⟩, ⟨0, 1, 5⟩, ⟨1, 0, 4⟩, ⟨1, 2, 8⟩, ⟨2, 0, 6⟩])) (some ⟨r18, 0, none⟩) 2 ([⟨0, 1, 5⟩, ⟨1, 2, 2⟩]) w (((sl_own (.tail (.tail (.tail (.tail (.tail (.tail (.tail (.tail (.head _ _))))))))))).at hm) (((sl_own (.head _ _))).at hm)  (by first | omega | assumption | (simp; omega))) rfl ?_
  refine wl_ex (ex_pickt rfl (decide_eq_true sf7) rfl) rfl rfl ?_
  refine wl_ex (ex_assign rfl) rfl rfl ?_
  refine wl_nil ?_
  refine pe_seq ?_
  refine wc_seq ?_
  refine wc_region ?_
  refine wl_ex (ex_move rfl) rfl rfl ?_
  refine wl_ex (ex_build (cells := #[.int .i64 0, .int .i64 2, .int .i64 2]) [0, 1, 2] [.const (.int .i64 0), .const (.int .i64 2), .const (.int .i64 2)] rfl rfl Try.underlying39 ze_39 pl_39 rfl) rfl rfl ?_
  refine wl_ex (ex_build (cells := #[.int .i64 0, .int .i64 1, .int .i64 3]) [0, 1, 2] [.const (.int .i64 0), .const (.int .i64 1), .const (.int .i64 3)] rfl rfl Try.underlying39 ze_39 pl_39 rfl) rfl rfl ?_
  refine wl_buildSlice [.tmp 134, .tmp 135] rfl rfl Try.underlying29 sz_39 ze_39 rfl (by simp [Value.cells]) (by omega) (by omega) rfl fun r19 => ?_
  rw [show List.flatMap (fun x => x.cells.toList) ([(.agg #[.int .i64 0, .int .i64 2, .int .i64 2] : Value), (.agg #[.int .i64 0, .int .i64 1, .int .i64 3] : Value)] : List Value) = encs encD [⟨0, 2, 2⟩, ⟨0, 1, 3⟩] from rfl]
  refine wl_callV [.tmp 133, .tmp 136] rfl ok_18 rfl (fun w hm => c_Check A2 c3 (balR ([⟨0, 1, 10⟩, ⟨0, 1, 5⟩, ⟨1, 0, 4⟩, ⟨1, 2, 8⟩, ⟨2, 0, 6⟩])) (some ⟨r19, 0, none⟩) 2 ([⟨0, 2, 2⟩, ⟨0, 1, 3⟩]) w (((sl_own (.tail (.tail (.tail (.tail (.tail (.tail (.tail (.tail (.tail (.tail (.tail (.tail (.head _ _))))))))))))))).at hm) (((sl_own (.head _ _))).at hm)  (by first | assumption | omega) (by first | assumption | omega)) rfl ?_
  refine wl_ex (ex_move rfl) rfl rfl ?_
  refine wl_pass rfl rfl rfl (decide_eq_true sf9) ?_
  refine wl_ex (ex_move rfl) rfl rfl ?_
  refine wl_pass rfl rfl rfl (decide_eq_true sf9) ?_
  refine wl_ex (ex_build (cells := #[.int .i64 0, .int .i64 2, .int .i64 5]) [0, 1, 2] [.const (.int .i64 0), .const (.int .i64 2), .const (.int .i64 5)] rfl rfl Try.underlying39 ze_39 pl_39 rfl) rfl rfl ?_
  refine wl_pass rfl rfl rfl (decide_eq_true sf9) ?_
  refine wl_buildSlice [.tmp 140] rfl rfl Try.underlying29 sz_39 ze_39 rfl (by simp [Value.cells]) (by omega) (by omega) rfl fun r20 => ?_
  rw [show List.flatMap (fun x => x.cells.toList) ([(.agg #[.int .i64 0, .int .i64 2, .int .i64 5] : Value)] : List Value) = encs encD [⟨0, 2, 5⟩] from rfl]
  refine wl_pass rfl rfl rfl (decide_eq_true sf9) ?_
  refine wl_callV [.tmp 139, .tmp 141] rfl ok_18 rfl (fun w hm => c_Check A2 c3 (balR ([⟨0, 1, 10⟩, ⟨0, 1, 5⟩, ⟨1, 0, 4⟩, ⟨1, 2, 8⟩, ⟨2, 0, 6⟩])) (some ⟨r20, 0, none⟩) 1 ([⟨0, 2, 5⟩]) w (((sl_own (.tail (.tail (.tail (.tail (.tail (.tail (.tail (.tail (.tail (.tail (.tail (.tail (.tail (.head _ _)))))))))))))))).at hm) (((sl_own (.head _ _))).at hm)  (by first | assumption | omega) (by first | assumption | omega)) rfl ?_
  refine wl_pass rfl rfl rfl (decide_eq_true sf9) ?_
  refine wl_ex (ex_not rfl) rfl rfl ?_
  refine wl_ex (ex_pickt rfl (decide_eq_true sf9) rfl) rfl rfl ?_
  refine wl_ex (ex_assign rfl) rfl rfl ?_
  refine wl_nil ?_
  refine pe_seq ?_
  refine wc_seq ?_
  refine wc_region ?_
  refine wl_ex (ex_move rfl) rfl rfl ?_
  refine wl_ex (ex_move rfl) rfl rfl ?_
  refine wl_pass rfl rfl rfl (decide_eq_true sf8) ?_
  refine wl_ex (ex_move rfl) rfl rfl ?_
  refine wl_ex (ex_pickt rfl (decide_eq_true sf8) rfl) rfl rfl ?_
  refine wl_ex (ex_move rfl) rfl rfl ?_
  refine wl_pass rfl rfl rfl (decide_eq_true sf10) ?_
  refine wl_ex (ex_move rfl) rfl rfl ?_
  refine wl_pass rfl rfl rfl (decide_eq_true sf10) ?_
  refine wl_ex (ex_eql rfl rfl) rfl rfl ?_
  refine wl_ex (ex_pickt rfl (decide_eq_true sf10) rfl) rfl rfl ?_
  refine wl_ex (ex_move rfl) rfl rfl ?_
  refine wl_pass rfl rfl rfl (decide_eq_true sf11) ?_
  refine wl_ex (ex_move rfl) rfl rfl ?_
  refine wl_pass rfl rfl rfl (decide_eq_true sf11) ?_
  refine wl_ex (ex_eql rfl rfl) rfl rfl ?_
  refine wl_ex (ex_pickt rfl (decide_eq_true sf11) rfl) rfl rfl ?_
  refine wl_ex (ex_move rfl) rfl rfl ?_
  refine wl_pass rfl rfl rfl (decide_eq_true sf12) ?_
  refine wl_ex (ex_move rfl) rfl rfl ?_
  refine wl_pass rfl rfl rfl (decide_eq_true sf12) ?_
  refine wl_ex (ex_eql rfl rfl) rfl rfl ?_
  refine wl_ex (ex_pickt rfl (decide_eq_true sf12) rfl) rfl rfl ?_
  refine wl_ex (ex_move rfl) rfl rfl ?_
  refine wl_pass rfl rfl rfl (decide_eq_true sf13) ?_
  refine wl_ex (ex_move rfl) rfl rfl ?_
  refine wl_pass rfl rfl rfl (decide_eq_true sf13) ?_
  refine wl_ex (ex_eql rfl rfl) rfl rfl ?_
  refine wl_ex (ex_pickt rfl (decide_eq_true sf13) rfl) rfl rfl ?_
  refine wl_ex (ex_move rfl) rfl rfl ?_
  refine wl_pass rfl rfl rfl (decide_eq_true sf14) ?_
  refine wl_ex (ex_move rfl) rfl rfl ?_
  refine wl_pass rfl rfl rfl (decide_eq_true sf14) ?_
  refine wl_ex (ex_eql rfl rfl) rfl rfl ?_
  refine wl_ex (ex_pickt rfl (decide_eq_true sf14) rfl) rfl rfl ?_
  refine wl_ex (ex_move rfl) rfl rfl ?_
  refine wl_pass rfl rfl rfl (decide_eq_true sf15) ?_
  refine wl_ex (ex_move rfl) rfl rfl ?_
  refine wl_pass rfl rfl rfl (decide_eq_true sf15) ?_
  refine wl_callV [.tmp 170] rfl ok_19 rfl (fun w hm => c_Valid (some ⟨r1, 0, none⟩) 5 ([⟨0, 1, 10⟩, ⟨0, 1, 5⟩, ⟨1, 0, 4⟩, ⟨1, 2, 8⟩, ⟨2, 0, 6⟩]) w (((sl_own (.tail (.tail (.tail (.tail (.tail (.tail (.tail (.tail (.tail (.tail (.tail (.tail (.tail (.tail (.head _ _))))))))))))))))).at hm)  (by first | omega | assumption)) rfl ?_
  refine wl_ex (ex_pickt rfl (decide_eq_true sf15) rfl) rfl rfl ?_
  refine wl_ex (ex_move rfl) rfl rfl ?_
  refine wl_pass rfl rfl rfl (decide_eq_true sf16) ?_
  refine wl_ex (ex_build (cells := #[.int .i64 0, .int .i64 0, .int .i64 0]) [] [] rfl rfl Try.underlying39 ze_39 pl_39 rfl) rfl rfl ?_
  refine wl_pass rfl rfl rfl (decide_eq_true sf16) ?_
  refine wl_buildSlice [.tmp 174] rfl rfl Try.underlying29 sz_39 ze_39 rfl (by simp [Value.cells]) (by omega) (by omega) rfl fun r21 => ?_
  rw [show List.flatMap (fun x => x.cells.toList) ([(.agg #[.int .i64 0, .int .i64 0, .int .i64 0] : Value)] : List Value) = encs encD [⟨0, 0, 0⟩] from rfl]
  refine wl_pass rfl rfl rfl (decide_eq_true sf16) ?_
  refine wl_callV [.tmp 175] rfl ok_19 rfl (fun w hm => c_Valid (some ⟨r21, 0, none⟩) 1 ([⟨0, 0, 0⟩]) w (((sl_own (.head _ _))).at hm)  (by first | omega | assumption)) rfl ?_
  refine wl_pass rfl rfl rfl (decide_eq_true sf16) ?_
  refine wl_ex (ex_not rfl) rfl rfl ?_
  refine wl_ex (ex_pickt rfl (decide_eq_true sf16) rfl) rfl rfl ?_
  refine wl_ex (ex_assign rfl) rfl rfl ?_
  refine wl_nil ?_
  refine pe_seq ?_
  refine wc_ret ?_
  refine pe_ret1 rfl rfl rfl (fun w' hm => ⟨?_, hm.ent (.nil _)⟩)
  exact congrArg Value.bool (decide_eq_true sf17)

end Go.Proofs.Yteglbaidaekccaa
