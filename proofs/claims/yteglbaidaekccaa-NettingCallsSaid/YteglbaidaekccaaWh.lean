/- Walks. -/
import Derived.Test.YteglbaidaekccaaWg
import Derived.Test.YteglbaidaekccaaP39
set_option linter.unusedVariables false
set_option linter.unusedSimpArgs false
set_option maxRecDepth 10000
namespace Go.Proofs.Yteglbaidaekccaa
open Go Go.RowKit
theorem cyc_next {f : Book} {n : Nat} {c : Int} (h0 : 0 ≤ c) (hn : ∀ j : Nat, j < c.toNat → ext f n [(j : Int)] = none) (h : ext f n [c] = none) : ∀ j : Nat, j < (c + 1).toNat → ext f n [(j : Int)] = none := by
  rw [show (c + 1).toNat = c.toNat + 1 by omega]
  refine none_step (g := fun j : Nat => ext f n [(j : Int)]) hn ?_
  show ext f n [(c.toNat : Int)] = none
  rw [Int.toNat_of_nonneg h0]; exact h
theorem cycS_some {f : Book} {s : Nat} {c : Int} {o : List Int} (hs : s < 6) (h1 : ∀ j, j < s → cyc1 f j = none) (h0 : 0 ≤ c) (h8 : c < 8) (h2 : ∀ j : Nat, j < c.toNat → ext f (s + 2) [(j : Int)] = none) (h : ext f (s + 2) [c] = some o) : cycS f = some o := by
  rw [cycS_eq]
  refine find_some hs h1 ?_
  refine find_some (k := c.toNat) (by omega) h2 ?_
  rw [Int.toNat_of_nonneg h0]; exact h
theorem cycS_none {f : Book} (h1 : ∀ j, j < 6 → cyc1 f j = none) : cycS f = none := by rw [cycS_eq]; exact find_none h1
theorem cyc1_next {f : Book} {s : Int} (h3 : 3 ≤ s) (h1 : ∀ j, j < (s - 3).toNat → cyc1 f j = none) (h2 : ∀ j : Nat, j < 8 → ext f ((s - 3).toNat + 2) [(j : Int)] = none) : ∀ j, j < (s + 1 - 3).toNat → cyc1 f j = none := by
  rw [show (s + 1 - 3).toNat = (s - 3).toNat + 1 by omega]
  exact none_step h1 (find_none h2)
theorem cyc_pairs {l : List Debt} (h : DebtsOK 1000000000 l) : cycS (ow (pairsI l)) = cycI l := by
  unfold cycI; rw [if_pos h]; exact cycS_list (norm_book h)



end Go.Proofs.Yteglbaidaekccaa
