/- Elements of a law's arguments: three numbers. Conditions: each law's own hypotheses. -/
import Derived.Test.YtolfgdkdghhidaaRa
import Derived.Test.YtolfgdkdghhidaaE13
namespace Go.Proofs.Ytolfgdkdghhidaa
open Go Go.ChangeShapes Go.WideShapes Go.ChangeAt Go.RowKit
section
variable {Hh : Type} {enc : TypeId × Value → Hh} {P : Program} {w : World} {base : Nat} {sp : Nat → Bool} {held : Bool}
theorem open_tri {t e : TypeId} (ht : P.underlying t = some (.array 3 e)) (he : P.underlying e = some (.int .i64)) (hc : P.cellsOf e = 1) (hct : P.cellsOf t = 3) {r : Reach} {b0 : Nat} {v : Value} {d : DataW Hh} {ps : List MemPlace} (hv : Value.okWide P w r b0 t v) (h : DataW.Trod enc P w base sp held t v d ps) : ∃ a : Tri, v = .agg (encT a).toArray ∧ a.ok := by
  unfold Value.okWide at hv
  rw [ht] at hv
  obtain ⟨cs, rfl, hsz, _⟩ := hv
  obtain ⟨fuel, h⟩ := h
  obtain ⟨a, ha, ho⟩ := tri_el ht he hc (cs := cs.toList) (by rw [Array.length_toList, hsz, hct]) h
  exact ⟨a, by rw [← ha], ho⟩
end
end Go.Proofs.Ytolfgdkdghhidaa
