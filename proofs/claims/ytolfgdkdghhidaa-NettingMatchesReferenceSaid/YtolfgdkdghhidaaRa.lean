/- Elements of a law's arguments. Conditions: each law's own hypotheses. -/
import Derived.Test.YtolfgdkdghhidaaE12
import Derived.Test.YtolfgdkdghhidaaWt
import Derived.WalkKit
import Derived.ProofKit
import Derived.OpenShut
import Derived.ShutString
import Derived.ChangeOld
import Derived.Below
import Derived.SizedLaws
namespace Go.Proofs.Ytolfgdkdghhidaa
open Go Go.ChangeShapes Go.WideShapes Go.ChangeAt Go.RowKit
theorem wf_i64 {n : Int} (h : (Lit.int .i64 n).wf = true) : i64 n := by
  have h1 : IntKind.i64.min = -9223372036854775808 := by decide
  have h2 : IntKind.i64.max = 9223372036854775807 := by decide
  simp [Lit.wf, h1, h2] at h
  unfold i64; omega
section
variable {Hh : Type} {enc : TypeId × Value → Hh} {P : Program} {w : World} {base : Nat} {sp : Nat → Bool} {held : Bool} {t e : TypeId} {n : Nat} {cs : List Value} {y : DataW Hh × List MemPlace}
theorem tri_el (ht : P.underlying t = some (.array 3 e)) (he : P.underlying e = some (.int .i64)) (hc : P.cellsOf e = 1) (hl : cs.length = 3) (h : DataW.trod enc P w base sp held n t cs = some y) : ∃ a : Tri, cs = encT a ∧ a.ok := by
  match cs, hl with
  | [c0, c1, c2], _ =>
    obtain ⟨y0, y1, y2, m, _, h0, h1, h2⟩ := trod_array3 ht hc h
    obtain ⟨n0, e0, _, w0⟩ := DataW.trod_int he h0
    obtain ⟨n1, e1, _, w1⟩ := DataW.trod_int he h1
    obtain ⟨n2, e2, _, w2⟩ := DataW.trod_int he h2
    simp only [List.cons.injEq, and_true] at e0 e1 e2
    subst e0 e1 e2
    exact ⟨⟨n0, n1, n2⟩, rfl, wf_i64 w0, wf_i64 w1, wf_i64 w2⟩
theorem int_el (he : P.underlying e = some (.int .i64)) (_ : cs.length = 1) (h : DataW.trod enc P w base sp held n e cs = some y) : ∃ a : Int, cs = encI a ∧ i64 a := by
  obtain ⟨n0, e0, _, w0⟩ := DataW.trod_int he h
  exact ⟨n0, e0, wf_i64 w0⟩
end
end Go.Proofs.Ytolfgdkdghhidaa
