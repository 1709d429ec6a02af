/- Elements of a law's arguments: rows of four numbers. Conditions: each law's own hypotheses. -/
import Derived.Test.YteglbaidaekccaaE12
import Derived.Test.YteglbaidaekccaaTi
import Derived.WalkKit
import Derived.ProofKit
import Derived.OpenShut
import Derived.ShutString
import Derived.ChangeOld
import Derived.Below
import Derived.SizedLaws
import Derived.Laws.IdiomArrays
namespace Go.Proofs.Yteglbaidaekccaa
open Go Go.ChangeShapes Go.WideShapes Go.ChangeAt Go.RowKit
theorem wf_i64 {n : Int} (h : (Lit.int .i64 n).wf = true) : i64 n := by
  have h1 : IntKind.i64.min = -9223372036854775808 := by decide
  have h2 : IntKind.i64.max = 9223372036854775807 := by decide
  simp [Lit.wf, h1, h2] at h
  unfold i64; omega
section
variable {Hh : Type} {enc : TypeId × Value → Hh} {P : Program} {w : World} {base : Nat} {sp : Nat → Bool} {held : Bool} {t e : TypeId} {n : Nat} {cs : List Value} {y : DataW Hh × List MemPlace}
theorem quad_el (ht : P.underlying t = some (.array 4 e)) (he : P.underlying e = some (.int .i64)) (hc : P.cellsOf e = 1) (hl : cs.length = 4) (h : DataW.trod enc P w base sp held n t cs = some y) : ∃ a : Quad, cs = encQ a ∧ a.ok := by
  match cs, hl with
  | [c0, c1, c2, c3], _ =>
    obtain ⟨y0, y1, y2, y3, m, _, h0, h1, h2, h3⟩ := trod_array4 ht hc h
    obtain ⟨n0, e0, _, w0⟩ := DataW.trod_int he h0
    obtain ⟨n1, e1, _, w1⟩ := DataW.trod_int he h1
    obtain ⟨n2, e2, _, w2⟩ := DataW.trod_int he h2
    obtain ⟨n3, e3, _, w3⟩ := DataW.trod_int he h3
    simp only [List.cons.injEq, and_true] at e0 e1 e2 e3
    subst e0 e1 e2 e3
    exact ⟨⟨n0, n1, n2, n3⟩, rfl, wf_i64 w0, wf_i64 w1, wf_i64 w2, wf_i64 w3⟩
end
end Go.Proofs.Yteglbaidaekccaa
