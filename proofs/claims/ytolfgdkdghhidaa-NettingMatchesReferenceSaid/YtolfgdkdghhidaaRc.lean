/- Elements of a law's arguments: debts. Conditions: each law's own hypotheses. -/
import Derived.Test.YtolfgdkdghhidaaRb
import Derived.Deep.Strs
namespace Go.Proofs.Ytolfgdkdghhidaa
open Go Go.ChangeShapes Go.WideShapes Go.ChangeAt Go.RowKit
section
variable {Hh : Type} {enc : TypeId × Value → Hh} {P : Program} {w : World} {base : Nat} {sp : Nat → Bool} {held : Bool}
theorem debt_el {t : TypeId} {f0 f1 f2 : Field} {n : Nat} {cs : List Value} {y : DataW Hh × List MemPlace} (ht : P.underlying t = some (.struct #[f0, f1, f2])) (ho : f0.offset = 0 ∧ f1.offset = 1 ∧ f2.offset = 2) (u0 : P.underlying f0.type = some (.int .i64)) (u1 : P.underlying f1.type = some (.int .i64)) (u2 : P.underlying f2.type = some (.int .i64))
    (hc : P.cellsOf f0.type = 1 ∧ P.cellsOf f1.type = 1 ∧ P.cellsOf f2.type = 1) (hl : cs.length = 3) (h : DataW.trod enc P w base sp held n t cs = some y) : ∃ d : Debt, cs = encD d ∧ i64 d.frm ∧ i64 d.to ∧ i64 d.amt := by
  match cs, hl with
  | [c0, c1, c2], _ =>
    obtain ⟨y0, y1, y2, m, _, _, h0, h1, h2⟩ := Go.Deep.trod_struct3 ht h
    rw [ho.1, hc.1] at h0
    rw [ho.2.1, hc.2.1] at h1
    rw [ho.2.2, hc.2.2] at h2
    obtain ⟨n0, e0, _, w0⟩ := DataW.trod_int u0 h0
    obtain ⟨n1, e1, _, w1⟩ := DataW.trod_int u1 h1
    obtain ⟨n2, e2, _, w2⟩ := DataW.trod_int u2 h2
    simp only [List.drop, List.take, List.cons.injEq, and_true] at e0 e1 e2
    subst e0 e1 e2
    exact ⟨⟨n0, n1, n2⟩, rfl, wf_i64 w0, wf_i64 w1, wf_i64 w2⟩
end
end Go.Proofs.Ytolfgdkdghhidaa
