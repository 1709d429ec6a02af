/- The row of the law NettingConserves. Condition: the walk (c_Conserves). -/
import Derived.Test.YtolfgdkdghhidaaRows
import Derived.Test.YtolfgdkdghhidaaWu
import Derived.Test.YtolfgdkdghhidaaE12
import Derived.WalkKit
import Derived.ProofKit
import Derived.OpenShut
import Derived.ShutString
import Derived.ChangeOld
import Derived.Below
import Derived.SizedLaws
namespace Go.Proofs.Ytolfgdkdghhidaa.nettingConserves
open Go Go.ChangeShapes Go.WideShapes Go.ChangeAt Go.RowKit
set_option linter.unusedVariables false
theorem own : ownKnob Try.prog.godebug = none := by kernel_rfl
theorem laidOut : laidOutB Try.prog = true := by kernel_rfl
theorem wf_i64 {n : Int} (h : (Lit.int .i64 n).wf = true) : i64 n := by
  have h1 : IntKind.i64.min = -9223372036854775808 := by decide
  have h2 : IntKind.i64.max = 9223372036854775807 := by decide
  simp [Lit.wf, h1, h2] at h
  unfold i64; omega
theorem tri_el {Hh : Type} {enc : TypeId × Value → Hh} {P : Program} {w : World} {base : Nat} {sp : Nat → Bool} {held : Bool} {t e : TypeId} {n : Nat} {cs : List Value} {y : DataW Hh × List MemPlace} (ht : P.underlying t = some (.array 3 e)) (he : P.underlying e = some (.int .i64)) (hc : P.cellsOf e = 1) (hl : cs.length = 3) (h : DataW.trod enc P w base sp held n t cs = some y) : ∃ a : Tri, cs = encT a ∧ a.ok := by
  match cs, hl with
  | [c0, c1, c2], _ =>
    obtain ⟨y0, y1, y2, m, _, h0, h1, h2⟩ := trod_array3 ht hc h
    obtain ⟨n0, e0, _, w0⟩ := DataW.trod_int he h0
    obtain ⟨n1, e1, _, w1⟩ := DataW.trod_int he h1
    obtain ⟨n2, e2, _, w2⟩ := DataW.trod_int he h2
    simp only [List.cons.injEq, and_true] at e0 e1 e2
    subst e0 e1 e2
    exact ⟨⟨n0, n1, n2⟩, rfl, wf_i64 w0, wf_i64 w1, wf_i64 w2⟩
set_option maxRecDepth 100000 in
theorem lifted (os : Os) (started : os.Started) (H : Type) (enc : TypeId × Value → H) :
    ReturnsInHanded {} Try.checked os 4 .any (Rows.nettingConservesSpec.pre6 enc Try.prog Try.f4 Rows.nettingConservesRow.domain false) (Rows.nettingConservesSpec.post enc Try.prog Try.f4 false true false false) := by
  refine returnsInHanded_of_change (C := Try.checked) own started (by kernel_rfl) Try.func4
    (ChangeSpec.witness6 (enc := enc) (C := Try.checked) false ⟨#[], #[.slice none 0 0], []⟩ 8 (by kernel_rfl) (by kernel_rfl) (by kernel_rfl) (by kernel_rfl)) ?_
  intro W base args ds gs before hval0 hW hcnd
  have hval : ∀ (j : Nat) t v, Try.f4.params[j]? = some t → args[j]? = some v → Value.okWide Try.prog W .any base t v := hval0
  have hW' := hW
  obtain ⟨p, q, hA0, hV, rfl, hfz, hnd⟩ := hW
  have hA : DataW.TrodAll enc Try.prog W 0 (fun _ => true) true Try.f4.params.toList args.toList ds p := hA0
  rw [Try.params4] at hA hval
  obtain ⟨v0, vs0, d0, ds0, p0, q0, hargs, rfl, rfl, h0, r0⟩ := trodAll_cons hA
  obtain ⟨rfl, rfl, rfl⟩ := trodAll_nil r0
  obtain rfl : args = #[v0] := by cases args; simp_all
  obtain ⟨rfl, rfl⟩ := trodVars_none hV
  obtain ⟨a0, len0, cap0, rfl⟩ := okWide_slice Try.underlying22 (hval 0 22 v0 rfl rfl)
  have k0 := h0
  have lt0 : ∀ x ∈ p0, x.block < W.heap.size := by obtain ⟨m, hm⟩ := k0; exact DataW.trod_lt m _ _ _ hm
  obtain ⟨l0, rfl, s0, o0⟩ := open_flat (en := encT) (ok := Tri.ok) encT_len (by decide) Try.underlying22 (by kernel_rfl) (fun n cs y hl hy => tri_el Try.underlying23 Try.underlying3 (by kernel_rfl) hl hy) h0
  clear hA0 hval0
  intro _
  refine (Calls.mono (c_Conserves a0 cap0 l0 W s0 o0) ?_)
  rintro e W' ⟨v, rfl, rfl, hm⟩
  have bel := hm.upd.below
  exact ⟨_, rfl, _, _, _, [], _, [], hW', trodAll_mk1 (shut_bool Try.underlying4 _), (trodAll_cons_mk (Below.trod laidOut (by kernel_rfl) (of_decide_eq_true (by kernel_rfl)) k0 bel lt0) trodAll_mk0), rfl, bel.frame _, fun h => by cases h⟩
theorem over : Rows.nettingConservesRow.holds Try.pinned (OpenSpec.ofChange Rows.nettingConservesSpec) :=
  OpenClaim.holds_of_wide 4 Try.f4 rfl rfl rfl rfl rfl rfl rfl ⟨rfl, rfl, rfl, rfl, rfl⟩ rfl rfl rfl rfl rfl (by kernel_rfl) Try.func4 (by kernel_rfl)
    (of_decide_eq_true (by kernel_rfl)) (by unfold Func.isWrapper; first | (rw [if_pos (by decide +kernel)]; kernel_rfl) | (rw [if_neg (by decide +kernel)]; exact ⟨rfl, rfl⟩))
    (fun os started H enc _ => lifted os started H enc)
theorem proved : Rows.NettingConservesSaid := over
end Go.Proofs.Ytolfgdkdghhidaa.nettingConserves
namespace Go.Proofs.Ytolfgdkdghhidaa
/-- The row, under a short name, for the claim. -/
theorem nettingConserves_holds : Rows.NettingConservesSaid := nettingConserves.proved
end Go.Proofs.Ytolfgdkdghhidaa
