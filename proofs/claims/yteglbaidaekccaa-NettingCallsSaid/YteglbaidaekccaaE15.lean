/- Results that lie in cells; quotients of any int. Conditions: each law's own hypotheses. -/
import Derived.Test.YteglbaidaekccaaE14
namespace Go.Proofs.Yteglbaidaekccaa
open Go Go.RowKit
variable {X : Cx} {Q : Qt} {L L' : List (Nat × Value)} {H H' : List Hp} {c x y : Code} {ops : Array Oper} {rest : List Oper}

theorem pe_retC {fn : Func} {R : Value → World → Prop} {t T b n : Nat} {vs : List Value} (hr : fn.results = #[.cell t T]) (hds : X.ds = []) (hl : lk L t = some (.pointer (some ⟨b, 0, none⟩))) (hT : isAggT X.P T = some true) (hs : szT X.P T = some n) (hn : vs.length = n) (hrd : Rd X H b 0 vs)
    (h : ∀ w, Mem X.w0 X.S H w → R (.agg vs.toArray) w) : PE X (bodyQ X.P fn R) .ret L H := by
  subst hn
  intro a w ha hm
  refine ⟨ha.dfr.trans hds, _, ?_, _, rfl, h w hm⟩
  have := ha.get t _ hl
  have hc : ∀ j v, vs[j]? = some v → w.cell? ((⟨b, 0, none⟩ : Addr).add j) = some v := fun j v hv => by rw [addr_add]; exact hrd w hm j v hv
  simp [results, hr, this, asAddr, loadVar, run_isAggT hT, run_szT hs, run_loadCells_list (P := X.P) w _ vs hc]
theorem ex_quot {o o' : Operand} {T T' ty m n} (h : ev L o = some (.int .i64 m)) (h' : ev L o' = some (.int .i64 n)) (hm : -9223372036854775808 ≤ m ∧ m < 9223372036854775808) (hn : 0 < n) :
    Ex X L H (.binOp .quo T o o' T') ty (.int .i64 (m.tdiv n)) := by
  intro a w ha hm' _ _ _ _
  have h1 : -9223372036854775808 ≤ m.tdiv n ∧ m.tdiv n < 9223372036854775808 := by
    rcases Int.le_total 0 m with h0 | h0
    · rw [Int.tdiv_eq_ediv_of_nonneg h0]
      have := Int.ediv_le_self n h0
      have := Int.ediv_nonneg h0 (show 0 ≤ n by omega)
      omega
    · have h2 : m = -(-m) := by omega
      have h3 : 0 ≤ -m := by omega
      rw [h2, Int.neg_tdiv, Int.tdiv_eq_ediv_of_nonneg h3]
      have := Int.ediv_le_self n h3
      have := Int.ediv_nonneg h3 (show 0 ≤ n by omega)
      omega
  have hw : IntKind.i64.wrap (m.tdiv n) = m.tdiv n := by rw [IntKind.wrap_i64]; omega
  simp [execOp, ha.eval h, ha.eval h', eqGuard, binOp, Op.intDiv, show n ≠ 0 by omega, hw]
/-- An array literal. -/
theorem ex_buildA {T ty z n E sz cells} (ks : List Nat) (os : List Operand) {vs : List Value} {ps : Array (Nat × Operand)} (hps : ps = (ks.zip os).toArray) (ho : evs L os = some vs) (hT : X.P.underlying T = some (.array n E))
    (hz : zeT X.P T = some z) (hs : szT X.P E = some sz) (hf : Instr.fill (fun i => some (i * sz, sz)) z.cells (ks.zip vs) = some cells) : Ex X L H (.build T ps) ty (.agg cells) := by
  subst hps
  intro a w ha hm _ _ _ _
  have hp : ∀ (ks : List Nat) (os : List Operand) (vs : List Value), os.map a.eval = vs → ((ks.zip os).map fun p => (p.1, a.eval p.2)) = ks.zip vs := by
    intro ks os vs h; subst h
    rw [List.zip_map_right]
    rfl
  have h3 : (((ks.zip os).toArray.map fun (i, x) => (i, a.eval x)).toList) = ks.zip vs := by
    have := hp ks os vs (ha.evals ho)
    simpa using this
  simp only [execOp, Instr.build, Sem.run_bind, run_zeT hz, Result.andThen_ok, run_underlying hT, run_szT hs, h3, hf, Sem.run_pure]
end Go.Proofs.Yteglbaidaekccaa
