/- Walks. -/
import Derived.Test.YteglbaidaekccaaWf
set_option linter.unusedVariables false
set_option linter.unusedSimpArgs false
set_option maxRecDepth 10000
namespace Go.Proofs.Yteglbaidaekccaa
open Go Go.RowKit
abbrev ow (l : List Debt) : Book := fun a b => owesI a b l
theorem ext1_low (f : Book) (n : Nat) (p : List Int) (j : Nat) (h : (j : Int) ≤ hdI p) : ext1 f n p j = none := by
  unfold ext1; rw [if_neg]; omega
theorem ext_some {f : Book} {n : Nat} {p o : List Int} {c : Int} (h0 : 0 ≤ c) (h8 : c < 8) (h1 : hdI p < c) (h2 : 0 < f (lsI p) c) (h3 : c ∉ p) (hn : ∀ j : Nat, j < c.toNat → ext1 f n p j = none) (h : ext f n (p ++ [c]) = some o) : ext f (n + 1) p = some o := by
  rw [ext_succ]
  refine find_some (k := c.toNat) (by omega) hn ?_
  unfold ext1
  rw [Int.toNat_of_nonneg h0, if_pos ⟨h1, h2, h3⟩, h]
theorem ext_next {f : Book} {n : Nat} {p : List Int} {c : Int} (h0 : 0 ≤ c) (hn : ∀ j : Nat, j < c.toNat → ext1 f n p j = none) (h : ¬ (0 < f (lsI p) c ∧ c ∉ p) ∨ ext f n (p ++ [c]) = none) : ∀ j : Nat, j < (c + 1).toNat → ext1 f n p j = none := by
  rw [show (c + 1).toNat = c.toNat + 1 by omega]
  refine none_step hn ?_
  unfold ext1
  rw [Int.toNat_of_nonneg h0]
  rcases h with h | h
  · rw [if_neg (fun hh => h hh.2)]
  · rw [h]; simp
theorem ext_none {f : Book} {n : Nat} {p : List Int} (hn : ∀ j : Nat, j < 8 → ext1 f n p j = none) : ext f (n + 1) p = none := by
  rw [ext_succ]; exact find_none hn
def ExtC (n : Nat) : Prop := ∀ (Al : Option Addr) (cl : Nat) (l : List Debt) (A : Option Addr) (cap : Nat) (p : List Int) (size : Int) (w : World) (hk : Hold [.own A p.length cap 3 1 (encs encI p)] w) (hl : SlB w (blks [.own A p.length cap 3 1 (encs encI p)]) Al (encs encD l)) (hlen : l.length ≤ 1000) (hb : ∀ d ∈ l, -1000000000000 ≤ d.amt ∧ d.amt ≤ 1000000000000) (h0 : 0 < p.length) (he : ∀ x ∈ p, 0 ≤ x ∧ x ≤ 7) (hsz : (p.length : Int) + n = size) (h8 : size ≤ 8), Cl Try.prog 999999 [.slice Al l.length cl, .slice A p.length cap, .int .i64 size] w (IsT (γ := (Option Addr) × Nat × Nat × (List Int)) [.own A p.length cap 3 1 (encs encI p)] (fun s => s.2.1 = s.2.2.2.length ∧ ∀ o, ext (ow l) n p = some o → s.2.2.2 = o) (fun s => .tuple #[.slice s.1 s.2.1 s.2.2.1, .bool (ext (ow l) n p).isSome]) (fun s => [.own s.1 s.2.1 s.2.2.1 3 1 (encs encI s.2.2.2)]) w)



end Go.Proofs.Yteglbaidaekccaa
