/- Cuts behind any code; stores into elements of several cells. Conditions: each law's own hypotheses. -/
import Derived.Test.YtolfgdkdghhidaaE12
namespace Go.Proofs.Ytolfgdkdghhidaa
open Go Go.RowKit
variable {X : Cx} {Q : Qt} {L L' : List (Nat × Value)} {H H' : List Hp} {c x y : Code} {ops : Array Oper} {rest : List Oper}

theorem wc_cutE {σ : Type} (Ls : σ → List (Nat × Value)) (Hs : σ → List Hp) (G : σ → Prop)
    (h1 : WC X x (cutQ X Ls Hs G Q) L H) (h2 : ∀ s, G s → PE X Q .normal (Ls s) (Hs s)) : WC X x Q L H := fun a w ha hm => by
  refine wpIn_mono (h1 a w ha hm) ?_
  intro e a w hq
  cases e <;> first
    | exact hq
    | (obtain ⟨s, hE, hM, hG⟩ := hq; exact h2 s hG a w hE hM)
theorem encs_setF {α : Type} {en : α → List Value} {sz : Nat} (hz : ∀ x, (en x).length = sz) : ∀ (l : List α) (i : Nat) (x x' : α) (j : Nat) (v : Value), l[i]? = some x → j < sz → en x' = (en x).set j v → (encs en l).set (i * sz + j) v = encs en (l.set i x')
  | [], i, x, x', j, v, h, _, _ => by simp at h
  | y :: l, 0, x, x', j, v, h, hj, e => by
    simp at h; subst h
    show (en y ++ encs en l).set (0 * sz + j) v = en x' ++ encs en l
    rw [Nat.zero_mul, Nat.zero_add, List.set_append_left _ _ (by rw [hz]; exact hj), e]
  | y :: l, i + 1, x, x', j, v, h, hj, e => by
    have ih := encs_setF hz l i x x' j v (by simpa using h) hj e
    show (en y ++ encs en l).set ((i + 1) * sz + j) v = en y ++ encs en (l.set i x')
    rw [List.set_append_right _ _ (by rw [hz, Nat.succ_mul]; omega), hz, ← ih]
    congr 2
    rw [Nat.succ_mul]; omega
/-- One cell of an element of a slice of the call's own. -/
theorem wl_storeF {α : Type} {en : α → List Value} {sz : Nat} (hz : ∀ x, (en x).length = sz) {T ty pos after o o' A n cap T' i j b off v} {xs : List α} {d d' : α} (ho : ev L o = some (.pointer (some ⟨b, off, none⟩))) (hb : b = bOf A) (hoff : off = oOf A + (Int.toNat i * sz + j)) (hv : ev L o' = some v) (h1 : v.oneCell' = true) (hs : szT X.P T = some 1)
    (p : Pick H (.own A n cap T' sz (encs en xs)) H') (hd : xs[i.toNat]? = some d) (hj : j < sz) (he : en d' = (en d).set j v) (kk : WL X ops Q rest L (.own A n cap T' sz (encs en (xs.set i.toNat d')) :: H')) : WL X ops Q (⟨none, .store T o o', ty, pos, after, none⟩ :: rest) L H := by
  have hl := (List.getElem?_eq_some_iff.1 hd).1
  refine wl_storeO (k := i.toNat * sz + j) ho hb hoff hv h1 hs p ?_ ?_
  · rw [encs_length hz]
    have : (i.toNat + 1) * sz ≤ xs.length * sz := Nat.mul_le_mul_right _ hl
    rw [Nat.succ_mul] at this
    omega
  · rw [encs_setF hz xs _ d d' j v hd hj he]; exact kk
end Go.Proofs.Ytolfgdkdghhidaa
