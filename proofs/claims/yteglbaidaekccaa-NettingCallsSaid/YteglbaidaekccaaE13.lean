/- Cuts behind any code; stores into elements of several cells. Conditions: each law's own hypotheses. -/
import Derived.Test.YteglbaidaekccaaE12
import Derived.ChangeArms
namespace Go.Proofs.Yteglbaidaekccaa
open Go Go.RowKit
variable {X : Cx} {Q : Qt} {L L' : List (Nat × Value)} {H H' : List Hp} {c x y : Code} {ops : Array Oper} {rest : List Oper}

theorem wc_cutE {σ : Type} (Ls : σ → List (Nat × Value)) (Hs : σ → List Hp) (G : σ → Prop)
    (h1 : WC X x (cutQ X Ls Hs G Q) L H) (h2 : ∀ s, G s → PE X Q .normal (Ls s) (Hs s)) : WC X x Q L H := fun a w ha hm => by
  refine wpIn_mono (h1 a w ha hm) ?_
  intro e a w hq
  cases e <;> first
    | exact hq
    | (obtain ⟨s, hE, hM, hG⟩ := hq; exact h2 s hG a w hE hM)
theorem encs_setF {α : Type} {en : α → List Value} {sz : Nat} (hz : ∀ x, (en x).length = sz) : ∀ (l : List α) (i : Nat) (x x' : α) (j : Nat) (v : Value), l[i]? = some x → j < sz → en x' = (en x).set j v → (encs en l).set (i * sz + j) v = encs en (l.set i x')
  | [], i, x, x', j, v, h, _, _ => by simp at h
  | y :: l, 0, x, x', j, v, h, hj, e => by
    simp at h; subst h
    show (en y ++ encs en l).set (0 * sz + j) v = en x' ++ encs en l
    rw [Nat.zero_mul, Nat.zero_add, List.set_append_left _ _ (by rw [hz]; exact hj), e]
  | y :: l, i + 1, x, x', j, v, h, hj, e => by
    have ih := encs_setF hz l i x x' j v (by simpa using h) hj e
    show (en y ++ encs en l).set ((i + 1) * sz + j) v = en y ++ encs en (l.set i x')
    rw [List.set_append_right _ _ (by rw [hz, Nat.succ_mul]; omega), hz, ← ih]
    congr 2
    rw [Nat.succ_mul]; omega
/-- One cell of an element of a slice of the call's own. -/
theorem wl_storeF {α : Type} {en : α → List Value} {sz : Nat} (hz : ∀ x, (en x).length = sz) {T ty pos after o o' A n cap T' i j b off v} {xs : List α} {d d' : α} (ho : ev L o = some (.pointer (some ⟨b, off, none⟩))) (hb : b = bOf A) (hoff : off = oOf A + (Int.toNat i * sz + j)) (hv : ev L o' = some v) (h1 : v.oneCell' = true) (hs : szT X.P T = some 1)
    (p : Pick H (.own A n cap T' sz (encs en xs)) H') (hd : xs[i.toNat]? = some d) (hj : j < sz) (he : en d' = (en d).set j v) (kk : WL X ops Q rest L (.own A n cap T' sz (encs en (xs.set i.toNat d')) :: H')) : WL X ops Q (⟨none, .store T o o', ty, pos, after, none⟩ :: rest) L H := by
  have hl := (List.getElem?_eq_some_iff.1 hd).1
  refine wl_storeO (k := i.toNat * sz + j) ho hb hoff hv h1 hs p ?_ ?_
  · rw [encs_length hz]
    have : (i.toNat + 1) * sz ≤ xs.length * sz := Nat.mul_le_mul_right _ hl
    rw [Nat.succ_mul] at this
    omega
  · rw [encs_setF hz xs _ d d' j v hd hj he]; exact kk
/-- fewer elements of a slice of the call's own -/
theorem pe_takeOwn {e : Exit} {A n cap T sz xs} (k : Nat) (p : Pick H (.own A n cap T sz xs) H') (hk : k ≤ n) (h : PE X Q e L (.own A k cap T sz (xs.take (k * sz)) :: H')) : PE X Q e L H := by
  intro a w ha hm
  have m := hm.perm p.perm
  refine h a w ha ⟨m.upd, ?_, ?_, ?_⟩
  · intro x hx
    rcases List.mem_cons.1 hx with rfl | hx
    · obtain ⟨h1, h2, h3, h4⟩ := m.holds _ (List.mem_cons_self ..)
      have hle : k * sz ≤ xs.length := by rw [h1]; exact Nat.mul_le_mul_right _ hk
      refine ⟨by rw [List.length_take]; omega, by omega, h3, ?_⟩
      rcases h4 with ⟨a1, a2, a3⟩ | ⟨r, a1, rest, hr, hl⟩
      · exact .inl ⟨a1, by omega, a3⟩
      · refine .inr ⟨r, a1, xs.drop (k * sz) ++ rest, ?_, ?_⟩
        · rw [← List.append_assoc, List.take_append_drop]; exact hr
        · rw [← List.append_assoc, List.take_append_drop]; exact hl
    · exact m.holds x (List.mem_cons_of_mem _ hx)
  · intro x hx r e
    rcases List.mem_cons.1 hx with rfl | hx
    · exact m.fresh (.own A n cap T sz xs) (List.mem_cons_self ..) r e
    · exact m.fresh x (List.mem_cons_of_mem _ hx) r e
  · obtain ⟨s1, s2⟩ := List.pairwise_cons.1 m.sep
    exact List.pairwise_cons.2 ⟨fun x hx r e => s1 x hx r e, s2⟩
def encV (v : Value) : List Value := [v]
theorem encV_len (v : Value) : (encV v).length = 1 := rfl
/-- s[:hi] -/
theorem ex_sliceH0 {o oh : Operand} {T E ty A n cap sz k} {hi : Int} (ho : ev L o = some (.slice A n cap)) (hh : ev L oh = some (.int k hi)) (hT : X.P.underlying T = some (.slice E)) (hs : szT X.P E = some sz)
    (h0 : 0 ≤ hi) (h1 : hi ≤ cap) : Ex X L H (.slice T o none (some oh) none) ty (.slice A hi.toNat cap) := by
  intro a w ha hm _ _ _ _
  have hA' : (if cap = 0 then A else A.map (·.add (0 * sz))) = A := by
    split
    · rfl
    · cases A with
      | none => rfl
      | some a => simp [Addr.add]
  simp [execOp, Instr.sliceAt, Instr.slice, run_underlying hT, ha.eval ho, ha.eval hh, Instr.sliceBounds, Instr.sliceBound, asIntOf, h0, h1, run_szT hs]
  simpa using hA'
theorem sl_takeE {α : Type} {en : α → List Value} {sz : Nat} (hz : ∀ x, (en x).length = sz) {A} {l : List α} (h : SlX X H A (encs en l)) (k : Nat) : SlX X H A (encs en (l.take k)) := by
  rw [encs_take hz]; exact sl_takeX h _
theorem Sl.takeE {α : Type} {en : α → List Value} {sz : Nat} (hz : ∀ x, (en x).length = sz) {w A} {l : List α} (h : Sl w A (encs en l)) (k : Nat) : Sl w A (encs en (l.take k)) := by
  rw [encs_take hz]; exact h.take _
theorem sl_ownDrop {α : Type} {en : α → List Value} {sz : Nat} (hz : ∀ x, (en x).length = sz) {A n cap T} {l : List α} (p : Pick H (.own A n cap T sz (encs en l)) H') (k : Nat) : SlX X H (subA A cap k sz) (encs en (l.drop k)) := by
  intro w m
  rw [encs_drop hz]
  refine sl_sub (own_sl (m.get p)) fun e => ?_
  obtain ⟨h1, h2, _, _⟩ := m.get p
  exact List.drop_eq_nil_of_le (by rw [h1]; subst e; exact Nat.mul_le_mul_right _ h2)

section
variable {Hh : Type} {enc : TypeId × Value → Hh} {P : Program} {w : World} {base : Nat} {sp : Nat → Bool} {held : Bool}
theorem open_cap {t e : TypeId} {A : Option Addr} {len0 cap0 : Nat} {d : DataW Hh} {ps : List MemPlace} (ht : P.underlying t = some (.slice e)) (h : DataW.Trod enc P w base sp held t (.slice A len0 cap0) d ps) : len0 ≤ cap0 := by
  obtain ⟨fuel, h⟩ := h
  rcases DataW.trod_slice ht h with ⟨hcs, _⟩ | ⟨a, len, cap, elems, rest, n, _, hcs, _, hb, hl, _⟩
  · have hv : Value.slice A len0 cap0 = .slice none 0 0 := (List.cons.inj hcs).1
    cases hv
    exact Nat.le_refl _
  · have hv : Value.slice A len0 cap0 = .slice (some a) len cap := (List.cons.inj hcs).1
    cases hv
    exact hl
end
end Go.Proofs.Yteglbaidaekccaa
