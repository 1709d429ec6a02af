/- Arguments of a law: slices whose elements are a fixed number of ints. Conditions: each law's own hypotheses. -/
import Derived.Test.YteglbaidaekccaaE11
import Derived.ChangeSlices
import Derived.Laws.IdiomArrays
import Derived.Deep.Strs
import Derived.ChangeArms
namespace Go.Proofs.Yteglbaidaekccaa
open Go Go.RowKit Go.ChangeShapes Go.WideShapes

section
variable {Hh : Type} {enc : TypeId × Value → Hh} {P : Program} {w : World} {base : Nat} {sp : Nat → Bool} {held : Bool}

theorem list_of_ex {α : Type} (len : Nat) {p : Nat → α → Prop} (h : ∀ i, i < len → ∃ a, p i a) : ∃ l : List α, l.length = len ∧ ∀ i a, l[i]? = some a → p i a := by
  induction len with
  | zero => exact ⟨[], rfl, fun i a h => by simp at h⟩
  | succ n ih =>
    obtain ⟨l, hl, hp⟩ := ih (fun i hi => h i (by omega))
    obtain ⟨a, ha⟩ := h n (by omega)
    refine ⟨l ++ [a], by simp [hl], fun i b hb => ?_⟩
    by_cases e : i < n
    · rw [List.getElem?_append_left (by omega)] at hb; exact hp i b hb
    · rw [List.getElem?_append_right (by omega)] at hb
      have : i - l.length = 0 := by
        have := (List.getElem?_eq_some_iff.1 hb).1
        simp at this; omega
      rw [this] at hb; simp at hb; subst hb
      rw [show i = n by omega]; exact ha
theorem encs_at {α : Type} {en : α → List Value} {sz : Nat} (hz : ∀ x, (en x).length = sz) : ∀ (l : List α) (j : Nat) (v : Value), (encs en l)[j]? = some v → ∃ a, l[j / sz]? = some a ∧ (en a)[j % sz]? = some v
  | [], j, v, h => by simp [encs] at h
  | x :: l, j, v, h => by
    have hs : 0 < sz := by
      rcases Nat.eq_zero_or_pos sz with e | e
      · exfalso
        have hlen := encs_length hz (l := x :: l)
        have := (List.getElem?_eq_some_iff.1 h).1
        rw [hlen, e] at this; simp at this
      · exact e
    have he : encs en (x :: l) = en x ++ encs en l := by simp [encs]
    rw [he] at h
    by_cases hj : j < sz
    · rw [List.getElem?_append_left (by rw [hz]; exact hj)] at h
      exact ⟨x, by rw [Nat.div_eq_of_lt hj]; rfl, by rw [Nat.mod_eq_of_lt hj]; exact h⟩
    · rw [List.getElem?_append_right (by rw [hz]; omega), hz] at h
      obtain ⟨a, h1, h2⟩ := encs_at hz l (j - sz) v h
      refine ⟨a, ?_, ?_⟩
      · rw [show j = (j - sz) + sz by omega, Nat.add_div_right _ hs]; simpa using h1
      · rw [show j = (j - sz) + sz by omega, Nat.add_mod_right]; exact h2

/-- a slice whose elements all read as en a -/
theorem open_flat {α : Type} {en : α → List Value} {sz : Nat} {ok : α → Prop} {t e : TypeId} {A : Option Addr} {len0 cap0 : Nat} {d : DataW Hh} {ps : List MemPlace} (hz : ∀ x, (en x).length = sz) (hs : 0 < sz) (ht : P.underlying t = some (.slice e)) (hc : P.cellsOf e = sz)
    (hel : ∀ n cs y, cs.length = sz → DataW.trod enc P w base sp held n e cs = some y → ∃ a, cs = en a ∧ ok a) (h : DataW.Trod enc P w base sp held t (.slice A len0 cap0) d ps) :
    ∃ l : List α, l.length = len0 ∧ Sl w A (encs en l) ∧ ∀ a ∈ l, ok a := by
  obtain ⟨fuel, h⟩ := h
  rcases DataW.trod_slice ht h with ⟨hcs, _⟩ | ⟨a, len, cap, elems, rest, n, _, hcs, _, hb, hl, hm, hlen, helm, _, _⟩
  · have hv : Value.slice A len0 cap0 = .slice none 0 0 := (List.cons.inj hcs).1
    cases hv
    exact ⟨[], rfl, .inl rfl, by simp⟩
  · have hv : Value.slice A len0 cap0 = .slice (some a) len cap := (List.cons.inj hcs).1
    cases hv
    have hex : ∀ i, i < len0 → ∃ b : α, ok b ∧ w.cells? base (a.add (i * sz)) sz = some (en b) := by
      intro i hi
      have hE := helm i hi
      rw [hc] at hE
      have hi' : i < elems.length := by omega
      rw [List.getElem?_eq_getElem hi', Option.bind_eq_some_iff] at hE
      obtain ⟨cs, h1, h2⟩ := hE
      obtain ⟨b, rfl, hb⟩ := hel n cs _ (World.cells?_some h1).2.1 h2
      exact ⟨b, hb, h1⟩
    obtain ⟨l, hl1, hl2⟩ := list_of_ex len0 hex
    refine ⟨l, hl1, ?_, fun b hb => ?_⟩
    · cases l with
      | nil => exact .inl rfl
      | cons b l =>
        have h0 := hl2 0 b rfl
        have hc0 := (World.cells?_some h0.2).2.2 0 hs
        rw [Nat.zero_mul] at hc0
        have e0 : (a.add 0).add 0 = a := by simp [Addr.add]
        rw [e0] at hc0
        obtain ⟨v0, hv0⟩ : ∃ v0, (en b)[0]? = some v0 := ⟨_, List.getElem?_eq_getElem (by rw [hz]; exact hs)⟩
        rw [hv0] at hc0
        have hspot : a.spot = none := by
          unfold World.cell? at hc0
          split at hc0
          · split at hc0
            · cases hc0
            · rename_i hsp; cases hsp' : a.spot with
              | none => rfl
              | some x => rw [hsp'] at hsp; simp at hsp
          · cases hc0
        have hlt : a.block < w.heap.size := by
          unfold World.cell? at hc0
          split at hc0
          · rename_i hh; exact (Array.getElem?_eq_some_iff.1 hh).1
          · cases hc0
        obtain ⟨blk, off, spot⟩ := a
        simp only at hspot; subst hspot
        refine .inr ⟨blk, off, rfl, hlt, fun j u hu => ?_⟩
        obtain ⟨c, hc1, hc2⟩ := encs_at hz _ j u hu
        have hcl := (hl2 _ c hc1).2
        have := (World.cells?_some hcl).2.2 (j % sz) (Nat.mod_lt _ hs)
        rw [hc2, addr_add, addr_add] at this
        rw [← this]
        congr 2
        have := Nat.div_add_mod j sz
        rw [Nat.mul_comm] at this
        omega
    · obtain ⟨i, hi, rfl⟩ := List.mem_iff_getElem.1 hb
      exact (hl2 i _ (List.getElem?_eq_getElem hi)).1
end
end Go.Proofs.Yteglbaidaekccaa
