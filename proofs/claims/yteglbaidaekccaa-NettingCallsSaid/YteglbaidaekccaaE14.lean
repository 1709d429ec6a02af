/- The library's sort, compaction and search over slices of the call's own. Conditions: each law's own hypotheses. -/
import Derived.Test.YteglbaidaekccaaE13
import Derived.Sort.Grow
import Derived.Sort.Row
import Derived.Lib.SlicesCompact
namespace Go.Proofs.Yteglbaidaekccaa
open Go Go.RowKit

theorem own_cell {w : World} {r n cap T : Nat} {xs : List Int} (h : (Hp.own (some ⟨r, 0, none⟩) n cap T 1 (encs encI xs)).Holds w) {j : Nat} (hj : j < xs.length) : w.cell? ⟨r, 0 + j, none⟩ = some (.int .i64 (xs.getD j 0)) ∧ w.frozen? ⟨r, 0 + j, none⟩ = false := by
  obtain ⟨_, _, _, ⟨h4, _⟩ | ⟨r', e, rest, hr, hl⟩⟩ := h
  · cases h4
  · cases e
    have hx : (encs encI xs ++ rest)[j]? = some (.int .i64 (xs.getD j 0)) := by
      have h1 : (encs encI xs)[j]? = some (.int .i64 (xs.getD j 0)) := by
        have := encs_get (enc := encI) (sz := 1) (fun _ => rfl) (l := xs) (i := j) (x := xs.getD j 0) (by rw [List.getD_eq_getElem?_getD, List.getElem?_eq_getElem hj]; rfl) (j := 0) (v := .int .i64 (xs.getD j 0)) rfl
        simpa using this
      rw [List.getElem?_append_left (List.getElem?_eq_some_iff.1 h1).1]; exact h1
    constructor
    · simp [World.cell?, hr, hx]
    · simp [World.frozen?, hr]
theorem own_holds {w : World} {r n cap T : Nat} {xs : List Int} (h : (Hp.own (some ⟨r, 0, none⟩) n cap T 1 (encs encI xs)).Holds w) : Sort.Holds (Value.int .i64) w r 0 xs.toArray := fun j hj => by
  have hj : j < xs.length := by simpa using hj
  obtain ⟨h1, h2⟩ := own_cell h hj
  refine ⟨?_, h2⟩
  rw [h1]
  congr 2
  simp [List.getD_eq_getElem?_getD, hj]
theorem own_put {w : World} {r n cap T : Nat} {xs ys : List Int} (h : (Hp.own (some ⟨r, 0, none⟩) n cap T 1 (encs encI xs)).Holds w) (hl : ys.length = xs.length) (q : Nat) (os : Array Obj) :
    Mem w [r] [.own (some ⟨r, 0, none⟩) n cap T 1 (encs encI ys)] (Sort.grow (Sort.putRow (Value.int .i64) (Sort.ahead w q) r 0 ys.toArray) os) := by
  obtain ⟨h1, h2, h3, ⟨h4, _⟩ | ⟨r', e, rest, hr, hlen⟩⟩ := h
  · cases h4
  · cases e
    have hlt : r < w.heap.size := (Array.getElem?_eq_some_iff.1 hr).1
    have hx : ∀ l : List Int, (encs encI l).length = l.length := fun l => by rw [encs_length encI_len, Nat.mul_one]
    have hput : Sort.putCells (Value.int .i64) 0 ys.toArray (encs encI xs ++ rest).toArray = (encs encI ys ++ rest).toArray := by
      apply Array.ext_getElem?
      intro k
      unfold Sort.putCells
      rw [Array.getElem?_mapIdx, List.getElem?_toArray, List.getElem?_toArray]
      by_cases hk : k < ys.length
      · rw [List.getElem?_append_left (by rw [hx]; omega), List.getElem?_append_left (by rw [hx]; omega)]
        have e1 : (encs encI xs)[k]? = some (.int .i64 (xs.getD k 0)) := by
          have := encs_get (enc := encI) (sz := 1) (fun _ => rfl) (l := xs) (i := k) (x := xs.getD k 0) (by rw [List.getD_eq_getElem?_getD, List.getElem?_eq_getElem (by omega)]; rfl) (j := 0) (v := .int .i64 (xs.getD k 0)) rfl
          simpa using this
        have e2 : (encs encI ys)[k]? = some (.int .i64 (ys.getD k 0)) := by
          have := encs_get (enc := encI) (sz := 1) (fun _ => rfl) (l := ys) (i := k) (x := ys.getD k 0) (by rw [List.getD_eq_getElem?_getD, List.getElem?_eq_getElem hk]; rfl) (j := 0) (v := .int .i64 (ys.getD k 0)) rfl
          simpa using this
        rw [e1, e2]
        simp [hk, List.getD_eq_getElem?_getD]
      · rw [List.getElem?_append_right (by rw [hx]; omega), List.getElem?_append_right (by rw [hx]; omega), hx, hx, hl]
        cases hc : rest[k - xs.length]? with
        | none => rfl
        | some v => simp [hk]
    have hheap : (Sort.grow (Sort.putRow (Value.int .i64) (Sort.ahead w q) r 0 ys.toArray) os).heap[r]? = some (.cells (encs encI ys ++ rest).toArray T (0, 0)) := by
      show ((w.heap.modify r (Sort.onCells (Sort.putCells (Value.int .i64) 0 ys.toArray))) ++ os)[r]? = _
      rw [Array.getElem?_append_left (by simpa using hlt), Array.getElem?_modify, if_pos rfl, hr]
      simp only [Option.map_some, Sort.onCells, hput]
    refine ⟨⟨rfl, rfl, rfl, ?_, fun k hk hn => ?_⟩, fun x hx' => ?_, fun x hx' b eb => ?_, by simp⟩
    · show w.heap.size ≤ ((w.heap.modify r _) ++ os).size
      simp
    · have hne : r ≠ k := fun e => hn (by simp [e])
      show ((w.heap.modify r _) ++ os)[k]? = _
      rw [Array.getElem?_append_left (by simpa using hk), Array.getElem?_modify, if_neg hne]
    · rw [List.mem_singleton] at hx'
      subst hx'
      exact ⟨by rw [hx, hl, ← hx xs, h1], h2, h3, .inr ⟨r, rfl, rest, hheap, by rw [List.length_append, hx, hl, ← hx xs, ← List.length_append]; exact hlen⟩⟩
    · rw [List.mem_singleton] at hx'
      subst hx'
      simp [Hp.blk] at eb
      left; simp [← eb]
theorem Mem.takeOwn {w0 w : World} {S : List Nat} {A : Option Addr} {n cap T sz : Nat} {xs : List Value} (m : Mem w0 S [.own A n cap T sz xs] w) (k : Nat) (hk : k ≤ n) : Mem w0 S [.own A k cap T sz (xs.take (k * sz))] w := by
  refine ⟨m.upd, fun x hx => ?_, fun x hx r e => ?_, by simp⟩
  · rw [List.mem_singleton] at hx
    subst hx
    obtain ⟨h1, h2, h3, h4⟩ := m.holds _ (List.mem_cons_self ..)
    have hle : k * sz ≤ xs.length := by rw [h1]; exact Nat.mul_le_mul_right _ hk
    refine ⟨by rw [List.length_take]; omega, by omega, h3, ?_⟩
    rcases h4 with ⟨a1, a2, a3⟩ | ⟨r, a1, rest, hr, hl⟩
    · exact .inl ⟨a1, by omega, a3⟩
    · refine .inr ⟨r, a1, xs.drop (k * sz) ++ rest, ?_, ?_⟩
      · rw [← List.append_assoc, List.take_append_drop]; exact hr
      · rw [← List.append_assoc, List.take_append_drop]; exact hl
  · rw [List.mem_singleton] at hx
    subst hx
    exact m.fresh (.own A n cap T sz xs) (List.mem_cons_self ..) r e
def sortI (l : List Int) : List Int := l.mergeSort fun x y => decide (x ≤ y)
theorem sortI_len (l : List Int) : (sortI l).length = l.length := List.length_mergeSort l
theorem sortI_mem {l : List Int} {x : Int} : x ∈ sortI l ↔ x ∈ l := (List.mergeSort_perm l _).mem_iff
theorem sortI_sorted (l : List Int) : (sortI l).Pairwise (· ≤ ·) := by
  have h := List.pairwise_mergeSort (le := fun x y : Int => decide (x ≤ y)) (fun a b c h1 h2 => by simp at *; omega) (fun a b => by simp; omega) l
  exact List.Pairwise.imp (fun h => by simpa using h) h
theorem compact_sub (zs : List Int) : (Lib.compact zs).Sublist zs := by
  unfold Lib.compact Lib.compactUpTo
  have h : zs = (List.range zs.length).map fun j => zs.toArray[j]! := by
    apply List.ext_getElem?
    intro j
    rw [List.getElem?_map]
    by_cases hj : j < zs.length
    · rw [List.getElem?_range hj, List.getElem?_eq_getElem hj]; simp [hj]
    · rw [List.getElem?_eq_none (by omega), List.getElem?_eq_none (by simp; omega)]; rfl
  conv => rhs; rw [h]
  exact (List.filter_sublist).map _
theorem compact_mem {zs : List Int} {x : Int} (h : x ∈ zs) : x ∈ Lib.compact zs := by
  obtain ⟨j, hj, rfl⟩ := List.mem_iff_getElem.1 h
  have key : ∀ j (hj : j < zs.length), zs[j] ∈ Lib.compact zs := by
    intro j
    induction j with
    | zero =>
      intro hj
      unfold Lib.compact Lib.compactUpTo
      refine List.mem_map.2 ⟨0, List.mem_filter.2 ⟨List.mem_range.2 hj, Lib.keeps_lt_one _ 0 (by omega)⟩, by simp [hj]⟩
    | succ j ih =>
      intro hj
      by_cases e : zs[j + 1] = zs[j]
      · rw [e]; exact ih (by omega)
      · unfold Lib.compact Lib.compactUpTo
        refine List.mem_map.2 ⟨j + 1, List.mem_filter.2 ⟨List.mem_range.2 hj, Lib.keeps_pos (by simp [hj, show j < zs.length by omega]; exact e)⟩, by simp [hj]⟩
  exact key j hj
theorem compact_len (zs : List Int) : (Lib.compact zs).length ≤ zs.length := (compact_sub zs).length_le
end Go.Proofs.Yteglbaidaekccaa
