/- Plain laws of netting, second part: books, cycles, rounds. No Go in sight. -/
import Derived.Test.Ytolfgdkdghhidaaplain39
namespace Go.Proofs.Ytolfgdkdghhidaa

/-! ### Books -/
def setB (f : Book) (i k v : Int) : Book := fun a b => if a = i ∧ b = k then v else f a b
def raw1 (a b : Int) (d : Debt) : Int := if d.frm = a ∧ d.to = b then d.amt else 0
def rawI (l : List Debt) : Book := fun a b => (l.map (raw1 a b)).sum
theorem rawI_nil : rawI [] = fun _ _ => 0 := rfl
theorem rawI_take {l : List Debt} {k : Nat} {d : Debt} (h : l[k]? = some d) : rawI (l.take (k + 1)) = setB (rawI (l.take k)) d.frm d.to (rawI (l.take k) d.frm d.to + d.amt) := by
  funext a b
  unfold rawI setB
  rw [List.take_add_one, h]
  simp only [Option.toList, List.map_append, List.map_cons, List.map_nil, List.sum_append, List.sum_cons, List.sum_nil, raw1]
  by_cases e : a = d.frm ∧ b = d.to
  · rw [if_pos e, if_pos ⟨e.1.symm, e.2.symm⟩, e.1, e.2]; omega
  · rw [if_neg e, if_neg (fun h => e ⟨h.1.symm, h.2.symm⟩)]; omega
theorem owes_raw (l : List Debt) (a b : Int) : owesI a b l = rawI l a b - rawI l b a := by
  unfold owesI rawI
  induction l with
  | nil => rfl
  | cons d l ih => simp only [List.map_cons, List.sum_cons, ih, owes1, raw1]; omega
theorem raw_bd {lim : Int} (h0 : 0 ≤ lim) (l : List Debt) (h : ∀ d ∈ l, okD lim d) (a b : Int) : 0 ≤ rawI l a b ∧ rawI l a b ≤ lim * l.length := by
  unfold rawI
  induction l with
  | nil => simp
  | cons d l ih =>
    have h1 := ih (fun x hx => h x (by simp [hx]))
    have h2 := h d (by simp)
    unfold okD at h2
    have h3 : 0 ≤ raw1 a b d ∧ raw1 a b d ≤ lim := by unfold raw1; split <;> omega
    simp only [List.map_cons, List.sum_cons, List.length_cons]
    rw [show ((l.length + 1 : Nat) : Int) = (l.length : Int) + 1 by omega, Int.mul_add]
    omega
theorem raw_zero {lim : Int} (l : List Debt) (h : ∀ d ∈ l, okD lim d) (a b : Int) (hz : ¬ (0 ≤ a ∧ a ≤ 7) ∨ ¬ (0 ≤ b ∧ b ≤ 7) ∨ a = b) : rawI l a b = 0 := by
  unfold rawI
  induction l with
  | nil => rfl
  | cons d l ih =>
    have h1 := ih (fun x hx => h x (by simp [hx]))
    have h2 := h d (by simp)
    unfold okD at h2
    have h3 : raw1 a b d = 0 := by
      unfold raw1
      rw [if_neg]
      rintro ⟨rfl, rfl⟩
      omega
    simp only [List.map_cons, List.sum_cons, h1, h3]; rfl
/-- what is left when the pairs up to some row and column are settled -/
def netTo (g : Book) (i k : Int) : Book := fun a b => if 0 ≤ a ∧ 0 ≤ b ∧ ((a < i ∧ b < i) ∨ (a = i ∧ b < k) ∨ (b = i ∧ a < k)) then g a b - min (g a b) (g b a) else g a b
theorem netTo_zero (g : Book) : netTo g 0 0 = g := by
  funext a b; unfold netTo; rw [if_neg]; omega
theorem netTo_row (g : Book) (i : Int) (hg : g i i = 0) : netTo g i i = netTo g (i + 1) 0 := by
  funext a b; unfold netTo
  by_cases e : a = i ∧ b = i
  · obtain ⟨rfl, rfl⟩ := e; simp [hg]
  · by_cases h : 0 ≤ a ∧ 0 ≤ b ∧ ((a < i ∧ b < i) ∨ (a = i ∧ b < i) ∨ (b = i ∧ a < i))
    · rw [if_pos h, if_pos]; omega
    · rw [if_neg h, if_neg]; omega
theorem netTo_at (g : Book) (i k : Int) (hi : k < i) : netTo g i k i k = g i k ∧ netTo g i k k i = g k i := by
  unfold netTo
  constructor
  · rw [if_neg]; omega
  · rw [if_neg]; omega
theorem netTo_step (g : Book) (i k : Int) (hk : 0 ≤ k) (hi : k < i) : setB (setB (netTo g i k) i k (g i k - min (g i k) (g k i))) k i (g k i - min (g i k) (g k i)) = netTo g i (k + 1) := by
  funext a b; unfold setB
  by_cases e1 : a = k ∧ b = i
  · obtain ⟨rfl, rfl⟩ := e1
    rw [if_pos ⟨rfl, rfl⟩]; unfold netTo
    rw [if_pos (by omega), Int.min_comm]
  · rw [if_neg e1]
    by_cases e2 : a = i ∧ b = k
    · obtain ⟨rfl, rfl⟩ := e2
      rw [if_pos ⟨rfl, rfl⟩]; unfold netTo
      rw [if_pos (by omega)]
    · rw [if_neg e2]; unfold netTo
      by_cases h : 0 ≤ a ∧ 0 ≤ b ∧ ((a < i ∧ b < i) ∨ (a = i ∧ b < k) ∨ (b = i ∧ a < k))
      · rw [if_pos h, if_pos]; omega
      · rw [if_neg h, if_neg]; omega
theorem netTo_all {lim : Int} (l : List Debt) (h : ∀ d ∈ l, okD lim d) (h0 : 0 ≤ lim) : netTo (rawI l) 8 0 = bookOf l := by
  funext a b
  have z := raw_zero l h a b
  have z' := raw_zero l h b a
  have h1 := (raw_bd h0 l h a b).1
  have h2 := (raw_bd h0 l h b a).1
  unfold netTo bookOf
  rw [owes_raw]
  by_cases hr : (0 ≤ a ∧ a ≤ 7) ∧ (0 ≤ b ∧ b ≤ 7)
  · rw [if_pos (by omega)]
    by_cases hc : a ≠ b ∧ 0 < rawI l a b - rawI l b a
    · rw [if_pos hc]; omega
    · rw [if_neg hc]
      by_cases e : a = b
      · subst e; omega
      · omega
  · rw [if_neg (by omega), z (by omega), z' (by omega), if_neg (by omega)]

/-! ### The first one of the shortest cycles -/
def hdI (p : List Int) : Int := p.headD 0
def lsI (p : List Int) : Int := p.getLastD 0
theorem hdI_of {p : List Int} {x : Int} (h : p[0]? = some x) : hdI p = x := by
  cases p with
  | nil => simp at h
  | cons y p => simpa [hdI] using h
theorem lsI_of {p : List Int} {x : Int} {k : Nat} (h : p[k]? = some x) (hk : k + 1 = p.length) : lsI p = x := by
  unfold lsI
  rw [List.getLastD_eq_getLast?, List.getLast?_eq_getElem?, show p.length - 1 = k by omega, h]; rfl
theorem lsI_snoc (p : List Int) (c : Int) : lsI (p ++ [c]) = c := by simp [lsI]
theorem hdI_snoc (p : List Int) (c : Int) (h : p ≠ []) : hdI (p ++ [c]) = hdI p := by
  cases p with
  | nil => exact absurd rfl h
  | cons y p => rfl
def ext (f : Book) : Nat → List Int → Option (List Int)
  | 0, p => if 0 < f (lsI p) (hdI p) then some p else none
  | n + 1, p => (List.range 8).findSome? fun c : Nat => if hdI p < c ∧ 0 < f (lsI p) c ∧ (c : Int) ∉ p then ext f n (p ++ [(c : Int)]) else none
/-- what a carrier that stands next gives -/
def ext1 (f : Book) (n : Nat) (p : List Int) (c : Nat) : Option (List Int) := if hdI p < c ∧ 0 < f (lsI p) c ∧ (c : Int) ∉ p then ext f n (p ++ [(c : Int)]) else none
def cycS (f : Book) : Option (List Int) := (List.range 6).findSome? fun s => (List.range 8).findSome? fun c : Nat => ext f (s + 2) [(c : Int)]
def cyc1 (f : Book) (s : Nat) : Option (List Int) := (List.range 8).findSome? fun c : Nat => ext f (s + 2) [(c : Int)]
theorem find_none {α : Type} {g : Nat → Option α} {n : Nat} (h : ∀ j, j < n → g j = none) : (List.range n).findSome? g = none := by
  rw [List.findSome?_eq_none_iff]; intro x hx; exact h x (List.mem_range.1 hx)
theorem find_some {α : Type} {g : Nat → Option α} {n k : Nat} {x : α} (hk : k < n) (h : ∀ j, j < k → g j = none) (hx : g k = some x) : (List.range n).findSome? g = some x := by
  have : List.range n = List.range k ++ ((List.range (n - k)).map (k + ·)) := by
    rw [← List.range_add]; congr 1; omega
  rw [this, List.findSome?_append, find_none h]
  have hn : n - k = (n - k - 1) + 1 := by omega
  rw [hn, List.range_succ_eq_map]
  simp [hx]
theorem ext_succ (f : Book) (n : Nat) (p : List Int) : ext f (n + 1) p = (List.range 8).findSome? (ext1 f n p) := rfl
theorem cycS_eq (f : Book) : cycS f = (List.range 6).findSome? (cyc1 f) := rfl
theorem none_step {α : Type} {g : Nat → Option α} {k : Nat} (h : ∀ j, j < k → g j = none) (hx : g k = none) : ∀ j, j < k + 1 → g j = none := fun j hj => by
  by_cases e : j = k
  · rw [e]; exact hx
  · exact h j (by omega)
theorem ext_len (f : Book) : ∀ (n : Nat) (p o : List Int), ext f n p = some o → o.length = p.length + n
  | 0, p, o, h => by
    unfold ext at h
    split at h
    · simp at h; rw [← h]; rfl
    · simp at h
  | n + 1, p, o, h => by
    rw [ext_succ, List.findSome?_eq_some_iff] at h
    obtain ⟨_, c, _, _, hc, _⟩ := h
    unfold ext1 at hc
    split at hc
    · have := ext_len f n _ _ hc
      simp at this; omega
    · simp at hc

/-! ### Rounds -/
def edge (c : List Int) (i : Nat) : Int × Int := (c.getD i 0, c.getD ((i + 1) % c.length) 0)
def leastTo (f : Book) (c : List Int) (i : Nat) : Int := (List.range i).foldl (fun m k => min m (f (edge c k).1 (edge c k).2)) 1000000000000
def subTo (f : Book) (c : List Int) (v : Int) (i : Nat) : Book := fun a b => if ∃ k, k < i ∧ edge c k = (a, b) then f a b - v else f a b
def subS (f : Book) (c : List Int) : Book := subTo f c (leastTo f c c.length) c.length
def roundS : Nat → Book → Book
  | 0, f => f
  | n + 1, f => match cycS f with
    | none => f
    | some c => roundS n (subS f c)
def roundI (l : List Debt) : List Debt := listI (roundS 64 (bookOf l))
end Go.Proofs.Ytolfgdkdghhidaa
