/- Plain data and laws of netting: no Go in sight. -/
namespace Go.Proofs.Ytolfgdkdghhidaa
structure Debt where
  frm : Int
  to : Int
  amt : Int
deriving DecidableEq
instance : Inhabited Debt := ⟨⟨0, 0, 0⟩⟩

def pickI (c n : Int) : Int := (if c < 0 then -(c + 1) else c) % n

/-! ### Debts -/
def okD (lim : Int) (d : Debt) : Prop := (0 ≤ d.frm ∧ d.frm ≤ 7) ∧ (0 ≤ d.to ∧ d.to ≤ 7) ∧ d.frm ≠ d.to ∧ (1 ≤ d.amt ∧ d.amt ≤ lim)
instance (lim : Int) (d : Debt) : Decidable (okD lim d) := by unfold okD; infer_instance
def DebtsOK (lim : Int) (l : List Debt) : Prop := (∀ d ∈ l, okD lim d) ∧ l.length ≤ 60
instance (lim : Int) (l : List Debt) : Decidable (DebtsOK lim l) := by unfold DebtsOK; infer_instance

theorem all_take {α : Type} {p : α → Prop} {l : List α} {k : Nat} {d : α} (h : l[k]? = some d) (ha : ∀ x ∈ l.take k, p x) (hp : p d) : ∀ x ∈ l.take (k + 1), p x := by
  rw [List.take_add_one, h]
  intro x hx
  simp only [Option.toList, List.mem_append, List.mem_singleton] at hx
  rcases hx with hx | rfl
  · exact ha x hx
  · exact hp
theorem mem_at {α : Type} {l : List α} {k : Nat} {d : α} (h : l[k]? = some d) : d ∈ l := List.mem_of_getElem? h

/-! ### The first one that .. -/
def idxI {α : Type} (p : α → Prop) [DecidablePred p] (l : List α) : Int := match l.findIdx? (fun x => decide (p x)) with | some i => (i : Int) | none => -1
theorem idxI_found {α : Type} {p : α → Prop} [DecidablePred p] {l : List α} {k : Nat} {d : α} (h : l[k]? = some d) (hn : ∀ x ∈ l.take k, ¬ p x) (hp : p d) : idxI p l = k := by
  have : l.findIdx? (fun x => decide (p x)) = some k := by
    rw [List.findIdx?_eq_some_iff_getElem]
    have hk := (List.getElem?_eq_some_iff.1 h)
    obtain ⟨hkl, hke⟩ := hk
    refine ⟨hkl, by rw [hke]; simpa using hp, fun j hj => ?_⟩
    have hjl : j < l.length := by omega
    have := hn (l[j]'hjl) (List.mem_take_iff_getElem.2 ⟨j, by omega, rfl⟩)
    simpa using this
  simp [idxI, this]
theorem idxI_none {α : Type} {p : α → Prop} [DecidablePred p] {l : List α} (hn : ∀ x ∈ l, ¬ p x) : idxI p l = -1 := by
  have : l.findIdx? (fun x => decide (p x)) = none := by
    rw [List.findIdx?_eq_none_iff]
    intro x hx; simpa using hn x hx
  simp [idxI, this]
theorem idxI_spec {α : Type} (p : α → Prop) [DecidablePred p] (l : List α) : (idxI p l = -1 ∧ ∀ x ∈ l, ¬ p x) ∨ (∃ (k : Nat) (d : α), idxI p l = k ∧ l[k]? = some d ∧ p d ∧ ∀ x ∈ l.take k, ¬ p x) := by
  cases h : l.findIdx? (fun x => decide (p x)) with
  | none =>
    left
    rw [List.findIdx?_eq_none_iff] at h
    exact ⟨idxI_none (fun x hx => by simpa using h x hx), fun x hx => by simpa using h x hx⟩
  | some k =>
    right
    have h' := h
    rw [List.findIdx?_eq_some_iff_getElem] at h
    obtain ⟨hk, hp, hn⟩ := h
    refine ⟨k, l[k], by simp [idxI, h'], by simp [hk], by simpa using hp, fun x hx => ?_⟩
    obtain ⟨j, hj, rfl⟩ := List.mem_take_iff_getElem.1 hx
    have := hn j (by omega)
    simpa using this
theorem idxI_nonneg {α : Type} (p : α → Prop) [DecidablePred p] (l : List α) : 0 ≤ idxI p l ↔ ∃ d ∈ l, p d := by
  rcases idxI_spec p l with ⟨h, hn⟩ | ⟨k, d, h, hk, hp, _⟩
  · rw [h]
    exact ⟨fun h => absurd h (by omega), fun ⟨d, hd, hp⟩ => absurd hp (hn d hd)⟩
  · rw [h]
    exact ⟨fun _ => ⟨d, List.mem_of_getElem? hk, hp⟩, fun _ => by omega⟩

/-! ### Balances -/
def addAt (l : List Int) (i : Int) (n : Int) : List Int := l.set i.toNat (l.getD i.toNat 0 + n)
def bal1 (b : List Int) (d : Debt) : List Int := addAt (addAt b d.to d.amt) d.frm (-d.amt)
def balI (l : List Debt) : List Int := l.foldl bal1 (List.replicate 8 0)
theorem addAt_length (l : List Int) (i n : Int) : (addAt l i n).length = l.length := by simp [addAt]
theorem bal1_length (b : List Int) (d : Debt) : (bal1 b d).length = b.length := by simp [bal1, addAt_length]
theorem balI_length (l : List Debt) : (balI l).length = 8 := by
  unfold balI
  have : ∀ (l : List Debt) (b : List Int), (l.foldl bal1 b).length = b.length := by
    intro l
    induction l with
    | nil => intro b; rfl
    | cons d l ih => intro b; rw [List.foldl_cons, ih, bal1_length]
  rw [this]; simp
theorem balI_take {l : List Debt} {k : Nat} {d : Debt} (h : l[k]? = some d) : balI (l.take (k + 1)) = bal1 (balI (l.take k)) d := by
  unfold balI
  rw [List.take_add_one, h, Option.toList, List.foldl_append]; rfl
/-- each number is within m -/
def Within (m : Int) (l : List Int) : Prop := ∀ x ∈ l, -m ≤ x ∧ x ≤ m
theorem within_addAt {m a n : Int} {l : List Int} {i : Int} (h : Within m l) (ha : 0 ≤ a) (hn : -a ≤ n ∧ n ≤ a) : Within (m + a) (addAt l i n) := by
  intro x hx
  unfold addAt at hx
  rcases List.mem_or_eq_of_mem_set hx with hx | rfl
  · have := h x hx; omega
  · by_cases hi : i.toNat < l.length
    · have := h (l.getD i.toNat 0) (by simp [List.getD, hi])
      omega
    · rw [List.set_eq_of_length_le (by omega)] at hx
      have := h _ hx; omega
theorem within_mono {m m' : Int} {l : List Int} (h : Within m l) (hm : m ≤ m') : Within m' l := fun x hx => by have := h x hx; omega
theorem balI_within {lim : Int} (h0 : 0 ≤ lim) (l : List Debt) (h : ∀ d ∈ l, 0 ≤ d.amt ∧ d.amt ≤ lim) (hd : ∀ d ∈ l, (0 ≤ d.frm ∧ d.frm ≤ 7) ∧ (0 ≤ d.to ∧ d.to ≤ 7)) : Within (2 * lim * l.length) (balI l) := by
  unfold balI
  have key : ∀ (l : List Debt) (b : List Int) (m : Int), (∀ d ∈ l, 0 ≤ d.amt ∧ d.amt ≤ lim) → Within m b → Within (m + 2 * lim * l.length) (l.foldl bal1 b) := by
    intro l
    induction l with
    | nil => intro b m _ hb; simpa using hb
    | cons d l ih =>
      intro b m ha hb
      have hd := ha d (by simp)
      have h1 : Within (m + lim + lim) (bal1 b d) := within_addAt (within_addAt hb h0 (by omega)) h0 (by omega)
      have := ih (bal1 b d) _ (fun x hx => ha x (by simp [hx])) h1
      rw [List.foldl_cons]
      refine within_mono this ?_
      simp only [List.length_cons]
      rw [show ((l.length + 1 : Nat) : Int) = (l.length : Int) + 1 by omega, Int.mul_add]
      omega
  have := key l (List.replicate 8 0) 0 h (fun x hx => by have := List.eq_of_mem_replicate hx; omega)
  simpa using this

def balR (l : List Debt) : List Int := if DebtsOK 1000000000 l then balI l else []
def errN (l : List Debt) : Int := if DebtsOK 1000000000 l then 0 else 390
theorem debts_amt {lim : Int} {l : List Debt} (h : DebtsOK lim l) : ∀ d ∈ l, 0 ≤ d.amt ∧ d.amt ≤ lim := fun d hd => by have := h.1 d hd; unfold okD at this; omega
theorem debts_idx {lim : Int} {l : List Debt} (h : DebtsOK lim l) : ∀ d ∈ l, (0 ≤ d.frm ∧ d.frm ≤ 7) ∧ (0 ≤ d.to ∧ d.to ≤ 7) := fun d hd => by have := h.1 d hd; unfold okD at this; omega
theorem balI_bound {l : List Debt} (h : DebtsOK 1000000000000 l) (k : Nat) : Within 120000000000000 (balI (l.take k)) := by
  refine within_mono (balI_within (lim := 1000000000000) (by omega) (l.take k) (fun d hd => debts_amt h d (List.mem_of_mem_take hd)) (fun d hd => debts_idx h d (List.mem_of_mem_take hd))) ?_
  have := h.2
  have : (l.take k).length ≤ 60 := by simp; omega
  omega
theorem debts_mono {a b : Int} (hab : a ≤ b) {l : List Debt} (h : DebtsOK a l) : DebtsOK b l := ⟨fun d hd => by have := h.1 d hd; unfold okD at *; omega, h.2⟩

/-! ### What one owes another -/
def owes1 (a b : Int) (d : Debt) : Int := (if d.frm = a ∧ d.to = b then d.amt else 0) - (if d.frm = b ∧ d.to = a then d.amt else 0)
def owesI (a b : Int) (l : List Debt) : Int := (l.map (owes1 a b)).sum
theorem owes_take (a b : Int) {l : List Debt} {k : Nat} {d : Debt} (h : l[k]? = some d) : owesI a b (l.take (k + 1)) = owesI a b (l.take k) + owes1 a b d := by
  rw [List.take_add_one, h]; simp [owesI]
theorem owes_bd (a b : Int) (l : List Debt) (hlen : l.length ≤ 1000) (hb : ∀ d ∈ l, -1000000000000 ≤ d.amt ∧ d.amt ≤ 1000000000000) (k : Nat) : -1000000000000000 ≤ owesI a b (l.take k) ∧ owesI a b (l.take k) ≤ 1000000000000000 := by
  have key : ∀ l : List Debt, (∀ d ∈ l, -1000000000000 ≤ d.amt ∧ d.amt ≤ 1000000000000) → -(1000000000000 * l.length) ≤ owesI a b l ∧ owesI a b l ≤ 1000000000000 * l.length := by
    intro l
    induction l with
    | nil => intro _; simp [owesI]
    | cons d l ih =>
      intro hb
      have h1 := ih (fun x hx => hb x (by simp [hx]))
      have h2 := hb d (by simp)
      have h3 : -1000000000000 ≤ owes1 a b d ∧ owes1 a b d ≤ 1000000000000 := by
        unfold owes1; split <;> split <;> omega
      simp only [owesI, List.map_cons, List.sum_cons, List.length_cons] at *
      omega
  have := key (l.take k) (fun d hd => hb d (List.mem_of_mem_take hd))
  have hk : (l.take k).length ≤ 1000 := by simp; omega
  omega

/-! ### Lists -/
def goodI (l : List Int) : Prop := (∀ n ∈ l, -1000000000000 ≤ n ∧ n ≤ 1000000000000) ∧ l.length = 8 ∧ l.sum = 0
instance (l : List Int) : Decidable (goodI l) := by unfold goodI; infer_instance
theorem sum_take {l : List Int} {k : Nat} {d : Int} (h : l[k]? = some d) : (l.take (k + 1)).sum = (l.take k).sum + d := by
  rw [List.take_add_one, h]; simp
theorem sum_within {m : Int} (h0 : 0 ≤ m) (l : List Int) (h : ∀ x ∈ l, -m ≤ x ∧ x ≤ m) : -(m * l.length) ≤ l.sum ∧ l.sum ≤ m * l.length := by
  induction l with
  | nil => simp
  | cons x l ih =>
    have h1 := ih (fun y hy => h y (by simp [hy]))
    have h2 := h x (by simp)
    simp only [List.sum_cons, List.length_cons]
    rw [show ((l.length + 1 : Nat) : Int) = (l.length : Int) + 1 by omega, Int.mul_add]
    omega

/-! ### Pairs -/
/-- what each one owes each other one -/
abbrev Book := Int → Int → Int
def rowD (f : Book) (a : Int) : List Debt := (List.range 8).filterMap fun k : Nat => if 0 < f a k then some ⟨a, k, f a k⟩ else none
def listI (f : Book) : List Debt := (List.range 8).flatMap fun a : Nat => rowD f a
def bookOf (l : List Debt) : Book := fun a b => if a ≠ b ∧ 0 < owesI a b l then owesI a b l else 0
def pairsI (l : List Debt) : List Debt := listI (bookOf l)
/-- the same, up to some row and column -/
def listTo (f : Book) (i k : Nat) : List Debt := ((List.range i).flatMap fun a : Nat => rowD f a) ++ ((List.range k).filterMap fun k : Nat => if 0 < f i k then some ⟨i, k, f i k⟩ else none)
theorem listTo_zero (f : Book) : listTo f 0 0 = [] := rfl
theorem listTo_row (f : Book) (i : Nat) : listTo f i 8 = listTo f (i + 1) 0 := by
  simp [listTo, List.range_succ, rowD]
theorem listTo_all (f : Book) : listTo f 8 0 = listI f := by simp [listTo, listI]
theorem listTo_snoc (f : Book) (i k : Nat) : listTo f i (k + 1) = listTo f i k ++ (if 0 < f i k then [⟨i, k, f i k⟩] else []) := by
  unfold listTo
  rw [List.range_succ (n := k), List.filterMap_append, ← List.append_assoc]
  congr 1
  simp only [List.filterMap_cons, List.filterMap_nil]
  split <;> simp_all
theorem listTo_length (f : Book) (i k : Nat) : (listTo f i k).length ≤ 8 * i + k := by
  unfold listTo
  rw [List.length_append]
  have h1 : ((List.range i).flatMap fun a : Nat => rowD f a).length ≤ 8 * i := by
    induction i with
    | zero => simp
    | succ i ih =>
      rw [List.range_succ, List.flatMap_append, List.length_append]
      have : (rowD f i).length ≤ 8 := by unfold rowD; exact Nat.le_trans (List.length_filterMap_le _ _) (by simp)
      simp only [List.flatMap_cons, List.flatMap_nil, List.append_nil]
      omega
  have h2 : ((List.range k).filterMap fun k : Nat => if 0 < f i k then some (⟨i, k, f i k⟩ : Debt) else none).length ≤ k := Nat.le_trans (List.length_filterMap_le _ _) (by simp)
  omega
theorem pairsI_length (l : List Debt) : (pairsI l).length ≤ 64 := by
  have := listTo_length (bookOf l) 8 0
  rw [listTo_all] at this
  exact this
def pairR (l : List Debt) : List Debt := if DebtsOK 1000000000 l then pairsI l else []
end Go.Proofs.Ytolfgdkdghhidaa
