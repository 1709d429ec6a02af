/- Plain laws of netting, fourth part: what a cycle is, rounds. No Go in sight. -/
import Derived.Test.Ytolfgdkdghhidaaplain39c
namespace Go.Proofs.Ytolfgdkdghhidaa

/-! ### What ext gives -/
def Ch (f : Book) (o : List Int) : Prop := ∀ i, i + 1 < o.length → 0 < f (o.getD i 0) (o.getD (i + 1) 0)
theorem getD_lt {l : List Int} {i : Nat} (h : i < l.length) (d : Int) : l.getD i d = l[i] := by simp [List.getD, h]
theorem app_l (l m : List Int) (d : Int) {i : Nat} (h : i < l.length) : (l ++ m).getD i d = l.getD i d := by
  rw [List.getD_eq_getElem?_getD, List.getD_eq_getElem?_getD, List.getElem?_append_left h]
theorem app_r (l m : List Int) (d : Int) {i : Nat} (h : l.length ≤ i) : (l ++ m).getD i d = m.getD (i - l.length) d := by
  rw [List.getD_eq_getElem?_getD, List.getD_eq_getElem?_getD, List.getElem?_append_right h]
theorem nodup_inj {l : List Int} (h : l.Nodup) {i k : Nat} (hi : i < l.length) (hk : k < l.length) (e : l[i] = l[k]) : i = k := by
  have hp := List.pairwise_iff_getElem.1 h
  rcases Nat.lt_trichotomy i k with h1 | h1 | h1
  · exact absurd e (hp i k hi hk h1)
  · exact h1
  · exact absurd e.symm (hp k i hk hi h1)
theorem ls_getD {p : List Int} (h : p ≠ []) : lsI p = p.getD (p.length - 1) 0 := by
  have : 0 < p.length := List.length_pos_iff.2 h
  exact lsI_of (k := p.length - 1) (by rw [getD_lt (by omega)]; exact List.getElem?_eq_getElem _) (by omega)
theorem ch_snoc {f : Book} {p : List Int} {c : Int} (hp : p ≠ []) (h : Ch f p) (hc : 0 < f (lsI p) c) : Ch f (p ++ [c]) := by
  have h0 : 0 < p.length := List.length_pos_iff.2 hp
  intro i hi
  simp only [List.length_append, List.length_singleton] at hi
  by_cases e : i + 1 < p.length
  · have := h i e
    rw [app_l _ _ _ (by omega), app_l _ _ _ e]; exact this
  · have e' : i + 1 = p.length := by omega
    rw [app_l _ _ _ (by omega), app_r _ _ _ (by omega)]
    rw [ls_getD hp] at hc
    rw [show i = p.length - 1 by omega, show p.length - 1 + 1 - p.length = 0 by omega]
    simpa using hc
theorem ext_spec (f : Book) : ∀ (n : Nat) (p o : List Int), p ≠ [] → p.Nodup → (∀ x ∈ p, 0 ≤ x ∧ x ≤ 7) → Ch f p → ext f n p = some o → o.Nodup ∧ (∀ x ∈ o, 0 ≤ x ∧ x ≤ 7) ∧ Ch f o ∧ 0 < f (lsI o) (hdI o) ∧ o.length = p.length + n
  | 0, p, o, hp, hn, he, hc, h => by
    unfold ext at h
    split at h
    · rename_i h1
      simp only [Option.some.injEq] at h
      subst h
      exact ⟨hn, he, hc, h1, rfl⟩
    · simp at h
  | n + 1, p, o, hp, hn, he, hc, h => by
    rw [ext_succ, List.findSome?_eq_some_iff] at h
    obtain ⟨l1, c, l2, hl, hx, _⟩ := h
    have hc8 : c < 8 := List.mem_range.1 (by rw [hl]; simp)
    unfold ext1 at hx
    split at hx
    · rename_i h1
      obtain ⟨h1, h2, h3⟩ := h1
      have := ext_spec f n (p ++ [(c : Int)]) o (by simp) (List.nodup_append.2 ⟨hn, by simp, fun a ha b hb => by rw [List.mem_singleton] at hb; subst hb; exact fun e => h3 (e ▸ ha)⟩)
        (fun x hx => (List.mem_append.1 hx).elim (he x) (fun h => by rw [List.mem_singleton] at h; omega)) (ch_snoc hp hc h2) hx
      simp only [List.length_append, List.length_singleton] at this
      exact ⟨this.1, this.2.1, this.2.2.1, this.2.2.2.1, by omega⟩
    · simp at hx

structure CycF (f : Book) (c : List Int) : Prop where
  len : 3 ≤ c.length ∧ c.length ≤ 8
  els : ∀ x ∈ c, 0 ≤ x ∧ x ≤ 7
  nodup : c.Nodup
  pos : ∀ i, i < c.length → 0 < f (edge c i).1 (edge c i).2
theorem cycF {f : Book} {c : List Int} (h : cycS f = some c) : CycF f c := by
  rw [cycS_eq, List.findSome?_eq_some_iff] at h
  obtain ⟨l1, s, l2, hl, hx, _⟩ := h
  have hs : s < 6 := List.mem_range.1 (by rw [hl]; simp)
  unfold cyc1 at hx
  rw [List.findSome?_eq_some_iff] at hx
  obtain ⟨k1, d, k2, hk, hx, _⟩ := hx
  have hd : d < 8 := List.mem_range.1 (by rw [hk]; simp)
  obtain ⟨h1, h2, h3, h4, h5⟩ := ext_spec f (s + 2) [(d : Int)] c (by simp) (by simp) (by simp; omega) (by intro i hi; simp at hi) hx
  simp only [List.length_singleton] at h5
  refine ⟨by omega, h2, h1, fun i hi => ?_⟩
  unfold edge
  by_cases e : i + 1 < c.length
  · rw [Nat.mod_eq_of_lt e]; exact h3 i e
  · have e' : i + 1 = c.length := by omega
    rw [e', Nat.mod_self]
    have hne : c ≠ [] := fun h => by rw [h] at hi; simp at hi
    rw [ls_getD hne] at h4
    have : hdI c = c.getD 0 0 := by
      cases c with
      | nil => rfl
      | cons y c => rfl
    rw [this] at h4
    rw [show i = c.length - 1 by omega]; exact h4
theorem edge_inj {c : List Int} (h : c.Nodup) {i k : Nat} (hi : i < c.length) (hk : k < c.length) (e : (edge c i).1 = (edge c k).1) : i = k := by
  unfold edge at e
  simp only [getD_lt hi, getD_lt hk] at e
  exact nodup_inj h hi hk e
theorem edge_of {c : List Int} {i : Int} {x y : Int} (h0 : 0 ≤ i) (hx : c[i.toNat]? = some x) (hy : c[((i + 1) % (c.length : Int)).toNat]? = some y) : edge c i.toNat = (x, y) := by
  unfold edge
  have e : ((i + 1) % (c.length : Int)).toNat = (i.toNat + 1) % c.length := by
    have : i + 1 = ((i.toNat + 1 : Nat) : Int) := by omega
    rw [this, ← Int.natCast_emod, Int.toNat_natCast]
  rw [e] at hy
  rw [List.getD_eq_getElem?_getD, List.getD_eq_getElem?_getD, hx, hy]; rfl

/-! ### The least edge -/
theorem leastTo_succ (f : Book) (c : List Int) (i : Nat) : leastTo f c (i + 1) = min (leastTo f c i) (f (edge c i).1 (edge c i).2) := by
  unfold leastTo; rw [List.range_succ, List.foldl_append]; rfl
theorem leastTo_le (f : Book) (c : List Int) (n : Nat) : leastTo f c n ≤ 1000000000000 ∧ ∀ i, i < n → leastTo f c n ≤ f (edge c i).1 (edge c i).2 := by
  induction n with
  | zero => exact ⟨by simp [leastTo], fun i hi => by omega⟩
  | succ n ih =>
    rw [leastTo_succ]
    refine ⟨by omega, fun i hi => ?_⟩
    by_cases e : i = n
    · subst e; omega
    · have := ih.2 i (by omega); omega
theorem leastTo_pos {f : Book} {c : List Int} (h : CycF f c) (n : Nat) (hn : n ≤ c.length) : 1 ≤ leastTo f c n := by
  induction n with
  | zero => simp [leastTo]
  | succ n ih =>
    rw [leastTo_succ]
    have := ih (by omega)
    have := h.pos n (by omega)
    omega
/-- the least one is one of them -/
theorem leastTo_mem {f : Book} (hf : Norm f) {c : List Int} (n : Nat) (hn : 0 < n) : ∃ i, i < n ∧ leastTo f c n = f (edge c i).1 (edge c i).2 := by
  induction n with
  | zero => omega
  | succ n ih =>
    rw [leastTo_succ]
    have hb := hf.bd (edge c n).1 (edge c n).2
    by_cases h0 : n = 0
    · subst h0
      refine ⟨0, by omega, ?_⟩
      have : leastTo f c 0 = 1000000000000 := rfl
      omega
    · obtain ⟨i, hi, he⟩ := ih (by omega)
      by_cases h : leastTo f c n ≤ f (edge c n).1 (edge c n).2
      · exact ⟨i, by omega, by omega⟩
      · exact ⟨n, by omega, by omega⟩

/-! ### What a round takes away -/
theorem subTo_zero (f : Book) (c : List Int) (v : Int) : subTo f c v 0 = f := by
  funext a b; unfold subTo; rw [if_neg]; rintro ⟨k, hk, _⟩; omega
theorem subTo_new {f : Book} {c : List Int} (hn : c.Nodup) (v : Int) {i : Nat} (hi : i < c.length) {x y : Int} (e : edge c i = (x, y)) : subTo f c v i x y = f x y := by
  unfold subTo
  rw [if_neg]
  rintro ⟨k, hk, he⟩
  have := edge_inj hn (i := k) (k := i) (by omega) hi (by rw [he, e])
  omega
theorem subTo_succ {f : Book} {c : List Int} (v : Int) {i : Nat} {x y : Int} (e : edge c i = (x, y)) : setB (subTo f c v i) x y (f x y - v) = subTo f c v (i + 1) := by
  funext a b
  unfold setB subTo
  by_cases h : a = x ∧ b = y
  · obtain ⟨rfl, rfl⟩ := h
    rw [if_pos ⟨rfl, rfl⟩, if_pos ⟨i, by omega, e⟩]
  · rw [if_neg h]
    by_cases h' : ∃ k, k < i ∧ edge c k = (a, b)
    · obtain ⟨k, hk, he⟩ := h'
      rw [if_pos ⟨k, hk, he⟩, if_pos ⟨k, by omega, he⟩]
    · rw [if_neg h', if_neg]
      rintro ⟨k, hk, he⟩
      by_cases ek : k = i
      · subst ek; rw [e] at he; simp only [Prod.mk.injEq] at he; exact h ⟨he.1.symm, he.2.symm⟩
      · exact h' ⟨k, by omega, he⟩
theorem subTo_step {f : Book} {c : List Int} (hn : c.Nodup) (v : Int) {i : Nat} (hi : i < c.length) (a b : Int) : subTo f c v (i + 1) a b = if edge c i = (a, b) then subTo f c v i a b - v else subTo f c v i a b := by
  by_cases h : edge c i = (a, b)
  · rw [if_pos h, subTo_new hn v hi h, ← subTo_succ v h]; simp [setB]
  · rw [if_neg h]
    unfold subTo
    by_cases h' : ∃ k, k < i ∧ edge c k = (a, b)
    · obtain ⟨k, hk, he⟩ := h'
      rw [if_pos (show ∃ k, k < i + 1 ∧ edge c k = (a, b) from ⟨k, by omega, he⟩), if_pos (show ∃ k, k < i ∧ edge c k = (a, b) from ⟨k, hk, he⟩)]
    · rw [if_neg h', if_neg]
      rintro ⟨k, hk, he⟩
      by_cases ek : k = i
      · exact h (ek ▸ he)
      · exact h' ⟨k, by omega, he⟩
theorem subTo_bd {f : Book} (hf : Norm f) (c : List Int) {v : Int} (hv : 0 ≤ v ∧ v ≤ 1000000000000) (i : Nat) (a b : Int) : -1000000000000 ≤ subTo f c v i a b ∧ subTo f c v i a b ≤ 60000000000 := by
  have := hf.bd a b
  unfold subTo
  split <;> omega
theorem sub_le {f : Book} {c : List Int} (h : CycF f c) (a b : Int) : subS f c a b ≤ f a b := by
  have := leastTo_pos h c.length (Nat.le_refl _)
  unfold subS subTo
  split <;> omega
theorem sub_nonneg {f : Book} (hf : Norm f) (c : List Int) (a b : Int) : 0 ≤ subS f c a b := by
  have := (hf.bd a b).1
  unfold subS subTo
  split
  · rename_i h
    obtain ⟨k, hk, he⟩ := h
    have := (leastTo_le f c c.length).2 k hk
    rw [he] at this
    simp only [] at this
    omega
  · exact this
theorem norm_sub {f : Book} (hf : Norm f) {c : List Int} (h : CycF f c) : Norm (subS f c) := by
  refine ⟨fun a b => ⟨sub_nonneg hf c a b, ?_⟩, fun a b hp => ?_⟩
  · have := sub_le h a b; have := hf.bd a b; omega
  · have h1 := sub_le h a b
    obtain ⟨h2, h3, h4⟩ := hf.pos a b (by omega)
    refine ⟨h2, h3, ?_⟩
    have h5 := sub_le h b a
    have h6 := sub_nonneg hf c b a
    omega

/-! ### A round makes the list shorter -/
theorem sum_mono (n : Nat) {g h : Nat → Int} (hl : ∀ k, g k ≤ h k) : ((List.range n).map g).sum ≤ ((List.range n).map h).sum := by
  induction n with
  | zero => simp
  | succ n ih =>
    simp only [List.range_succ, List.map_append, List.sum_append, List.map_cons, List.map_nil, List.sum_cons, List.sum_nil]
    have := hl n; omega
theorem sum_lt (n : Nat) {g h : Nat → Int} (hl : ∀ k, g k ≤ h k) {j : Nat} (hj : j < n) (hs : g j < h j) : ((List.range n).map g).sum < ((List.range n).map h).sum := by
  induction n with
  | zero => omega
  | succ n ih =>
    simp only [List.range_succ, List.map_append, List.sum_append, List.map_cons, List.map_nil, List.sum_cons, List.sum_nil]
    have h1 := hl n
    by_cases e : j = n
    · subst e; have := sum_mono j hl; omega
    · have := ih (by omega); omega
theorem list_len (f : Book) : ((listI f).length : Int) = ((List.range 8).map fun a : Nat => ((List.range 8).map fun k : Nat => if 0 < f a k then (1 : Int) else 0).sum).sum := by
  rw [← sum_list f (fun _ => 1)]
  induction listI f with
  | nil => rfl
  | cons d l ih => simp only [List.map_cons, List.sum_cons, List.length_cons]; omega
theorem round_less {f : Book} (hf : Norm f) {c : List Int} (h : CycF f c) : (listI (subS f c)).length < (listI f).length := by
  have key : ((listI (subS f c)).length : Int) < ((listI f).length : Int) := by
    rw [list_len, list_len]
    obtain ⟨i, hi, he⟩ := leastTo_mem (c := c) hf c.length (by have := h.len; omega)
    have hp := h.pos i hi
    have hr := hf.pos _ _ hp
    have hz : subS f c (edge c i).1 (edge c i).2 = 0 := by
      unfold subS subTo
      rw [if_pos ⟨i, hi, rfl⟩]; omega
    have hle : ∀ (a k : Nat), (if 0 < subS f c a k then (1 : Int) else 0) ≤ if 0 < f a k then 1 else 0 := fun a k => by
      have := sub_le h a k
      split <;> split <;> omega
    refine sum_lt 8 (fun a => sum_mono 8 (hle a)) (j := (edge c i).1.toNat) (by omega) (sum_lt 8 (hle _) (j := (edge c i).2.toNat) (by omega) ?_)
    rw [Int.toNat_of_nonneg hr.1.1, Int.toNat_of_nonneg hr.2.1.1, hz, if_neg (by omega), if_pos hp]; omega
  omega
theorem list_le (f : Book) : (listI f).length ≤ 64 := by
  have := listTo_length f 8 0
  rw [listTo_all] at this; exact this
theorem round_step {f : Book} {c : List Int} (h : cycS f = some c) {m : Nat} (hm : 0 < m) : roundS m f = roundS (m - 1) (subS f c) := by
  obtain ⟨k, rfl⟩ : ∃ k, m = k + 1 := ⟨m - 1, by omega⟩
  show (match cycS f with | none => f | some c => roundS k (subS f c)) = _
  rw [h]; rfl
theorem round_none {f : Book} (h : cycS f = none) (m : Nat) : roundS m f = f := by
  cases m with
  | zero => rfl
  | succ k => show (match cycS f with | none => f | some c => roundS k (subS f c)) = _; rw [h]

/-! ### The reference's way -/
def keepD (g : Book) (d : Debt) : Option Debt := if 0 < g d.frm d.to then some ⟨d.frm, d.to, g d.frm d.to⟩ else none
theorem keep_list {f g : Book} (h : ∀ a b, 0 < g a b → 0 < f a b) : (listI f).filterMap (keepD g) = listI g := by
  unfold listI
  rw [List.filterMap_flatMap]
  congr 1
  funext a
  unfold rowD
  rw [List.filterMap_filterMap]
  congr 1
  funext k
  by_cases h1 : 0 < g a k
  · rw [if_pos (h a k h1), if_pos h1]; simp [keepD, h1]
  · rw [if_neg h1]
    by_cases h2 : 0 < f a k
    · rw [if_pos h2]; simp [keepD, h1]
    · rw [if_neg h2]; rfl
def rndR (l : List Debt) : List Debt := if DebtsOK 1000000000 l then roundI l else []
def CheckP (l : List Int) (p : List Debt) : Prop := goodI l ∧ DebtsOK 1000000000000 p ∧ balI p = l
instance (l : List Int) (p : List Debt) : Decidable (CheckP l p) := by unfold CheckP; infer_instance
end Go.Proofs.Ytolfgdkdghhidaa
