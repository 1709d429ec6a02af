/- Plain laws of netting: inputs that integers determine. No Go in sight. -/
import Derived.Test.Ytolfgdkdghhidaaplain39s
namespace Go.Proofs.Ytolfgdkdghhidaa
structure Tri where
  a : Int
  b : Int
  c : Int
deriving DecidableEq
instance : Inhabited Tri := ⟨⟨0, 0, 0⟩⟩
def i64 (n : Int) : Prop := -9223372036854775808 ≤ n ∧ n < 9223372036854775808
def Tri.ok (t : Tri) : Prop := i64 t.a ∧ i64 t.b ∧ i64 t.c
theorem pick_bd (c n : Int) (h : 0 < n) : 0 ≤ pickI c n ∧ pickI c n < n := ⟨Int.emod_nonneg _ (by omega), Int.emod_lt_of_pos _ h⟩
theorem pick_small {c n : Int} (h0 : 0 ≤ c) (h1 : c < n) : pickI c n = c := by
  unfold pickI; rw [if_neg (by omega), Int.emod_eq_of_lt h0 h1]
def madeD (t : Tri) : Debt := ⟨pickI t.a 8, (pickI t.a 8 + 1 + pickI t.b 7) % 8, if pickI t.c 16 = 15 then 1 + pickI t.c 1000000000 else 1 + pickI t.c 12⟩
def madeI (x : List Tri) : List Debt := (x.take 20).map madeD
theorem made_ok (t : Tri) : okD 1000000000 (madeD t) := by
  have h1 := pick_bd t.a 8 (by omega)
  have h2 := pick_bd t.b 7 (by omega)
  have h3 := pick_bd t.c 12 (by omega)
  have h4 := pick_bd t.c 1000000000 (by omega)
  unfold okD madeD
  simp only []
  refine ⟨by omega, by omega, by omega, ?_⟩
  split <;> omega
theorem made_len (x : List Tri) : (madeI x).length ≤ 20 := by unfold madeI; simp; omega
theorem made_debts (x : List Tri) : DebtsOK 1000000000 (madeI x) := by
  refine ⟨fun d hd => ?_, by have := made_len x; omega⟩
  obtain ⟨t, _, rfl⟩ := List.mem_map.1 hd
  exact made_ok t
theorem map_take1 {α β : Type} (f : α → β) {l : List α} {k : Nat} {x : α} (h : l[k]? = some x) : (l.take (k + 1)).map f = (l.take k).map f ++ [f x] := by
  rw [List.take_add_one, h, List.map_append]; rfl

/-! ### Balances stay -/
theorem balI_append (l m : List Debt) : balI (l ++ m) = m.foldl bal1 (balI l) := by unfold balI; rw [List.foldl_append]
/-- one carrier's balance -/
def inI (c : Int) (d : Debt) : Int := (if d.to = c then d.amt else 0) - (if d.frm = c then d.amt else 0)
theorem bal1_getD {b : List Int} (hb : b.length = 8) {d : Debt} (h1 : 0 ≤ d.frm ∧ d.frm ≤ 7) (h2 : 0 ≤ d.to ∧ d.to ≤ 7) (c : Nat) : (bal1 b d).getD c 0 = b.getD c 0 + inI c d := by
  obtain ⟨f, hf⟩ : ∃ f : Nat, d.frm = f := ⟨d.frm.toNat, by omega⟩
  obtain ⟨t, ht⟩ : ∃ t : Nat, d.to = t := ⟨d.to.toNat, by omega⟩
  unfold bal1 inI
  rw [hf, ht, getD_addAt _ _ _ _ (by rw [addAt_length]; omega), getD_addAt _ _ _ _ (by omega), getD_addAt _ _ _ _ (by omega)]
  by_cases e1 : c = f
  · subst e1
    rw [if_pos rfl, if_pos (rfl : (c : Int) = c)]
    by_cases e2 : c = t
    · subst e2; rw [if_pos rfl, if_pos rfl]; omega
    · rw [if_neg e2, if_neg (by omega)]; omega
  · rw [if_neg e1, if_neg (show ¬ (f : Int) = c by omega)]
    by_cases e2 : c = t
    · subst e2; rw [if_pos rfl, if_pos rfl]; omega
    · rw [if_neg e2, if_neg (by omega)]; omega
theorem balI_getD {lim : Int} (l : List Debt) (h : ∀ d ∈ l, okD lim d) (c : Nat) : (balI l).getD c 0 = (l.map (inI c)).sum := by
  have key : ∀ (l : List Debt) (b : List Int), b.length = 8 → (∀ d ∈ l, okD lim d) → (l.foldl bal1 b).getD c 0 = b.getD c 0 + (l.map (inI c)).sum := by
    intro l
    induction l with
    | nil => intro b _ _; simp
    | cons d l ih =>
      intro b hb h
      have hd := h d (List.mem_cons_self ..)
      unfold okD at hd
      rw [List.foldl_cons, ih _ (by rw [bal1_length]; exact hb) (fun x hx => h x (List.mem_cons_of_mem _ hx)), bal1_getD hb hd.1 hd.2.1, List.map_cons, List.sum_cons]; omega
  have := key l (List.replicate 8 0) (by simp) h
  rw [show l.foldl bal1 (List.replicate 8 0) = balI l from rfl] at this
  rw [this]
  have h0 : (List.replicate 8 (0 : Int)).getD c 0 = 0 := by
    rw [List.getD_eq_getElem?_getD, List.getElem?_replicate]
    split <;> rfl
  omega
theorem list_ext8 {a b : List Int} (ha : a.length = 8) (hb : b.length = 8) (h : ∀ c, c < 8 → a.getD c 0 = b.getD c 0) : a = b := by
  apply List.ext_getElem (by omega)
  intro i h1 h2
  have := h i (by omega)
  rwa [getD_lt h1, getD_lt h2] at this
/-- what a book gives to a carrier -/
def inB (f : Book) (c : Int) : Int := ((List.range 8).map fun k : Nat => f k c - f c k).sum
theorem list_okD {f : Book} (hf : Norm f) : ∀ d ∈ listI f, okD 60000000000 d := by
  intro d hd
  obtain ⟨h1, h2, h3, h4⟩ := mem_list hd
  have h5 := hf.bd d.frm d.to
  have h6 := (hf.pos _ _ h1).2.2
  unfold okD
  refine ⟨h3, h4, fun e => ?_, by omega⟩
  rw [e] at h6 h1; omega
theorem sum_sub (n : Nat) (g h : Nat → Int) : ((List.range n).map fun k => g k - h k).sum = ((List.range n).map g).sum - ((List.range n).map h).sum := by
  induction n with
  | zero => rfl
  | succ n ih => simp only [List.range_succ, List.map_append, List.sum_append, List.map_cons, List.map_nil, List.sum_cons, List.sum_nil, ih]; omega
theorem inB_list {f : Book} (hf : Norm f) (c : Nat) (hc : c < 8) : ((listI f).map (inI c)).sum = inB f c := by
  rw [sum_list]
  have e : ∀ a k : Nat, (if 0 < f a k then inI c ⟨a, k, f a k⟩ else 0) = (if (k : Int) = c then f a k else 0) - (if (a : Int) = c then f a k else 0) := fun a k => by
    have := (hf.bd a k).1
    unfold inI
    simp only []
    split
    · rfl
    · rw [show f a k = 0 by omega]; simp
  simp only [e]
  have e2 : ∀ a : Nat, ((List.range 8).map fun k : Nat => (if (k : Int) = c then f a k else 0) - (if (a : Int) = c then f a k else 0)).sum = f a c - (if (a : Int) = c then ((List.range 8).map fun k : Nat => f c k).sum else 0) := fun a => by
    rw [sum_sub, sum_pick8 c (fun k => f a k), if_pos (by omega), Int.toNat_natCast]
    by_cases h : (a : Int) = c
    · simp only [h, if_true]
    · simp only [h, if_false]; rw [show ((List.range 8).map fun _ : Nat => (0 : Int)).sum = 0 from rfl]
  simp only [e2]
  rw [sum_sub, sum_pick8 c (fun _ => ((List.range 8).map fun k : Nat => f c k).sum), if_pos (by omega)]
  unfold inB
  rw [sum_sub]
theorem sum_cong (n : Nat) {g h : Nat → Int} (hh : ∀ k, k < n → g k = h k) : ((List.range n).map g).sum = ((List.range n).map h).sum := by
  congr 1
  exact List.map_congr_left fun k hk => hh k (List.mem_range.1 hk)
theorem inB_book {l : List Debt} (h : DebtsOK 1000000000 l) (c : Nat) (hc : c < 8) : inB (bookOf l) c = (l.map (inI c)).sum := by
  have h1 : inB (bookOf l) c = ((List.range 8).map fun k : Nat => owesI k c l).sum := by
    unfold inB
    refine sum_cong 8 fun k hk => ?_
    have hb := raw_bd (by decide) l h.1
    unfold bookOf
    rw [owes_raw, owes_raw]
    by_cases e : (k : Int) = c
    · rw [e, if_neg (by simp)]; omega
    · have e' : ¬ (c : Int) = k := fun h => e h.symm
      by_cases hp : 0 < rawI l k c - rawI l c k
      · rw [if_pos ⟨e, hp⟩, if_neg (by omega)]; omega
      · rw [if_neg (fun h => hp h.2)]
        by_cases hq : 0 < rawI l c k - rawI l k c
        · rw [if_pos ⟨e', hq⟩]; omega
        · rw [if_neg (fun h => hq h.2)]; omega
  rw [h1]
  have h2 : ∀ (m : List Debt), (∀ d ∈ m, okD 1000000000 d) → ((List.range 8).map fun k : Nat => owesI k c m).sum = (m.map (inI c)).sum := by
    intro m
    induction m with
    | nil => intro _; rfl
    | cons d m ih =>
      intro hm
      have hd := hm d (List.mem_cons_self ..)
      unfold okD at hd
      rw [List.map_cons, List.sum_cons, ← ih (fun x hx => hm x (List.mem_cons_of_mem _ hx))]
      have e : ∀ k : Nat, owesI k c (d :: m) = owes1 k c d + owesI k c m := fun k => by unfold owesI; rw [List.map_cons, List.sum_cons]
      simp only [e]
      rw [sum_add]
      congr 1
      have e2 : ∀ k : Nat, owes1 k c d = (if (k : Int) = d.frm then (if d.to = c then d.amt else 0) else 0) - (if (k : Int) = d.to then (if d.frm = c then d.amt else 0) else 0) := fun k => by
        unfold owes1
        by_cases a1 : d.frm = k <;> by_cases a2 : d.to = c <;> by_cases a3 : d.frm = c <;> by_cases a4 : d.to = k <;> simp_all <;> omega
      simp only [e2]
      rw [sum_sub, sum_pick8 d.frm (fun _ => if d.to = c then d.amt else 0), sum_pick8 d.to (fun _ => if d.frm = c then d.amt else 0), if_pos (show 0 ≤ d.frm ∧ d.frm < 8 by omega), if_pos (show 0 ≤ d.to ∧ d.to < 8 by omega)]; rfl
  exact h2 l h.1
theorem pairs_bal {l : List Debt} (h : DebtsOK 1000000000 l) : balI (pairsI l) = balI l := by
  refine list_ext8 (balI_length _) (balI_length _) fun c hc => ?_
  have hn := norm_book h
  rw [balI_getD (pairsI l) (list_okD hn), balI_getD l h.1]
  unfold pairsI
  rw [inB_list hn c hc, inB_book h c hc]
end Go.Proofs.Ytolfgdkdghhidaa
