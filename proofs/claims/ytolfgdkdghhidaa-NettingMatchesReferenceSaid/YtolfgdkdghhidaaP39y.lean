/- Plain laws of netting: lists with something changed; the reference's table. No Go in sight. -/
import Derived.Test.YtolfgdkdghhidaaP39
namespace Go.Proofs.Ytolfgdkdghhidaa
def bentD (l : List Debt) (how n p : Int) : List Debt :=
  if l.length = 0 then [⟨n, p, 1⟩]
  else if pickI how 4 = 0 then l.set (pickI p l.length).toNat ⟨n, (l.getD (pickI p l.length).toNat default).to, (l.getD (pickI p l.length).toNat default).amt⟩
  else if pickI how 4 = 1 then l.set (pickI p l.length).toNat ⟨(l.getD (pickI p l.length).toNat default).frm, n, (l.getD (pickI p l.length).toNat default).amt⟩
  else if pickI how 4 = 2 then l.set (pickI p l.length).toNat ⟨(l.getD (pickI p l.length).toNat default).frm, (l.getD (pickI p l.length).toNat default).to, n⟩
  else l ++ List.replicate ((60 + pickI n 2).toNat - l.length) (l.getD (pickI p l.length).toNat default)
theorem bentD_len {l : List Debt} (how n p : Int) (h : l.length ≤ 100) : (bentD l how n p).length ≤ 200 := by
  have := pick_bd n 2 (by omega)
  unfold bentD
  split
  · simp
  · split
    · rw [List.length_set]; omega
    · split
      · rw [List.length_set]; omega
      · split
        · rw [List.length_set]; omega
        · rw [List.length_append, List.length_replicate]; omega
theorem bentD_nil {l : List Debt} {how n p : Int} (h : (l.length : Int) = 0) : bentD l how n p = [⟨n, p, 1⟩] := if_pos (by omega)
theorem getDD {l : List Debt} {k : Nat} {d : Debt} (h : l[k]? = some d) : l.getD k default = d := by rw [List.getD_eq_getElem?_getD, h]; rfl
theorem bentD_0 {l : List Debt} {how n p : Int} {d : Debt} (h : ¬ (l.length : Int) = 0) (h0 : pickI how 4 = 0) (hd : l[(pickI p l.length).toNat]? = some d) : bentD l how n p = l.set (pickI p l.length).toNat ⟨n, d.to, d.amt⟩ := by
  unfold bentD; rw [if_neg (by omega), if_pos h0, getDD hd]
theorem bentD_1 {l : List Debt} {how n p : Int} {d : Debt} (h : ¬ (l.length : Int) = 0) (h0 : ¬ pickI how 4 = 0) (h1 : pickI how 4 = 1) (hd : l[(pickI p l.length).toNat]? = some d) : bentD l how n p = l.set (pickI p l.length).toNat ⟨d.frm, n, d.amt⟩ := by
  unfold bentD; rw [if_neg (by omega), if_neg h0, if_pos h1, getDD hd]
theorem bentD_2 {l : List Debt} {how n p : Int} {d : Debt} (h : ¬ (l.length : Int) = 0) (h0 : ¬ pickI how 4 = 0) (h1 : ¬ pickI how 4 = 1) (h2 : pickI how 4 = 2) (hd : l[(pickI p l.length).toNat]? = some d) : bentD l how n p = l.set (pickI p l.length).toNat ⟨d.frm, d.to, n⟩ := by
  unfold bentD; rw [if_neg (by omega), if_neg h0, if_neg h1, if_pos h2, getDD hd]
def growD (l : List Debt) (p : Int) (t : Nat) : List Debt := l ++ List.replicate t (l.getD (pickI p l.length).toNat default)
theorem growD_len (l : List Debt) (p : Int) (t : Nat) : (growD l p t).length = l.length + t := by unfold growD; rw [List.length_append, List.length_replicate]
theorem growD_step {l : List Debt} {p : Int} {t : Nat} {d : Debt} (hl : ¬ (l.length : Int) = 0) (hd : (growD l p t)[(pickI p l.length).toNat]? = some d) : growD l p t ++ [d] = growD l p (t + 1) := by
  have hp := pick_bd p (l.length : Int) (by omega)
  have hk : (pickI p l.length).toNat < l.length := by omega
  have e : l.getD (pickI p l.length).toNat default = d := by
    unfold growD at hd
    rw [List.getElem?_append_left hk] at hd
    exact getDD hd
  unfold growD
  rw [e, List.append_assoc, List.replicate_succ']
theorem growD_end {l : List Debt} {how n p : Int} {t : Nat} (h : ¬ (l.length : Int) = 0) (h0 : ¬ pickI how 4 = 0) (h1 : ¬ pickI how 4 = 1) (h2 : ¬ pickI how 4 = 2) (ht : t = 0 ∨ (l.length : Int) + t ≤ 60 + pickI n 2) (hx : ¬ ((l.length : Int) + t < 60 + pickI n 2)) : growD l p t = bentD l how n p := by
  unfold bentD growD
  rw [if_neg (by omega), if_neg h0, if_neg h1, if_neg h2]
  congr 2
  omega
def bentN (l : List Int) (how n p : Int) : List Int :=
  if l.length = 0 then [n]
  else if pickI how 4 = 0 then l.set (pickI p l.length).toNat n
  else if pickI how 4 = 1 then l.set (pickI p l.length).toNat (l.getD (pickI p l.length).toNat 0 + 1)
  else if pickI how 4 = 2 then l ++ [0]
  else l.take (pickI p l.length).toNat
theorem bentN_len {l : List Int} (how n p : Int) (h : l.length ≤ 100) : (bentN l how n p).length ≤ 200 := by
  unfold bentN
  split
  · simp
  · split
    · rw [List.length_set]; omega
    · split
      · rw [List.length_set]; omega
      · split
        · rw [List.length_append]; simp; omega
        · rw [List.length_take]; omega
/-! ### The reference's table -/
def sumTo (l : List Int) (s c : Nat) : Int := ((List.range c).map fun k : Nat => if s.testBit k then l.getD k 0 else 0).sum
def zeroTo (l : List Int) (s c : Nat) : Prop := ∃ k, k < c ∧ s.testBit k = true ∧ l.getD k 0 = 0
instance (l : List Int) (s c : Nat) : Decidable (zeroTo l s c) := by unfold zeroTo; exact Nat.decidableExistsLT (p := fun k => s.testBit k = true ∧ l.getD k 0 = 0) c
theorem sumTo_yes {l : List Int} {s c : Nat} {d : Int} (h : s.testBit c = true) (hd : l[c]? = some d) : sumTo l s (c + 1) = sumTo l s c + d := by
  unfold sumTo; rw [List.range_succ, List.map_append, List.sum_append]; simp [h, hd]
theorem sumTo_no {l : List Int} {s c : Nat} (h : ¬ s.testBit c = true) : sumTo l s (c + 1) = sumTo l s c := by
  unfold sumTo; rw [List.range_succ, List.map_append, List.sum_append]; simp [h]
theorem zeroTo_yes {l : List Int} {s c : Nat} {d : Int} (h : s.testBit c = true) (hd : l[c]? = some d) : zeroTo l s (c + 1) ↔ (zeroTo l s c ∨ d = 0) := by
  unfold zeroTo
  constructor
  · rintro ⟨k, hk, hb, h0⟩
    by_cases e : k = c
    · subst e; right; rw [← getD_of hd]; exact h0
    · left; exact ⟨k, by omega, hb, h0⟩
  · rintro (⟨k, hk, hb, h0⟩ | h0)
    · exact ⟨k, by omega, hb, h0⟩
    · exact ⟨c, by omega, h, by rw [getD_of hd]; exact h0⟩
theorem zeroTo_no {l : List Int} {s c : Nat} (h : ¬ s.testBit c = true) : zeroTo l s (c + 1) ↔ zeroTo l s c := by
  unfold zeroTo
  constructor
  · rintro ⟨k, hk, hb, h0⟩
    by_cases e : k = c
    · subst e; exact absurd hb h
    · exact ⟨k, by omega, hb, h0⟩
  · rintro ⟨k, hk, hb, h0⟩
    exact ⟨k, by omega, hb, h0⟩
theorem zeroTo_zero (l : List Int) (s : Nat) : ¬ zeroTo l s 0 := by rintro ⟨k, hk, _⟩; omega
theorem sumTo_bd {l : List Int} (h : goodI l) (s c : Nat) (hc : c ≤ 8) : -8000000000000 ≤ sumTo l s c ∧ sumTo l s c ≤ 8000000000000 := by
  have h1 := sum_within (m := 1000000000000) (by omega) ((List.range c).map fun k : Nat => if s.testBit k then l.getD k 0 else 0) (fun x hx => by
    obtain ⟨k, hk, rfl⟩ := List.mem_map.1 hx
    have := good_getD h (c := k) (by have := List.mem_range.1 hk; omega)
    split <;> omega)
  simp only [List.length_map, List.length_range] at h1
  unfold sumTo
  omega
def tbD (l : List Int) (s : Nat) : Nat → Int := fun t => if t < s then dpS l t else 0
theorem tbD_lt (l : List Int) {s t : Nat} (h : t < s) : tbD l s t = dpS l t := if_pos h
theorem tbD_one (l : List Int) : tbD l 1 = fun _ => 0 := by
  funext t
  unfold tbD
  by_cases h : t < 1
  · rw [if_pos h, show t = 0 by omega, dpS_zero l (.inl rfl)]
  · rw [if_neg h]
theorem tbD_skip {l : List Int} {s : Nat} (h : s = 0 ∨ zeroIn l s) : tbD l (s + 1) = tbD l s := by
  funext t
  unfold tbD
  by_cases e : t = s
  · subst e; rw [if_pos (by omega), if_neg (by omega), dpS_zero l h]
  · by_cases h1 : t < s
    · rw [if_pos h1, if_pos (by omega)]
    · rw [if_neg h1, if_neg (by omega)]
theorem tbD_step (l : List Int) (s : Nat) {v : Int} (h : v = dpS l s) : setT (tbD l s) s v = tbD l (s + 1) := by
  funext t
  unfold setT tbD
  by_cases e : t = s
  · subst e; rw [if_pos rfl, if_pos (by omega), h]
  · rw [if_neg e]
    by_cases h1 : t < s
    · rw [if_pos h1, if_pos (by omega)]
    · rw [if_neg h1, if_neg (by omega)]
theorem setT_zero (l : List Int) (s : Nat) : setT (tbD l s) s 0 = tbD l s := by
  funext t
  unfold setT tbD
  by_cases e : t = s
  · subst e; rw [if_pos rfl, if_neg (by omega)]
  · rw [if_neg e]
theorem setT_setT (g : Nat → Int) (s : Nat) (u v : Int) : setT (setT g s u) s v = setT g s v := by
  funext t
  unfold setT
  by_cases e : t = s
  · rw [if_pos e, if_pos e]
  · rw [if_neg e, if_neg e, if_neg e]
theorem setT_at (g : Nat → Int) (s : Nat) (u : Int) : setT g s u s = u := if_pos rfl
theorem setT_ne (g : Nat → Int) {s t : Nat} (u : Int) (h : t ≠ s) : setT g s u t = g t := if_neg h
theorem usT_skip {l : List Int} {s : Nat} (h : s = 0 ∨ zeroIn l s) : usT l (s + 1) = usT l s := if_pos h
theorem usT_step {l : List Int} {s : Nat} (h : ¬ (s = 0 ∨ zeroIn l s)) : usT l (s + 1) = max (usT l s) (szS s 8) := if_neg h
theorem dpB_yes (D : Nat → Int) {s e : Nat} (h : s.testBit e = true) : dpB D s (e + 1) = max (dpB D s e) (D (s - 2 ^ e)) := by rw [dpB_succ, if_pos h]
theorem dpB_no (D : Nat → Int) {s e : Nat} (h : ¬ s.testBit e = true) : dpB D s (e + 1) = dpB D s e := by rw [dpB_succ, if_neg h]
theorem dpB_bd (l : List Int) {s : Nat} (h8 : s < 256) (k : Nat) (hk : k ≤ 8) : 0 ≤ dpB (dpS l) s k ∧ dpB (dpS l) s k ≤ 8 := by
  refine ⟨dpB_nn _ _ _, ?_⟩
  rcases dpB_at (dpS l) s k with h | ⟨c, hc, hb, he⟩
  · omega
  · rw [← he]
    have := Nat.sub_le s (2 ^ c)
    exact (dp_bd l (Nat.lt_of_le_of_lt this h8)).2
theorem dpS_sum {l : List Int} {s : Nat} (h : ¬ (s = 0 ∨ zeroIn l s)) (hs : sumTo l s 8 = 0) : dpB (dpS l) s 8 + 1 = dpS l s := by
  rw [dpS_eq l h, if_pos (show sumS l s = 0 from hs)]
theorem dpS_nosum {l : List Int} {s : Nat} (h : ¬ (s = 0 ∨ zeroIn l s)) (hs : ¬ sumTo l s 8 = 0) : dpB (dpS l) s 8 = dpS l s := by
  rw [dpS_eq l h, if_neg (show ¬ sumS l s = 0 from hs)]; omega
theorem ref_len {l : List Int} (h : goodI l) : usT l 256 - bsT l 256 = ((stlR l).length : Int) := by rw [stlR_good h, ref_few h]
end Go.Proofs.Ytolfgdkdghhidaa
