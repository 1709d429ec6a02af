/- Plain laws of netting, sixth part: sums of sets. No Go in sight. -/
import Derived.Test.Ytolfgdkdghhidaaplain39e
namespace Go.Proofs.Ytolfgdkdghhidaa

def sumS (l : List Int) (s : Nat) : Int := ((List.range 8).map fun c : Nat => if s.testBit c then l.getD c 0 else 0).sum
theorem sum_add (n : Nat) (g h : Nat → Int) : ((List.range n).map fun k => g k + h k).sum = ((List.range n).map g).sum + ((List.range n).map h).sum := by
  induction n with
  | zero => rfl
  | succ n ih => simp only [List.range_succ, List.map_append, List.sum_append, List.map_cons, List.map_nil, List.sum_cons, List.sum_nil, ih]; omega
theorem sum_one (n c : Nat) (v : Int) (h : c < n) : ((List.range n).map fun k : Nat => if k = c then v else 0).sum = v := by
  have := sum_pick n (c : Int) (fun _ => v)
  rw [if_pos (by omega)] at this
  refine Eq.trans ?_ this
  congr 1
  apply List.map_congr_left
  intro k _
  by_cases e : k = c
  · rw [if_pos e, if_pos (by omega)]
  · rw [if_neg e, if_neg (by omega)]
theorem sumS_or (l : List Int) {k c : Nat} (hk : k < 2 ^ c) (hc : c < 8) : sumS l (k ||| 2 ^ c) = sumS l k + l.getD c 0 := by
  have h1 := sum_one 8 c (l.getD c 0) hc
  unfold sumS
  rw [← h1, ← sum_add]
  congr 1
  apply List.map_congr_left
  intro i _
  rw [Nat.testBit_or, pow_bit]
  by_cases e : i = c
  · subst e
    rw [Nat.testBit_lt_two_pow hk]; simp
  · have e' : ¬ c = i := fun h => e h.symm
    simp [e, e']
theorem or_pow {k c : Nat} (hk : k < 2 ^ c) : k ||| 2 ^ c = 2 ^ c + k := by
  have := Nat.two_pow_add_eq_or_of_lt hk 1
  simp only [Nat.mul_one] at this
  rw [this, Nat.or_comm]
theorem sumS_zero (l : List Int) : sumS l 0 = 0 := by
  unfold sumS
  simp only [Nat.zero_testBit]
  rfl
theorem sumS_bd (l : List Int) {m : Int} (h0 : 0 ≤ m) (h : ∀ x ∈ l, -m ≤ x ∧ x ≤ m) (s : Nat) : -(8 * m) ≤ sumS l s ∧ sumS l s ≤ 8 * m := by
  have hb : ∀ c : Nat, -m ≤ l.getD c 0 ∧ l.getD c 0 ≤ m := fun c => by
    by_cases hc : c < l.length
    · rw [getD_lt hc]; exact h _ (List.getElem_mem hc)
    · rw [List.getD_eq_getElem?_getD, List.getElem?_eq_none (by omega)]
      exact ⟨by simp; omega, by simpa using h0⟩
  have := sum_within h0 ((List.range 8).map fun c : Nat => if s.testBit c then l.getD c 0 else 0) (fun x hx => by
    obtain ⟨c, _, rfl⟩ := List.mem_map.1 hx
    have := hb c
    split
    · exact this
    · omega)
  simp only [List.length_map, List.length_range] at this
  unfold sumS
  omega
def tb (l : List Int) (m : Nat) : Nat → Int := fun s => if s < m then sumS l s else 0
def setT (g : Nat → Int) (i : Nat) (v : Int) : Nat → Int := fun k => if k = i then v else g k
theorem setT_tb (l : List Int) {k c : Nat} (hk : k < 2 ^ c) (hc : c < 8) {d : Int} (hd : l[c]? = some d) : setT (tb l (2 ^ c + k)) (k ||| 2 ^ c) (sumS l k + d) = tb l (2 ^ c + k + 1) := by
  have hg : l.getD c 0 = d := by rw [List.getD_eq_getElem?_getD, hd]; rfl
  have hs := sumS_or l hk hc
  rw [hg] at hs
  rw [← hs, or_pow hk]
  funext s
  unfold setT tb
  by_cases e : s = 2 ^ c + k
  · subst e; rw [if_pos rfl, if_pos (by omega)]
  · rw [if_neg e]
    by_cases h : s < 2 ^ c + k
    · rw [if_pos h, if_pos (by omega)]
    · rw [if_neg h, if_neg (by omega)]
theorem setT_tb2 (l : List Int) {k c : Nat} (hk : k < 2 ^ c) (hc : c < 8) {d : Int} (hd : l[c]? = some d) : setT (tb l (2 ^ c + k)) (2 ^ c + k) (sumS l k + d) = tb l (2 ^ c + k + 1) := by
  have := setT_tb l hk hc hd
  rwa [or_pow hk] at this
theorem tb_lt (l : List Int) (m : Nat) {s : Nat} (h : s < m) : tb l m s = sumS l s := by unfold tb; rw [if_pos h]
theorem tb_one (l : List Int) : tb l (2 ^ 0) = fun _ => 0 := by
  funext s; unfold tb
  by_cases h : s < 2 ^ 0
  · rw [if_pos h, show s = 0 by simp at h; omega, sumS_zero]
  · rw [if_neg h]
/-- the carriers whose balances are not 0 -/
def nzTo (l : List Int) : Nat → Nat
  | 0 => 0
  | c + 1 => if l.getD c 0 ≠ 0 then nzTo l c ||| 2 ^ c else nzTo l c
def nzM (l : List Int) : Nat := nzTo l 8
theorem nzTo_lt (l : List Int) : ∀ c, nzTo l c < 2 ^ c
  | 0 => by simp [nzTo]
  | c + 1 => by
    have := nzTo_lt l c
    unfold nzTo
    split
    · rw [or_pow this, Nat.pow_succ]; omega
    · rw [Nat.pow_succ]; omega
theorem nzTo_bit (l : List Int) : ∀ c i, (nzTo l c).testBit i = decide (i < c ∧ l.getD i 0 ≠ 0)
  | 0, i => by simp [nzTo]
  | c + 1, i => by
    have ih := nzTo_bit l c i
    unfold nzTo
    by_cases h : l.getD c 0 ≠ 0
    · rw [if_pos h, Nat.testBit_or, pow_bit, ih]
      by_cases e : c = i
      · subst e
        rw [decide_eq_true (p := c < c + 1 ∧ l.getD c 0 ≠ 0) ⟨by omega, h⟩]; simp
      · have : (i < c + 1) ↔ i < c := by omega
        simp [e, this]
    · rw [if_neg h, ih]
      by_cases e : c = i
      · subst e
        rw [decide_eq_false (p := c < c + 1 ∧ l.getD c 0 ≠ 0) (fun hh => h hh.2), decide_eq_false (p := c < c ∧ l.getD c 0 ≠ 0) (fun hh => h hh.2)]
      · have : (i < c + 1) ↔ i < c := by omega
        simp [this]
theorem nz_yes {l : List Int} {c : Nat} {d : Int} (hd : l[c]? = some d) (h : d ≠ 0) : nzTo l c ||| 2 ^ c = nzTo l (c + 1) := by
  have hg : l.getD c 0 = d := by rw [List.getD_eq_getElem?_getD, hd]; rfl
  rw [nzTo, hg, if_pos h]
theorem nz_no {l : List Int} {c : Nat} {d : Int} (hd : l[c]? = some d) (h : ¬ d ≠ 0) : nzTo l c = nzTo l (c + 1) := by
  have hg : l.getD c 0 = d := by rw [List.getD_eq_getElem?_getD, hd]; rfl
  rw [nzTo, hg, if_neg h]
end Go.Proofs.Ytolfgdkdghhidaa
