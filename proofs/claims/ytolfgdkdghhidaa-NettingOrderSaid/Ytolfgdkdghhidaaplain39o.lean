/- Plain laws of netting: the order of debts. No Go in sight. -/
import Derived.Test.Ytolfgdkdghhidaaplain39n
namespace Go.Proofs.Ytolfgdkdghhidaa
def turnTo (l : List Debt) (k i : Nat) : List Debt := (List.range i).map fun j => l.getD ((j + k) % l.length) default
theorem turnTo_len (l : List Debt) (k i : Nat) : (turnTo l k i).length = i := by simp [turnTo]
theorem turn_at {l : List Debt} {i p : Int} {d : Debt} (h0 : 0 ≤ i) (hp : 0 ≤ p) (h : l[((i + p) % (l.length : Int)).toNat]? = some d) : turnTo l p.toNat (i + 1).toNat = turnTo l p.toNat i.toNat ++ [d] := by
  have e : (i + 1).toNat = i.toNat + 1 := by omega
  have e2 : ((i + p) % (l.length : Int)).toNat = (i.toNat + p.toNat) % l.length := by
    obtain ⟨a, rfl⟩ : ∃ a : Nat, i = a := ⟨i.toNat, by omega⟩
    obtain ⟨b, rfl⟩ : ∃ b : Nat, p = b := ⟨p.toNat, by omega⟩
    rw [show ((a : Int) + b) = ((a + b : Nat) : Int) by omega, ← Int.natCast_emod, Int.toNat_natCast]; simp
  rw [e2] at h
  unfold turnTo
  rw [e, List.range_succ, List.map_append]
  congr 1
  simp [List.getD_eq_getElem?_getD, h]
theorem sum_getD (g : Debt → Int) : ∀ m : List Debt, ((List.range m.length).map fun j => g (m.getD j default)).sum = (m.map g).sum
  | [] => rfl
  | x :: m => by
    rw [List.length_cons, List.range_succ_eq_map, List.map_cons, List.sum_cons, List.map_map, List.map_cons, List.sum_cons, ← sum_getD g m]; rfl
theorem turn_sum (l : List Debt) (k : Nat) (g : Debt → Int) : ((turnTo l k l.length).map g).sum = (l.map g).sum := by
  rcases Nat.eq_zero_or_pos l.length with h0 | h0
  · rw [List.eq_nil_of_length_eq_zero h0]; rfl
  have key : ∀ k, ((List.range l.length).map fun j => g (l.getD ((j + k) % l.length) default)).sum = ((List.range l.length).map fun j => g (l.getD (j % l.length) default)).sum := by
    intro k
    induction k with
    | zero => rfl
    | succ k ih =>
      rw [← ih, ← sum_shift (fun j => g (l.getD ((j + k) % l.length) default)) l.length h0]
      refine sum_cong _ fun j hj => ?_
      show g _ = g _
      rw [Nat.mod_add_mod, show j + (k + 1) = j + 1 + k by omega]
  have e1 : (turnTo l k l.length).map g = (List.range l.length).map fun j => g (l.getD ((j + k) % l.length) default) := by unfold turnTo; rw [List.map_map]; rfl
  rw [e1, key, ← sum_getD g l]
  exact sum_cong _ fun j hj => by rw [Nat.mod_eq_of_lt hj]
theorem turn_mem {l : List Debt} {k : Nat} {d : Debt} (h : d ∈ turnTo l k l.length) : d ∈ l := by
  unfold turnTo at h
  obtain ⟨j, hj, rfl⟩ := List.mem_map.1 h
  have hj := List.mem_range.1 hj
  have hlt : (j + k) % l.length < l.length := Nat.mod_lt _ (by omega)
  rw [List.getD_eq_getElem?_getD, List.getElem?_eq_getElem hlt]
  exact List.getElem_mem hlt
theorem turn_debts {lim : Int} {l : List Debt} (h : DebtsOK lim l) (k : Nat) : DebtsOK lim (turnTo l k l.length) :=
  ⟨fun d hd => h.1 d (turn_mem hd), by rw [turnTo_len]; exact h.2⟩
theorem turn_bal {lim : Int} {l : List Debt} (h : DebtsOK lim l) (k : Nat) : balI (turnTo l k l.length) = balI l := by
  refine list_ext8 (balI_length _) (balI_length _) fun c _ => ?_
  rw [balI_getD _ (turn_debts h k).1, balI_getD _ h.1, turn_sum]
theorem turn_book (l : List Debt) (k : Nat) : bookOf (turnTo l k l.length) = bookOf l := by
  funext a b
  unfold bookOf owesI
  rw [turn_sum]
theorem turn_pairs (l : List Debt) (k : Nat) : pairsI (turnTo l k l.length) = pairsI l := by unfold pairsI; rw [turn_book]
theorem turn_round (l : List Debt) (k : Nat) : roundI (turnTo l k l.length) = roundI l := by unfold roundI; rw [turn_book]
theorem bal_app {lim : Int} {l m : List Debt} (h : ∀ d ∈ l, okD lim d) (h' : ∀ d ∈ m, okD lim d) (c : Nat) : (balI (l ++ m)).getD c 0 = (balI l).getD c 0 + (balI m).getD c 0 := by
  rw [balI_getD (lim := lim) _ (fun d hd => (List.mem_append.1 hd).elim (h d) (h' d)), balI_getD _ h, balI_getD _ h', List.map_append, List.sum_append]
theorem getD_of {l : List Int} {k : Nat} {x : Int} (h : l[k]? = some x) : l.getD k 0 = x := by rw [List.getD_eq_getElem?_getD, h]; rfl
theorem app_at {a u v : List Int} (h : ∀ c, v.getD c 0 = a.getD c 0 + u.getD c 0) {k : Nat} {x y z : Int} (hx : a[k]? = some x) (hy : u[k]? = some y) (hz : v[k]? = some z) : x + y = z := by
  have := h k
  rw [getD_of hx, getD_of hy, getD_of hz] at this
  exact this.symm
end Go.Proofs.Ytolfgdkdghhidaa
