/- Plain laws of netting: balances that integers determine. No Go in sight. -/
import Derived.Test.Ytolfgdkdghhidaaplain39r
namespace Go.Proofs.Ytolfgdkdghhidaa
def evE (n : Int) : Int := if pickI n 32 = 31 then pickI n 100000000000 else pickI n 13 - 6
def ev1 (x : List Int) (k : Nat) : List Int := (x.take k).map evE ++ List.replicate (8 - (x.take k).length) 0
def evA (x : List Int) : List Int := (x.take 7).map evE ++ List.replicate (7 - (x.take 7).length) 0
def ev2 (x : List Int) (i : Nat) : List Int := evA x ++ [-((evA x).take i).sum]
def evenI (x : List Int) : List Int := ev2 x 7
theorem evE_bd (n : Int) : -6 ≤ evE n ∧ evE n ≤ 100000000000 := by
  have h1 := pick_bd n 13 (by omega)
  have h2 := pick_bd n 100000000000 (by omega)
  unfold evE
  split <;> omega
theorem ev1_step {x : List Int} {k : Nat} {d : Int} (h : x[k]? = some d) (hk : k < 8) : (ev1 x k).set k (evE d) = ev1 x (k + 1) := by
  have hl : k < x.length := (List.getElem?_eq_some_iff.1 h).1
  have e1 : (x.take k).length = k := by simp; omega
  have e2 : (x.take (k + 1)).length = k + 1 := by simp; omega
  unfold ev1
  rw [e1, e2, List.take_add_one, h, List.map_append, List.set_append_right _ _ (by rw [List.length_map, e1]; exact Nat.le_refl _), List.length_map, e1, Nat.sub_self, show 8 - k = (8 - (k + 1)) + 1 by omega, List.replicate_succ]
  simp
theorem ev1_len (x : List Int) {k : Nat} (hk : k ≤ 8) : (ev1 x k).length = 8 := by
  unfold ev1
  simp only [List.length_append, List.length_map, List.length_replicate, List.length_take]
  omega
theorem evA_len (x : List Int) : (evA x).length = 7 := by
  unfold evA
  simp only [List.length_append, List.length_map, List.length_replicate, List.length_take]
  omega
theorem ev1_end {x : List Int} {k : Nat} (h : x.take k = x.take 7) : ev1 x k = ev2 x 0 := by
  unfold ev1 ev2 evA
  rw [h, List.append_assoc]
  congr 1
  have : (x.take 7).length ≤ 7 := by simp; omega
  rw [show 8 - (x.take 7).length = (7 - (x.take 7).length) + 1 by omega, List.replicate_succ']
  simp
theorem take_7 {x : List Int} {i : Nat} (h : i = 7 ∨ (x.length ≤ i ∧ i ≤ 7)) : x.take i = x.take 7 := by
  rcases h with rfl | h
  · rfl
  · rw [List.take_of_length_le h.1, List.take_of_length_le (by omega)]
theorem ev2_len (x : List Int) (i : Nat) : (ev2 x i).length = 8 := by unfold ev2; rw [List.length_append, evA_len]; rfl
theorem ev2_step {x : List Int} {i : Nat} (hi : i < 7) {u v : Int} (h7 : (ev2 x i)[7]? = some u) (h : (ev2 x i)[i]? = some v) : (ev2 x i).set 7 (u - v) = ev2 x (i + 1) := by
  have hA := evA_len x
  unfold ev2 at *
  rw [List.getElem?_append_right (by omega), hA] at h7
  rw [List.getElem?_append_left (by omega)] at h
  simp at h7
  subst h7
  rw [List.set_append_right _ _ (by omega), hA]
  congr 1
  rw [sum_take h]
  show [_] = [_]
  congr 1
  omega
theorem evA_bd (x : List Int) : ∀ n ∈ evA x, -6 ≤ n ∧ n ≤ 100000000000 := by
  intro n hn
  unfold evA at hn
  rcases List.mem_append.1 hn with hn | hn
  · obtain ⟨k, _, rfl⟩ := List.mem_map.1 hn
    exact evE_bd k
  · have := List.eq_of_mem_replicate hn
    omega
theorem ev2_within (x : List Int) (i : Nat) : Within 1000000000000 (ev2 x i) := by
  intro n hn
  unfold ev2 at hn
  rcases List.mem_append.1 hn with hn | hn
  · have := evA_bd x n hn; omega
  · rw [List.mem_singleton] at hn
    have h := sum_within (m := 100000000000) (by omega) ((evA x).take i) (fun y hy => by have := evA_bd x y (List.mem_of_mem_take hy); omega)
    have hl : ((evA x).take i).length ≤ 7 := by simp [evA_len]; omega
    omega
theorem even_good (x : List Int) : goodI (evenI x) := by
  refine ⟨fun n hn => ev2_within x 7 n hn, ev2_len x 7, ?_⟩
  unfold evenI ev2
  rw [List.take_of_length_le (by rw [evA_len]; omega)]
  simp only [List.sum_append, List.sum_cons, List.sum_nil]
  omega
end Go.Proofs.Ytolfgdkdghhidaa
