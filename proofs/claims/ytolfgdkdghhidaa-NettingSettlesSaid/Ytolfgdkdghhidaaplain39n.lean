/- Plain laws of netting: rounds conserve. No Go in sight. -/
import Derived.Test.Ytolfgdkdghhidaaplain39m
namespace Go.Proofs.Ytolfgdkdghhidaa
theorem inB_step {f : Book} {c : List Int} (hn : c.Nodup) (v : Int) {i : Nat} (hi : i < c.length) {x y : Int} (e : edge c i = (x, y)) (hx : 0 ≤ x ∧ x ≤ 7) (hy : 0 ≤ y ∧ y ≤ 7) (z : Int) :
    inB (subTo f c v (i + 1)) z = inB (subTo f c v i) z + (if x = z then v else 0) - (if y = z then v else 0) := by
  have h1 : ∀ a b, subTo f c v (i + 1) a b = subTo f c v i a b - (if a = x ∧ b = y then v else 0) := fun a b => by
    rw [subTo_step hn v hi, e]
    by_cases h : a = x ∧ b = y
    · rw [if_pos (by rw [h.1, h.2]), if_pos h]
    · rw [if_neg (fun he => h ⟨(congrArg Prod.fst he).symm, (congrArg Prod.snd he).symm⟩), if_neg h]; omega
  unfold inB
  have h2 : ∀ k : Nat, subTo f c v (i + 1) k z - subTo f c v (i + 1) z k = (subTo f c v i k z - subTo f c v i z k) + ((if (k : Int) = y then (if x = z then v else 0) else 0) - (if (k : Int) = x then (if y = z then v else 0) else 0)) := fun k => by
    rw [h1, h1]
    by_cases a1 : (k : Int) = x <;> by_cases a2 : z = y <;> by_cases a3 : z = x <;> by_cases a4 : (k : Int) = y <;> simp_all <;> omega
  simp only [h2]
  rw [sum_add, sum_sub, sum_sub, sum_pick8 y (fun _ => if x = z then v else 0), sum_pick8 x (fun _ => if y = z then v else 0), if_pos (show 0 ≤ y ∧ y < 8 by omega), if_pos (show 0 ≤ x ∧ x < 8 by omega)]
  omega
theorem sum_shift (h : Nat → Int) (n : Nat) (hn : 0 < n) : ((List.range n).map fun i => h ((i + 1) % n)).sum = ((List.range n).map h).sum := by
  obtain ⟨m, rfl⟩ : ∃ m, n = m + 1 := ⟨n - 1, by omega⟩
  have h1 : ((List.range (m + 1)).map fun i => h ((i + 1) % (m + 1))).sum = ((List.range m).map fun i => h (i + 1)).sum + h 0 := by
    rw [List.range_succ, List.map_append, List.sum_append]
    congr 1
    · exact sum_cong m fun k hk => by rw [Nat.mod_eq_of_lt (by omega)]
    · simp
  have h2 : ((List.range (m + 1)).map h).sum = h 0 + ((List.range m).map fun i => h (i + 1)).sum := by
    rw [List.range_succ_eq_map, List.map_cons, List.sum_cons, List.map_map]; rfl
  rw [h1, h2]; omega
theorem cyc_els {f : Book} {c : List Int} (h : CycF f c) {i : Nat} (hi : i < c.length) : 0 ≤ c.getD i 0 ∧ c.getD i 0 ≤ 7 := h.els _ (getD_mem hi)
theorem inB_sub {f : Book} {c : List Int} (h : CycF f c) (z : Int) : inB (subS f c) z = inB f z := by
  have hl : 0 < c.length := by have := h.len; omega
  unfold subS
  generalize leastTo f c c.length = v
  have key : ∀ n, n ≤ c.length → inB (subTo f c v n) z = inB f z + ((List.range n).map fun i => if c.getD i 0 = z then v else 0).sum - ((List.range n).map fun i => if c.getD ((i + 1) % c.length) 0 = z then v else 0).sum := by
    intro n
    induction n with
    | zero => intro _; rw [subTo_zero]; simp
    | succ n ih =>
      intro hn
      rw [inB_step h.nodup v (by omega) (x := c.getD n 0) (y := c.getD ((n + 1) % c.length) 0) rfl (cyc_els h (by omega)) (cyc_els h (Nat.mod_lt _ hl)), ih (by omega)]
      simp only [List.range_succ, List.map_append, List.sum_append, List.map_cons, List.map_nil, List.sum_cons, List.sum_nil]
      omega
  rw [key c.length (Nat.le_refl _), sum_shift (fun i => if c.getD i 0 = z then v else 0) c.length hl]
  omega
theorem round_norm : ∀ (n : Nat) {f : Book}, Norm f → Norm (roundS n f) ∧ ∀ z, inB (roundS n f) z = inB f z
  | 0, f, h => ⟨h, fun _ => rfl⟩
  | n + 1, f, h => by
    unfold roundS
    cases hc : cycS f with
    | none => exact ⟨h, fun _ => rfl⟩
    | some c =>
      have hcy := cycF hc
      obtain ⟨h1, h2⟩ := round_norm n (norm_sub h hcy)
      exact ⟨h1, fun z => by rw [h2, inB_sub hcy]⟩
theorem round_bal {l : List Debt} (h : DebtsOK 1000000000 l) : balI (roundI l) = balI l := by
  refine list_ext8 (balI_length _) (balI_length _) fun c hc => ?_
  have hn := norm_book h
  obtain ⟨h1, h2⟩ := round_norm 64 hn
  rw [balI_getD (roundI l) (list_okD h1), balI_getD l h.1]
  unfold roundI
  rw [inB_list h1 c hc, h2, inB_book h c hc]
theorem bal_sum {lim : Int} (l : List Debt) (h : ∀ d ∈ l, okD lim d) : (balI l).sum = 0 := by
  have h8 := balI_length l
  have h1 : (balI l).sum = ((List.range 8).map fun c : Nat => (balI l).getD c 0).sum := by
    have key : ∀ (m : List Int), m.sum = ((List.range m.length).map fun c : Nat => m.getD c 0).sum := by
      intro m
      induction m with
      | nil => rfl
      | cons x m ih => rw [List.length_cons, List.range_succ_eq_map, List.map_cons, List.sum_cons, List.map_map, List.sum_cons, ih]; rfl
    rw [key, h8]
  rw [h1, sum_cong 8 (fun c _ => balI_getD l h c)]
  clear h1 h8
  induction l with
  | nil => rfl
  | cons d l ih =>
    have hd := h d (List.mem_cons_self ..)
    unfold okD at hd
    simp only [List.map_cons, List.sum_cons]
    rw [sum_add, ih (fun x hx => h x (List.mem_cons_of_mem _ hx))]
    have e : ∀ c : Nat, inI c d = (if (c : Int) = d.to then d.amt else 0) - (if (c : Int) = d.frm then d.amt else 0) := fun c => by
      unfold inI
      by_cases a1 : d.to = c <;> by_cases a2 : d.frm = c <;> simp_all <;> omega
    simp only [e]
    rw [sum_sub, sum_pick8 d.to (fun _ => d.amt), sum_pick8 d.frm (fun _ => d.amt), if_pos (show 0 ≤ d.to ∧ d.to < 8 by omega), if_pos (show 0 ≤ d.frm ∧ d.frm < 8 by omega)]
    omega
end Go.Proofs.Ytolfgdkdghhidaa
