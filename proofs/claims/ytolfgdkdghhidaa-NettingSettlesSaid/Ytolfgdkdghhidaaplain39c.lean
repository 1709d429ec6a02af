/- Plain laws of netting, third part: books as lists, what cycles depend on. No Go in sight. -/
import Derived.Test.Ytolfgdkdghhidaaplain39b
namespace Go.Proofs.Ytolfgdkdghhidaa

structure Norm (f : Book) : Prop where
  bd : ∀ a b, 0 ≤ f a b ∧ f a b ≤ 60000000000
  pos : ∀ a b, 0 < f a b → (0 ≤ a ∧ a ≤ 7) ∧ (0 ≤ b ∧ b ≤ 7) ∧ f b a = 0

theorem norm_book {l : List Debt} (h : DebtsOK 1000000000 l) : Norm (bookOf l) := by
  have hb : ∀ a b, 0 ≤ rawI l a b ∧ rawI l a b ≤ 60000000000 := fun a b => by
    have := raw_bd (by decide) l h.1 a b
    have := h.2
    omega
  refine ⟨fun a b => ?_, fun a b hp => ?_⟩
  · have h1 := hb a b
    have h2 := hb b a
    unfold bookOf; rw [owes_raw]
    split <;> omega
  · have z1 := raw_zero l h.1 a b
    have h1 := hb a b
    have h2 := hb b a
    unfold bookOf at hp ⊢
    rw [owes_raw] at hp ⊢
    split at hp
    · rename_i hc
      refine ⟨?_, ?_, ?_⟩
      · by_cases e : 0 ≤ a ∧ a ≤ 7
        · exact e
        · have := z1 (.inl e); omega
      · by_cases e : 0 ≤ b ∧ b ≤ 7
        · exact e
        · have := z1 (.inr (.inl e)); omega
      · rw [if_neg]; rintro ⟨_, h⟩; omega
    · omega

theorem sum_pick (n : Nat) (b : Int) (v : Nat → Int) : ((List.range n).map fun k : Nat => if (k : Int) = b then v k else 0).sum = if 0 ≤ b ∧ b < n then v b.toNat else 0 := by
  induction n with
  | zero => simp; intro _; omega
  | succ n ih =>
    rw [List.range_succ, List.map_append, List.sum_append, ih]
    simp only [List.map_cons, List.map_nil, List.sum_cons, List.sum_nil]
    by_cases e : (n : Int) = b
    · subst e
      rw [if_neg (by omega), if_pos rfl, if_pos (by omega)]; simp
    · rw [if_neg e]
      by_cases h : 0 ≤ b ∧ b < n
      · rw [if_pos h, if_pos (by omega)]; omega
      · rw [if_neg h, if_neg (by omega)]; rfl
theorem sum_pick8 (b : Int) (v : Nat → Int) : ((List.range 8).map fun k : Nat => if (k : Int) = b then v k else 0).sum = if 0 ≤ b ∧ b < 8 then v b.toNat else 0 := sum_pick 8 b v
theorem sum_flat {α β : Type} (l : List α) (g : α → List β) (h : β → Int) : ((l.flatMap g).map h).sum = (l.map fun x => ((g x).map h).sum).sum := by
  induction l with
  | nil => rfl
  | cons x l ih => simp [List.flatMap_cons, ih]
theorem sum_filt {α β : Type} (l : List α) (p : α → Prop) [DecidablePred p] (g : α → β) (h : β → Int) : ((l.filterMap fun x => if p x then some (g x) else none).map h).sum = (l.map fun x => if p x then h (g x) else 0).sum := by
  induction l with
  | nil => rfl
  | cons x l ih =>
    rw [List.filterMap_cons]
    by_cases hp : p x
    · simp [hp, ih]
    · simp [hp, ih]
theorem sum_list (f : Book) (h : Debt → Int) : ((listI f).map h).sum = ((List.range 8).map fun a : Nat => ((List.range 8).map fun k : Nat => if 0 < f a k then h ⟨a, k, f a k⟩ else 0).sum).sum := by
  unfold listI
  rw [sum_flat]
  congr 1
  apply List.map_congr_left
  intro a _
  unfold rowD
  rw [sum_filt (p := fun k : Nat => 0 < f a k) (g := fun k : Nat => (⟨a, k, f a k⟩ : Debt))]
theorem raw_list {f : Book} (hf : Norm f) (a b : Int) : rawI (listI f) a b = f a b := by
  unfold rawI
  rw [sum_list]
  have e1 : ∀ x : Nat, ((List.range 8).map fun k : Nat => if 0 < f x k then raw1 a b ⟨x, k, f x k⟩ else 0).sum = if (x : Int) = a then (if 0 ≤ b ∧ b < 8 then f x b else 0) else 0 := by
    intro x
    by_cases hx : (x : Int) = a
    · rw [if_pos hx]
      have : (fun k : Nat => if 0 < f x k then raw1 a b ⟨x, k, f x k⟩ else 0) = fun k : Nat => if (k : Int) = b then f x k else 0 := by
        funext k
        have hb := (hf.bd x k).1
        unfold raw1
        by_cases e : (k : Int) = b
        · subst e; subst hx
          simp only [and_self, if_true]
          split <;> omega
        · rw [if_neg e, if_neg (show ¬ ((x : Int) = a ∧ (k : Int) = b) from fun h => e h.2)]; simp
      rw [this, sum_pick8 b (fun k => f x k)]
      by_cases h : 0 ≤ b ∧ b < 8
      · rw [if_pos h, if_pos h, Int.toNat_of_nonneg h.1]
      · rw [if_neg h, if_neg h]
    · rw [if_neg hx]
      have : (fun k : Nat => if 0 < f x k then raw1 a b ⟨x, k, f x k⟩ else 0) = fun _ : Nat => 0 := by
        funext k
        simp [raw1, hx]
      rw [this]; rfl
  have e2 : (fun x : Nat => ((List.range 8).map fun k : Nat => if 0 < f x k then raw1 a b ⟨x, k, f x k⟩ else 0).sum) = fun x : Nat => if (x : Int) = a then (if 0 ≤ b ∧ b < 8 then f x b else 0) else 0 := funext e1
  rw [e2, sum_pick8 a (fun x => if 0 ≤ b ∧ b < 8 then f x b else 0)]
  have hb := hf.bd a b
  have hp := hf.pos a b
  by_cases ha : 0 ≤ a ∧ a < 8
  · rw [if_pos ha]
    by_cases hbb : 0 ≤ b ∧ b < 8
    · rw [if_pos hbb, Int.toNat_of_nonneg ha.1]
    · rw [if_neg hbb]
      by_cases h0 : 0 < f a b
      · have := hp h0; omega
      · omega
  · rw [if_neg ha]
    by_cases h0 : 0 < f a b
    · have := hp h0; omega
    · omega
theorem owes_list {f : Book} (hf : Norm f) (a b : Int) : owesI a b (listI f) = f a b - f b a := by
  rw [owes_raw, raw_list hf, raw_list hf]

theorem ext_congr {f g : Book} (h : ∀ a b, 0 < f a b ↔ 0 < g a b) : ∀ (n : Nat) (p : List Int), ext f n p = ext g n p
  | 0, p => by unfold ext; simp only [h]
  | n + 1, p => by
    rw [ext_succ, ext_succ]
    congr 1
    funext c
    unfold ext1
    simp only [h, ext_congr h n]
theorem cycS_congr {f g : Book} (h : ∀ a b, 0 < f a b ↔ 0 < g a b) : cycS f = cycS g := by
  unfold cycS; simp only [ext_congr h]
theorem cycS_list {f : Book} (hf : Norm f) : cycS (fun a b => owesI a b (listI f)) = cycS f := by
  refine cycS_congr fun a b => ?_
  rw [owes_list hf]
  have h1 := hf.bd a b
  have h2 := hf.bd b a
  constructor
  · intro h; omega
  · intro h; have := (hf.pos a b h).2.2; omega

def cycI (l : List Debt) : Option (List Int) := if DebtsOK 1000000000 l then cycS (bookOf l) else none
theorem mem_list {f : Book} {d : Debt} (h : d ∈ listI f) : 0 < f d.frm d.to ∧ d.amt = f d.frm d.to ∧ (0 ≤ d.frm ∧ d.frm ≤ 7) ∧ (0 ≤ d.to ∧ d.to ≤ 7) := by
  unfold listI at h
  rw [List.mem_flatMap] at h
  obtain ⟨a, ha, h⟩ := h
  unfold rowD at h
  rw [List.mem_filterMap] at h
  obtain ⟨k, hk, h⟩ := h
  have ha := List.mem_range.1 ha
  have hk := List.mem_range.1 hk
  split at h
  · rename_i hp
    simp only [Option.some.injEq] at h
    subst h
    exact ⟨hp, rfl, ⟨by simp, by simp; omega⟩, by simp, by simp; omega⟩
  · simp at h
end Go.Proofs.Ytolfgdkdghhidaa
