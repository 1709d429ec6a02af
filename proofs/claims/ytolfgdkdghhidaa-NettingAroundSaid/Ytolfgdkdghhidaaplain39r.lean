/- Plain laws of netting: without a cycle, carriers go one after the other. No Go in sight. -/
import Derived.Test.Ytolfgdkdghhidaaplain39q
namespace Go.Proofs.Ytolfgdkdghhidaa

theorem round_done : ∀ (n : Nat) {f : Book}, Norm f → (listI f).length ≤ n → cycS (roundS n f) = none
  | 0, f, hf, hl => by
    show cycS f = none
    cases hc : cycS f with
    | none => rfl
    | some c => have := round_less hf (cycF hc); omega
  | n + 1, f, hf, hl => by
    cases hc : cycS f with
    | none => rw [round_none hc]; exact hc
    | some c =>
      rw [round_step hc (by omega)]
      have := round_less hf (cycF hc)
      exact round_done n (norm_sub hf (cycF hc)) (by omega)

/-! ### No cycle: somebody owes nothing -/
def pathW (w : Nat → Nat) (m : Nat) : List Int := (List.range m).map fun t => (w t : Int)
theorem pathW_at (w : Nat → Nat) {m t : Nat} (h : t < m) : (pathW w m)[t]? = some (w t : Int) := by
  unfold pathW
  rw [List.getElem?_map, List.getElem?_range h]; rfl
theorem pathW_succ (w : Nat → Nat) (m : Nat) : pathW w (m + 1) = pathW w m ++ [(w m : Int)] := by
  unfold pathW; rw [List.range_succ, List.map_append]; rfl
theorem pathW_len (w : Nat → Nat) (m : Nat) : (pathW w m).length = m := by simp [pathW]
theorem ext_isSome {f : Book} {w : Nat → Nat} {L : Nat} (h8 : ∀ t, t < L → w t < 8) (he : ∀ t, t + 1 < L → 0 < f (w t) (w (t + 1))) (hcl : 0 < f (w (L - 1)) (w 0)) (hlt : ∀ t, 0 < t → t < L → w 0 < w t)
    (hinj : ∀ i j, i < j → j < L → w i ≠ w j) : ∀ (n m : Nat), m + n = L → 1 ≤ m → (ext f n (pathW w m)).isSome = true
  | 0, m, hm, h1 => by
    have e1 : hdI (pathW w m) = w 0 := hdI_of (pathW_at w (by omega))
    have e2 : lsI (pathW w m) = w (m - 1) := lsI_of (k := m - 1) (pathW_at w (by omega)) (by rw [pathW_len]; omega)
    unfold ext
    rw [e1, e2, if_pos (by rw [show m = L by omega]; exact hcl)]; rfl
  | n + 1, m, hm, h1 => by
    have e1 : hdI (pathW w m) = w 0 := hdI_of (pathW_at w (by omega))
    have e2 : lsI (pathW w m) = w (m - 1) := lsI_of (k := m - 1) (pathW_at w (by omega)) (by rw [pathW_len]; omega)
    have ih := ext_isSome h8 he hcl hlt hinj n (m + 1) (by omega) (by omega)
    rw [ext_succ, List.findSome?_isSome_iff]
    refine ⟨w m, List.mem_range.2 (h8 m (by omega)), ?_⟩
    unfold ext1
    rw [e1, e2, if_pos ⟨by have := hlt m (by omega) (by omega); omega, by have := he (m - 1) (by omega); rwa [show m - 1 + 1 = m by omega] at this, fun hmem => by
      unfold pathW at hmem
      obtain ⟨t, ht, e⟩ := List.mem_map.1 hmem
      have ht := List.mem_range.1 ht
      exact hinj t m ht (by omega) (by omega)⟩, ← pathW_succ]
    exact ih
theorem least_ex {p : Nat → Prop} (h : ∃ n, p n) : ∃ n, p n ∧ ∀ k, p k → n ≤ k := by
  obtain ⟨n, hn⟩ := h
  induction n using Nat.strongRecOn with
  | _ n ih =>
    by_cases hx : ∃ k, k < n ∧ p k
    · obtain ⟨k, hk, hp⟩ := hx; exact ih k hk hp
    · exact ⟨n, hn, fun k hk => by
        by_cases h : n ≤ k
        · exact h
        · exact absurd ⟨k, by omega, hk⟩ hx⟩
def itN (nx : Nat → Nat) : Nat → Nat → Nat
  | 0, c => c
  | n + 1, c => nx (itN nx n c)
theorem itN_add (nx : Nat → Nat) : ∀ a b c, itN nx (a + b) c = itN nx a (itN nx b c)
  | 0, b, c => by rw [Nat.zero_add]; rfl
  | a + 1, b, c => by rw [show a + 1 + b = (a + b) + 1 by omega]; show nx _ = nx _; rw [itN_add nx a b c]
theorem sink {f : Book} (hf : Norm f) (hc : cycS f = none) (U : Nat → Prop) (h : ∀ c : Nat, c < 8 → U c → ∃ k : Nat, k < 8 ∧ U k ∧ 0 < f c k) : ∀ c, c < 8 → ¬ U c := by
  intro c0 hc0 hu0
  obtain ⟨nx, hnx⟩ : ∃ nx : Nat → Nat, ∀ c, c < 8 → U c → nx c < 8 ∧ U (nx c) ∧ 0 < f c (nx c) := by
    refine ⟨fun c => Classical.epsilon fun k => c < 8 → U c → k < 8 ∧ U k ∧ 0 < f c k, fun c h1 h2 => ?_⟩
    have := Classical.epsilon_spec (p := fun k : Nat => c < 8 → U c → k < 8 ∧ U k ∧ 0 < f c k) (by obtain ⟨k, hk⟩ := h c h1 h2; exact ⟨k, fun _ _ => hk⟩)
    exact this h1 h2
  have hit : ∀ c, c < 8 → U c → ∀ t, itN nx t c < 8 ∧ U (itN nx t c) := fun c h1 h2 t => by
    induction t with
    | zero => exact ⟨h1, h2⟩
    | succ t ih => have := hnx _ ih.1 ih.2; exact ⟨this.1, this.2.1⟩
  -- somebody comes again
  have hper : ∃ c, c < 8 ∧ U c ∧ ∃ t, 0 < t ∧ itN nx t c = c := by
    by_cases hcol : ∃ i j, i < j ∧ j < 9 ∧ itN nx i c0 = itN nx j c0
    · obtain ⟨i, j, hij, _, e⟩ := hcol
      refine ⟨itN nx i c0, (hit c0 hc0 hu0 i).1, (hit c0 hc0 hu0 i).2, j - i, by omega, ?_⟩
      rw [← itN_add, show j - i + i = j by omega, e]
    · exfalso
      have := nodup_sub ((List.range 9).map fun i => itN nx i c0) (List.range 8) (by
        rw [List.Nodup, List.pairwise_map, List.pairwise_iff_getElem]
        intro i j hi hj hij e
        simp only [List.length_range] at hi hj
        simp only [List.getElem_range] at e
        exact hcol ⟨i, j, hij, hj, e⟩) (fun x hx => by
        obtain ⟨i, _, rfl⟩ := List.mem_map.1 hx
        exact List.mem_range.2 (hit c0 hc0 hu0 i).1)
      simp at this
  obtain ⟨c, ⟨hc8, hcu, hct⟩, hmin⟩ := least_ex hper
  obtain ⟨L, ⟨hL, eL⟩, hLmin⟩ := least_ex hct
  have hw := hit c hc8 hcu
  have hpos : ∀ t, 0 < f (itN nx t c) (itN nx (t + 1) c) := fun t => (hnx _ (hw t).1 (hw t).2).2.2
  have hdis : ∀ i j, i < j → j < L → itN nx i c ≠ itN nx j c := fun i j hij hj e => by
    have h1 : itN nx (L - j + i) c = c := by rw [itN_add, e, ← itN_add, show L - j + j = L by omega, eL]
    have := hLmin (L - j + i) ⟨by omega, h1⟩
    omega
  have hlt : ∀ t, 0 < t → t < L → itN nx 0 c < itN nx t c := fun t h0 ht => by
    have h1 : c ≤ itN nx t c := hmin _ ⟨(hw t).1, (hw t).2, L, hL, by rw [← itN_add, Nat.add_comm, itN_add, eL]⟩
    have h2 := hdis 0 t h0 ht
    show c < itN nx t c
    have h3 : itN nx 0 c = c := rfl
    omega
  have hcl : 0 < f (itN nx (L - 1) c) (itN nx 0 c) := by
    have := hpos (L - 1)
    rw [show L - 1 + 1 = L by omega, eL] at this
    exact this
  have hL8 : L ≤ 8 := by
    have := nodup_sub ((List.range L).map fun i => itN nx i c) (List.range 8) (by
      rw [List.Nodup, List.pairwise_map, List.pairwise_iff_getElem]
      intro i j hi hj hij e
      simp only [List.length_range] at hi hj
      simp only [List.getElem_range] at e
      exact hdis i j hij hj e) (fun x hx => by
      obtain ⟨i, _, rfl⟩ := List.mem_map.1 hx
      exact List.mem_range.2 (hw i).1)
    simpa using this
  have hL3 : 3 ≤ L := by
    by_cases e1 : L = 1
    · subst e1
      have h1 := hpos 0
      rw [eL] at h1
      have h2 := (hf.pos _ _ h1).2.2
      have h3 : f (itN nx 0 c) c = f c c := rfl
      rw [h3] at h1
      have h4 : f c (itN nx 0 c) = f c c := rfl
      rw [h4] at h2
      omega
    · by_cases e2 : L = 2
      · subst e2
        have h1 := hpos 0
        have h2 := hpos 1
        rw [eL] at h2
        have h3 := (hf.pos _ _ h1).2.2
        have h4 : f (itN nx (0 + 1) c) (itN nx 0 c) = f (itN nx 1 c) c := rfl
        rw [h4] at h3
        omega
      · omega
  have hs := ext_isSome (f := f) (w := fun t => itN nx t c) (fun t _ => (hw t).1) (fun t _ => hpos t) hcl hlt hdis (L - 1) 1 (by omega) (by omega)
  have hp1 : pathW (fun t => itN nx t c) 1 = [(c : Int)] := rfl
  rw [hp1] at hs
  have : (cycS f).isSome = true := by
    rw [cycS_eq, List.findSome?_isSome_iff]
    refine ⟨L - 3, List.mem_range.2 (by omega), ?_⟩
    unfold cyc1
    rw [List.findSome?_isSome_iff]
    exact ⟨c, List.mem_range.2 hc8, by rw [show L - 3 + 2 = L - 1 by omega]; exact hs⟩
  rw [hc] at this
  cases this

/-! ### They go one after the other -/
def owP (r : List Debt) (g : List Bool) (c : Int) : Prop := ∃ d ∈ r, d.frm = c ∧ g.getD d.to.toNat false = false
instance (r : List Debt) (g : List Bool) (c : Int) : Decidable (owP r g c) := by unfold owP; infer_instance
def pstep (r : List Debt) (g : List Bool) (c : Nat) : List Bool := g.set c (g.getD c false || !decide (owP r g c))
def peelN (r : List Debt) : Nat → List Bool
  | 0 => List.replicate 8 false
  | n + 1 => (List.range 8).foldl (pstep r) (peelN r n)
def peelTo (r : List Debt) (n c : Nat) : List Bool := (List.range c).foldl (pstep r) (peelN r n)
theorem peelTo_zero (r : List Debt) (n : Nat) : peelTo r n 0 = peelN r n := rfl
theorem peelTo_all (r : List Debt) (n : Nat) : peelTo r n 8 = peelN r (n + 1) := rfl
theorem peelTo_succ (r : List Debt) (n c : Nat) : peelTo r n (c + 1) = pstep r (peelTo r n c) c := by
  unfold peelTo; rw [List.range_succ, List.foldl_append]; rfl
theorem pstep_len (r : List Debt) (g : List Bool) (c : Nat) : (pstep r g c).length = g.length := by simp [pstep]
theorem psteps_len (r : List Debt) : ∀ (l : List Nat) (g : List Bool), (l.foldl (pstep r) g).length = g.length
  | [], _ => rfl
  | c :: l, g => by rw [List.foldl_cons, psteps_len r l, pstep_len]
theorem peelN_len (r : List Debt) : ∀ n, (peelN r n).length = 8
  | 0 => by simp [peelN]
  | n + 1 => by unfold peelN; rw [psteps_len]; exact peelN_len r n
theorem peelTo_len (r : List Debt) (n c : Nat) : (peelTo r n c).length = 8 := by unfold peelTo; rw [psteps_len]; exact peelN_len r n
theorem pstep_mono (r : List Debt) (g : List Bool) (c x : Nat) (h : g.getD x false = true) : (pstep r g c).getD x false = true := by
  unfold pstep
  by_cases e : c = x
  · subst e
    by_cases hl : c < g.length
    · rw [List.getD_eq_getElem?_getD, List.getElem?_set_self hl, h]; rfl
    · rw [List.getD_eq_getElem?_getD, List.getElem?_eq_none (by omega)] at h; cases h
  · rw [List.getD_eq_getElem?_getD, List.getElem?_set_ne e, ← List.getD_eq_getElem?_getD]; exact h
theorem psteps_mono (r : List Debt) : ∀ (l : List Nat) (g : List Bool) (x : Nat), g.getD x false = true → (l.foldl (pstep r) g).getD x false = true
  | [], _, _, h => h
  | c :: l, g, x, h => by rw [List.foldl_cons]; exact psteps_mono r l _ x (pstep_mono r g c x h)
theorem psteps_hit (r : List Debt) (x : Nat) : ∀ (l : List Nat) (g : List Bool), x < g.length → x ∈ l → (∀ d ∈ r, d.frm = x → g.getD d.to.toNat false = true) → (l.foldl (pstep r) g).getD x false = true
  | [], _, _, h, _ => by simp at h
  | c :: l, g, hx, h, ho => by
    rw [List.foldl_cons]
    by_cases e : c = x
    · subst e
      refine psteps_mono r l _ c ?_
      unfold pstep
      have : decide (owP r g c) = false := decide_eq_false (by
        rintro ⟨d, hd, h1, h2⟩
        rw [ho d hd h1] at h2; cases h2)
      rw [this, List.getD_eq_getElem?_getD, List.getElem?_set_self hx]
      simp
    · rcases List.mem_cons.1 h with h | h
      · exact absurd h.symm e
      · exact psteps_hit r x l _ (by rw [pstep_len]; exact hx) h (fun d hd h1 => pstep_mono r g c _ (ho d hd h1))
theorem filt_lt (p q : Nat → Bool) : ∀ l : List Nat, (∀ x ∈ l, p x = true → q x = true) → ∀ y ∈ l, q y = true → p y = false → (l.filter p).length < (l.filter q).length
  | [], _, _, h, _, _ => by simp at h
  | x :: l, h, y, hy, hq, hp => by
    have h0 := filt_le0 p q l (fun z hz => h z (List.mem_cons_of_mem _ hz))
    rcases List.mem_cons.1 hy with rfl | hy
    · rw [List.filter_cons_of_neg (by rw [hp]; simp), List.filter_cons_of_pos hq]; simp only [List.length_cons]; omega
    · have ih := filt_lt p q l (fun z hz => h z (List.mem_cons_of_mem _ hz)) y hy hq hp
      by_cases hx : p x = true
      · rw [List.filter_cons_of_pos hx, List.filter_cons_of_pos (h x (List.mem_cons_self ..) hx)]; simp only [List.length_cons]; omega
      · rw [List.filter_cons_of_neg hx]
        by_cases hqx : q x = true
        · rw [List.filter_cons_of_pos hqx]; simp only [List.length_cons]; omega
        · rw [List.filter_cons_of_neg hqx]; exact ih
def leftN (g : List Bool) : Nat := ((List.range 8).filter fun c => !g.getD c false).length
theorem peel_less {f : Book} (hf : Norm f) (hc : cycS f = none) : ∀ n, leftN (peelN (listI f) n) ≤ 8 - n
  | 0 => by have := List.length_filter_le (fun c => !(peelN (listI f) 0).getD c false) (List.range 8); simpa [leftN] using this
  | n + 1 => by
    have ih := peel_less hf hc n
    have hlen := peelN_len (listI f) n
    have hmono : ∀ x, (peelN (listI f) n).getD x false = true → (peelN (listI f) (n + 1)).getD x false = true := fun x h => psteps_mono _ _ _ x h
    by_cases hall : ∀ c, c < 8 → (peelN (listI f) n).getD c false = true
    · have : leftN (peelN (listI f) (n + 1)) = 0 := by
        unfold leftN
        rw [List.length_eq_zero_iff, List.filter_eq_nil_iff]
        intro c hc
        rw [hmono c (hall c (List.mem_range.1 hc))]; simp
      omega
    · -- one more goes
      have hex : ∃ c : Nat, c < 8 ∧ (peelN (listI f) n).getD c false = false ∧ ∀ k : Nat, k < 8 → 0 < f c k → (peelN (listI f) n).getD k false = true := by
        false_or_by_contra
        rename_i hno
        refine hall fun c hc8 => ?_
        cases hg : (peelN (listI f) n).getD c false with
        | true => rfl
        | false =>
          exact absurd hg (sink hf hc (fun c => (peelN (listI f) n).getD c false = false) (fun c hc8 hu => by
            false_or_by_contra
            rename_i hno2
            refine hno ⟨c, hc8, hu, fun k hk hp => ?_⟩
            cases hgk : (peelN (listI f) n).getD k false with
            | true => rfl
            | false => exact absurd ⟨k, hk, hgk, hp⟩ hno2) c hc8)
      obtain ⟨c, hc8, hg, ho⟩ := hex
      have hnew : (peelN (listI f) (n + 1)).getD c false = true := psteps_hit (listI f) c (List.range 8) _ (by rw [hlen]; exact hc8) (List.mem_range.2 hc8) (fun d hd he => by
        obtain ⟨h1, _, h3, h4⟩ := mem_list hd
        refine ho d.to.toNat (by omega) ?_
        rw [← he, Int.toNat_of_nonneg h4.1]; exact h1)
      have : leftN (peelN (listI f) (n + 1)) < leftN (peelN (listI f) n) := filt_lt _ _ (List.range 8) (fun x _ hx => by
        cases hgx : (peelN (listI f) n).getD x false with
        | false => rfl
        | true => rw [hmono x hgx] at hx; cases hx) c (List.mem_range.2 hc8) (by rw [hg]; rfl) (by rw [hnew]; rfl)
      omega
theorem peel_all {f : Book} (hf : Norm f) (hc : cycS f = none) (c : Nat) (h : c < 8) : (peelN (listI f) 8).getD c false = true := by
  have h1 := peel_less hf hc 8
  have h2 : leftN (peelN (listI f) 8) = 0 := by omega
  unfold leftN at h2
  rw [List.length_eq_zero_iff, List.filter_eq_nil_iff] at h2
  have := h2 c (List.mem_range.2 h)
  cases hg : (peelN (listI f) 8).getD c false with
  | true => rfl
  | false => rw [hg] at this; simp at this

/-! ### Sums -/
def sumA (l : List Debt) : Int := (l.map fun d => d.amt).sum
theorem sumA_take {l : List Debt} {k : Nat} {d : Debt} (h : l[k]? = some d) : sumA (l.take (k + 1)) = sumA (l.take k) + d.amt := by
  unfold sumA; rw [List.take_add_one, h]; simp
theorem sumA_bd {m : Int} (h0 : 0 ≤ m) {l : List Debt} (h : ∀ d ∈ l, 0 ≤ d.amt ∧ d.amt ≤ m) (hl : l.length ≤ 100) (k : Nat) : 0 ≤ sumA (l.take k) ∧ sumA (l.take k) ≤ 100 * m := by
  have key : ∀ l : List Debt, (∀ d ∈ l, 0 ≤ d.amt ∧ d.amt ≤ m) → 0 ≤ sumA l ∧ sumA l ≤ m * l.length := by
    intro l
    induction l with
    | nil => intro _; simp [sumA]
    | cons d l ih =>
      intro h
      have h1 := ih (fun x hx => h x (List.mem_cons_of_mem _ hx))
      have h2 := h d (List.mem_cons_self ..)
      unfold sumA at *
      simp only [List.map_cons, List.sum_cons, List.length_cons]
      rw [show ((l.length + 1 : Nat) : Int) = (l.length : Int) + 1 by omega, Int.mul_add]
      omega
  have h1 := key (l.take k) (fun d hd => h d (List.mem_of_mem_take hd))
  have h2 : (l.take k).length ≤ 100 := by simp; omega
  have h3 : m * ((l.take k).length : Int) ≤ m * 100 := Int.mul_le_mul_of_nonneg_left (by omega) h0
  omega
theorem round_le : ∀ (n : Nat) {f : Book}, Norm f → ∀ a b, roundS n f a b ≤ f a b
  | 0, f, _, a, b => Int.le_refl _
  | n + 1, f, h, a, b => by
    unfold roundS
    cases hc : cycS f with
    | none => exact Int.le_refl _
    | some c =>
      have h1 := round_le n (norm_sub h (cycF hc)) a b
      have h2 := sub_le (cycF hc) a b
      exact Int.le_trans h1 h2
theorem list_mono {f g : Book} (h : ∀ a b, g a b ≤ f a b) (h0 : ∀ a b, 0 ≤ f a b) : sumA (listI g) ≤ sumA (listI f) := by
  unfold sumA
  rw [sum_list g (fun d => d.amt), sum_list f (fun d => d.amt)]
  refine sum_mono 8 fun a => sum_mono 8 fun k => ?_
  have := h a k
  have := h0 a k
  show (if 0 < g a k then g a k else 0) ≤ if 0 < f a k then f a k else 0
  split <;> split <;> omega
theorem book_sum {l : List Debt} (h : ∀ d ∈ l, okD 1000000000 d) : sumA (listI (bookOf l)) ≤ sumA l := by
  have h1 : ((List.range 8).map fun a : Nat => ((List.range 8).map fun k : Nat => rawI l a k).sum).sum = sumA l := by
    induction l with
    | nil => rfl
    | cons d l ih =>
      have hd := h d (List.mem_cons_self ..)
      unfold okD at hd
      have ih := ih (fun x hx => h x (List.mem_cons_of_mem _ hx))
      have e1 : ∀ a k : Nat, rawI (d :: l) a k = (if (k : Int) = d.to then (if (a : Int) = d.frm then d.amt else 0) else 0) + rawI l a k := fun a k => by
        unfold rawI raw1
        rw [List.map_cons, List.sum_cons]
        by_cases a1 : d.frm = a <;> by_cases a2 : d.to = k <;> simp_all <;> omega
      simp only [e1]
      have e2 : ∀ a : Nat, ((List.range 8).map fun k : Nat => (if (k : Int) = d.to then (if (a : Int) = d.frm then d.amt else 0) else 0) + rawI l a k).sum = (if (a : Int) = d.frm then d.amt else 0) + ((List.range 8).map fun k : Nat => rawI l a k).sum := fun a => by
        rw [sum_add, sum_pick8 d.to (fun _ => if (a : Int) = d.frm then d.amt else 0), if_pos (by omega)]
      simp only [e2]
      rw [sum_add, sum_pick8 d.frm (fun _ => d.amt), if_pos (by omega), ih]
      unfold sumA; rw [List.map_cons, List.sum_cons]
  rw [← h1]
  unfold sumA
  rw [sum_list (bookOf l) (fun d => d.amt)]
  refine sum_mono 8 fun a => sum_mono 8 fun k => ?_
  have h2 := raw_bd (by decide) l h a k
  have h3 := raw_bd (by decide) l h k a
  show (if 0 < bookOf l a k then bookOf l a k else 0) ≤ rawI l a k
  unfold bookOf
  rw [owes_raw]
  split
  · split <;> omega
  · omega
/-- a debt of a book is in its list -/
theorem in_list {f : Book} {a k : Nat} (ha : a < 8) (hk : k < 8) (h : 0 < f a k) : (⟨a, k, f a k⟩ : Debt) ∈ listI f := by
  unfold listI
  rw [List.mem_flatMap]
  refine ⟨a, List.mem_range.2 ha, ?_⟩
  unfold rowD
  rw [List.mem_filterMap]
  exact ⟨k, List.mem_range.2 hk, if_pos h⟩
theorem list_found {f g : Book} (h : ∀ a b, g a b ≤ f a b) {d : Debt} (hd : d ∈ listI g) : ∃ e ∈ listI f, d.frm = e.frm ∧ d.to = e.to ∧ d.amt ≤ e.amt := by
  obtain ⟨h1, h2, h3, h4⟩ := mem_list hd
  have hle := h d.frm d.to
  obtain ⟨a, ha⟩ : ∃ a : Nat, d.frm = a := ⟨d.frm.toNat, by omega⟩
  obtain ⟨k, hk⟩ : ∃ k : Nat, d.to = k := ⟨d.to.toNat, by omega⟩
  rw [ha, hk] at h1 h2 hle
  exact ⟨_, in_list (a := a) (k := k) (by omega) (by omega) (by omega), ha, hk, by show d.amt ≤ f a k; omega⟩
def ltD (d e : Debt) : Prop := d.frm < e.frm ∨ d.frm = e.frm ∧ d.to < e.to
theorem list_sorted (f : Book) : (listI f).Pairwise ltD := by
  unfold listI
  rw [List.pairwise_flatMap]
  constructor
  · intro a _
    unfold rowD
    rw [List.pairwise_filterMap]
    refine List.Pairwise.imp (fun {x y} hxy d hd e he => ?_) List.pairwise_lt_range
    by_cases h1 : 0 < f a x
    · by_cases h2 : 0 < f a y
      · rw [if_pos h1] at hd; rw [if_pos h2] at he
        simp only [Option.some.injEq] at hd he
        subst hd; subst he
        exact .inr ⟨rfl, by show (x : Int) < y; omega⟩
      · rw [if_neg h2] at he; simp at he
    · rw [if_neg h1] at hd; simp at hd
  · refine List.Pairwise.imp (fun {x y} hxy d hd e he => ?_) List.pairwise_lt_range
    unfold rowD at hd he
    rw [List.mem_filterMap] at hd he
    obtain ⟨k1, _, h1⟩ := hd
    obtain ⟨k2, _, h2⟩ := he
    split at h1
    · split at h2
      · simp only [Option.some.injEq] at h1 h2
        subst h1; subst h2
        exact .inl (by show (x : Int) < y; omega)
      · simp at h2
    · simp at h1
theorem sorted_at {l : List Debt} (h : l.Pairwise ltD) {i : Nat} {d e : Debt} (hd : l[i]? = some d) (he : l[i + 1]? = some e) : ltD d e := by
  obtain ⟨h1, e1⟩ := List.getElem?_eq_some_iff.1 hd
  obtain ⟨h2, e2⟩ := List.getElem?_eq_some_iff.1 he
  have := List.pairwise_iff_getElem.1 h i (i + 1) h1 h2 (by omega)
  rwa [e1, e2] at this
theorem ex_take {α : Type} {p : α → Prop} {l : List α} {k : Nat} {d : α} (h : l[k]? = some d) : (∃ x ∈ l.take (k + 1), p x) ↔ (∃ x ∈ l.take k, p x) ∨ p d := by
  rw [List.take_add_one, h]
  constructor
  · rintro ⟨x, hx, hp⟩
    rcases List.mem_append.1 hx with hx | hx
    · exact .inl ⟨x, hx, hp⟩
    · simp at hx; subst hx; exact .inr hp
  · rintro (⟨x, hx, hp⟩ | hp)
    · exact ⟨x, List.mem_append.2 (.inl hx), hp⟩
    · exact ⟨d, List.mem_append.2 (.inr (by simp)), hp⟩
theorem ex_more {α : Type} {p : α → Prop} {l : List α} {k : Nat} (h : ∃ x ∈ l.take k, p x) : ∃ x ∈ l.take (k + 1), p x := by
  obtain ⟨x, hx, hp⟩ := h
  exact ⟨x, (List.take_subset_take_left l (Nat.le_succ k)) hx, hp⟩
theorem owP_end {r : List Debt} {g : List Bool} {c j : Int} (hj : (r.length : Int) ≤ j) : (∃ e ∈ r.take j.toNat, e.frm = c ∧ g.getD e.to.toNat false = false) ↔ owP r g c := by
  rw [List.take_of_length_le (by omega)]; rfl
end Go.Proofs.Ytolfgdkdghhidaa
