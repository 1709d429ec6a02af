/- Plain laws of netting: what Settle pays. No Go in sight. -/
import Derived.Test.Ytolfgdkdghhidaaplain39p
namespace Go.Proofs.Ytolfgdkdghhidaa

def AllZ (lf : List Int) (s : Nat) : Prop := ∀ c, c < 8 → s.testBit c = true → lf.getD c 0 = 0
instance (lf : List Int) (s : Nat) : Decidable (AllZ lf s) := by unfold AllZ; infer_instance
def doneN (gs : List Nat) (lf : List Int) : Nat := (gs.filter fun s => decide (AllZ lf s)).length
theorem filt_le0 (p q : Nat → Bool) : ∀ l : List Nat, (∀ x ∈ l, p x = true → q x = true) → (l.filter p).length ≤ (l.filter q).length
  | [], _ => by simp
  | x :: l, h => by
    have ih := filt_le0 p q l (fun y hy => h y (List.mem_cons_of_mem _ hy))
    have hx := h x (List.mem_cons_self ..)
    by_cases hp : p x = true
    · rw [List.filter_cons_of_pos hp, List.filter_cons_of_pos (hx hp)]; simp only [List.length_cons]; omega
    · rw [List.filter_cons_of_neg hp]
      by_cases hq : q x = true
      · rw [List.filter_cons_of_pos hq]; simp only [List.length_cons]; omega
      · rw [List.filter_cons_of_neg hq]; exact ih
theorem filt_le1 (p q : Nat → Bool) (s : Nat) : ∀ l : List Nat, l.Nodup → (∀ x ∈ l, x ≠ s → p x = true → q x = true) → (l.filter p).length ≤ (l.filter q).length + 1
  | [], _, _ => by simp
  | x :: l, hn, h => by
    obtain ⟨h1, h2⟩ := List.nodup_cons.1 hn
    by_cases e : x = s
    · have ih := filt_le0 p q l (fun y hy => h y (List.mem_cons_of_mem _ hy) (fun e2 => h1 (e ▸ e2 ▸ hy)))
      by_cases hp : p x = true
      · rw [List.filter_cons_of_pos hp]
        by_cases hq : q x = true
        · rw [List.filter_cons_of_pos hq]; simp only [List.length_cons]; omega
        · rw [List.filter_cons_of_neg hq]; simp only [List.length_cons]; omega
      · rw [List.filter_cons_of_neg hp]
        by_cases hq : q x = true
        · rw [List.filter_cons_of_pos hq]; simp only [List.length_cons]; omega
        · rw [List.filter_cons_of_neg hq]; omega
    · have ih := filt_le1 p q s l h2 (fun y hy => h y (List.mem_cons_of_mem _ hy))
      have hx := h x (List.mem_cons_self ..) e
      by_cases hp : p x = true
      · rw [List.filter_cons_of_pos hp, List.filter_cons_of_pos (hx hp)]; simp only [List.length_cons]; omega
      · rw [List.filter_cons_of_neg hp]
        by_cases hq : q x = true
        · rw [List.filter_cons_of_pos hq]; simp only [List.length_cons]; omega
        · rw [List.filter_cons_of_neg hq]; exact ih

structure StS (b : List Int) (gs : List Nat) (lf : List Int) (m : List Debt) : Prop where
  ok : StOK gs lf
  bal : ∀ c, c < 8 → lf.getD c 0 + (m.map (inI c)).sum = b.getD c 0
  sgn : ∀ c, c < 8 → (b.getD c 0 ≤ lf.getD c 0 ∧ lf.getD c 0 ≤ 0) ∨ (0 ≤ lf.getD c 0 ∧ lf.getD c 0 ≤ b.getD c 0)
  ds : ∀ d ∈ m, okD 1000000000000 d ∧ b.getD d.frm.toNat 0 < 0 ∧ 0 < b.getD d.to.toNat 0
  cnt : m.length + nzc lf + doneN gs lf ≤ nzc b
theorem dis_of {gs : List Nat} (hd : gs.Pairwise Dis) {s x : Nat} (hs : s ∈ gs) (hx : x ∈ gs) (e : x ≠ s) : Dis s x := by
  obtain ⟨a, ha, ea⟩ := List.mem_iff_getElem.1 hs
  obtain ⟨b, hb, eb⟩ := List.mem_iff_getElem.1 hx
  have hp := List.pairwise_iff_getElem.1 hd
  rcases Nat.lt_trichotomy a b with h1 | h1 | h1
  · have := hp a b ha hb h1; rwa [ea, eb] at this
  · subst h1; exact absurd (eb.symm.trans ea) e
  · have := hp b a hb ha h1; rw [ea, eb] at this; exact this.symm
theorem pay_step {b : List Int} {gs : List Nat} (hd : gs.Pairwise Dis) (hnz : ∀ s ∈ gs, s ≠ 0) {lf : List Int} {m : List Debt} (h : StS b gs lf m) {s : Nat} (hs : s ∈ gs) (hn : ¬ nxt s (-1) lf < 0) :
    StS b gs (pay1 s lf) (m ++ [payD s lf]) ∧ ∀ c, c < 8 → lf.getD c 0 = 0 → (pay1 s lf).getD c 0 = 0 := by
  obtain ⟨f, t, hf, ht, ef, et, hfs, hts, hneg, hpos, hne⟩ := pay_facts h.ok hs hn
  have hv : payV s lf = min (-(lf.getD f 0)) (lf.getD t 0) := by unfold payV; rw [ef, et]; simp only [Int.toNat_natCast]
  have hg := pay1_getD h.ok.len hf ht ef et hne
  have hD : payD s lf = ⟨f, t, payV s lf⟩ := by unfold payD; rw [ef, et]
  have b1 := h.ok.bd _ (getD_mem (l := lf) (j := f) (by rw [h.ok.len]; exact hf))
  have b2 := h.ok.bd _ (getD_mem (l := lf) (j := t) (by rw [h.ok.len]; exact ht))
  have hst : ∀ c, c < 8 → lf.getD c 0 = 0 → (pay1 s lf).getD c 0 = 0 := fun c _ hz => by
    rw [hg, if_neg (fun e => by subst e; omega), if_neg (fun e => by subst e; omega)]; exact hz
  have hndp : gs.Nodup := List.Pairwise.imp_of_mem (fun {x y} hx _ hd e => by
    subst e
    obtain ⟨i, hi⟩ := bit_of (hnz x hx)
    have := hd i hi
    rw [hi] at this; cases this) hd
  refine ⟨⟨pay_ok hd h.ok hs hn, fun c hc => ?_, fun c hc => ?_, fun d hdm => ?_, ?_⟩, hst⟩
  · have := h.bal c hc
    rw [hg, hD, List.map_append, List.sum_append]
    simp only [List.map_cons, List.map_nil, List.sum_cons, List.sum_nil]
    generalize (List.map (inI c) m).sum = S at this ⊢
    unfold inI
    simp only []
    by_cases e1 : c = f
    · subst e1
      rw [if_pos rfl, if_pos rfl, if_neg (show ¬ (t : Int) = c by omega)]; omega
    · rw [if_neg e1, if_neg (show ¬ (f : Int) = c by omega)]
      by_cases e2 : c = t
      · subst e2; rw [if_pos rfl, if_pos rfl]; omega
      · rw [if_neg e2, if_neg (show ¬ (t : Int) = c by omega)]; omega
  · have h1 := h.sgn c hc
    rw [hg]
    by_cases e1 : c = f
    · subst e1; rw [if_pos rfl]; omega
    · rw [if_neg e1]
      by_cases e2 : c = t
      · subst e2; rw [if_pos rfl]; omega
      · rw [if_neg e2]; exact h1
  · rcases List.mem_append.1 hdm with hdm | hdm
    · exact h.ds d hdm
    · rw [List.mem_singleton] at hdm
      subst hdm
      rw [hD]
      have h1 := h.sgn f hf
      have h2 := h.sgn t ht
      refine ⟨?_, ?_, ?_⟩
      · unfold okD; simp only []; omega
      · show b.getD (f : Int).toNat 0 < 0
        rw [Int.toNat_natCast]; omega
      · show 0 < b.getD (t : Int).toNat 0
        rw [Int.toNat_natCast]; omega
  · have hc := h.cnt
    have hmono : ∀ x ∈ gs, x ≠ s → decide (AllZ (pay1 s lf) x) = true → decide (AllZ lf x) = true := fun x hx hxs hz => by
      have hz := of_decide_eq_true hz
      have hdx := dis_of hd hs hx hxs
      refine decide_eq_true fun c hc hb => ?_
      have := hz c hc hb
      rw [hg] at this
      rwa [if_neg (fun e => by subst e; rw [hdx c hfs] at hb; cases hb), if_neg (fun e => by subst e; rw [hdx c hts] at hb; cases hb)] at this
    simp only [List.length_append, List.length_singleton]
    by_cases hz : AllZ (pay1 s lf) s
    · have h1 : doneN gs (pay1 s lf) ≤ doneN gs lf + 1 := filt_le1 _ _ s gs hndp hmono
      have h2 : nzc (pay1 s lf) + 2 ≤ nzc lf := by
        have key : (nzc (pay1 s lf) : Int) + 2 ≤ (nzc lf : Int) := by
          rw [nzc_eq _ (by rw [pay1_len]; exact h.ok.len), nzc_eq _ h.ok.len]
          have h3 : ((List.range 8).map fun c : Nat => if (pay1 s lf).getD c 0 ≠ 0 then (1 : Int) else 0).sum + 2 = ((List.range 8).map fun c : Nat => (if (pay1 s lf).getD c 0 ≠ 0 then (1 : Int) else 0) + ((if c = f then 1 else 0) + (if c = t then 1 else 0))).sum := by
            rw [sum_add, sum_add, sum_one 8 f 1 hf, sum_one 8 t 1 ht]; omega
          rw [h3]
          refine sum_mono 8 fun c => ?_
          by_cases e1 : c = f
          · subst e1
            rw [if_pos rfl, if_neg hne, hz c hf hfs, if_pos (show lf.getD c 0 ≠ 0 by omega)]; simp
          · rw [if_neg e1]
            by_cases e2 : c = t
            · subst e2
              rw [if_pos rfl, hz c ht hts, if_pos (show lf.getD c 0 ≠ 0 by omega)]; simp
            · rw [if_neg e2, hg, if_neg e1, if_neg e2]; omega
        omega
      omega
    · have h1 : doneN gs (pay1 s lf) ≤ doneN gs lf := filt_le0 _ _ gs (fun x hx hp => by
        by_cases e : x = s
        · subst e; exact absurd (of_decide_eq_true hp) hz
        · exact hmono x hx e hp)
      have h2 := pay_less h.ok hs hn
      omega
theorem allz_of {gs : List Nat} {lf : List Int} (h : StOK gs lf) {s : Nat} (hs : s ∈ gs) (hn : nxt s (-1) lf < 0) : AllZ lf s := by
  rcases nxt_spec s (-1) lf with ⟨_, hno⟩ | ⟨f, hf, ef, _⟩
  · intro c hc hb
    have hz := h.zero s hs
    unfold sumS at hz
    have h1 := hno c hc
    by_cases hp : 0 < lf.getD c 0
    · exfalso
      have h2 := sum_neg 8 (fun c : Nat => 0 - (if s.testBit c then lf.getD c 0 else 0)) (fun k hk => by
        show 0 - (if s.testBit k then lf.getD k 0 else 0) ≤ 0
        split
        · rename_i hbk
          have := hno k hk
          by_cases hp : lf.getD k 0 < 0
          · exact absurd ⟨hbk, by omega⟩ this
          · omega
        · omega) hc (by show 0 - (if s.testBit c then lf.getD c 0 else 0) < 0; rw [if_pos hb]; omega)
      rw [sum_sub 8 (fun _ => 0)] at h2
      have h3 : ((List.range 8).map fun _ : Nat => (0 : Int)).sum = 0 := rfl
      omega
    · by_cases hp2 : lf.getD c 0 < 0
      · exact absurd ⟨hb, by omega⟩ h1
      · omega
  · omega
theorem payS_spec {b : List Int} {gs : List Nat} (hd : gs.Pairwise Dis) (hnz : ∀ s ∈ gs, s ≠ 0) {s : Nat} (hs : s ∈ gs) : ∀ (n : Nat) (lf : List Int) (m : List Debt), StS b gs lf m → nzc lf ≤ n →
    StS b gs (payS s n (lf, m)).1 (payS s n (lf, m)).2 ∧ AllZ (payS s n (lf, m)).1 s ∧ ∀ c, c < 8 → lf.getD c 0 = 0 → (payS s n (lf, m)).1.getD c 0 = 0
  | 0, lf, m, h, hn => by
    refine ⟨h, allz_of h.ok hs ?_, fun _ _ h => h⟩
    by_cases e : nxt s (-1) lf < 0
    · exact e
    · have := pay_less h.ok hs e; omega
  | n + 1, lf, m, h, hn => by
    have e0 : payS s (n + 1) (lf, m) = if nxt s (-1) lf < 0 then (lf, m) else payS s n (pay1 s lf, m ++ [payD s lf]) := rfl
    rw [e0]
    by_cases e : nxt s (-1) lf < 0
    · rw [if_pos e]; exact ⟨h, allz_of h.ok hs e, fun _ _ h => h⟩
    · rw [if_neg e]
      obtain ⟨h1, h2⟩ := pay_step hd hnz h hs e
      have hl := pay_less h.ok hs e
      obtain ⟨h3, h4, h5⟩ := payS_spec hd hnz hs n (pay1 s lf) (m ++ [payD s lf]) h1 (by omega)
      exact ⟨h3, h4, fun c hc hz => h5 c hc (h2 c hc hz)⟩
theorem stl_fold {b : List Int} {gs : List Nat} (hd : gs.Pairwise Dis) (hnz : ∀ s ∈ gs, s ≠ 0) : ∀ (g1 : List Nat), (∀ s ∈ g1, s ∈ gs) → ∀ (p : List Int × List Debt), StS b gs p.1 p.2 →
    StS b gs (g1.foldl (fun p s => payS s 8 p) p).1 (g1.foldl (fun p s => payS s 8 p) p).2 ∧ (∀ s ∈ g1, AllZ (g1.foldl (fun p s => payS s 8 p) p).1 s) ∧ ∀ c, c < 8 → p.1.getD c 0 = 0 → (g1.foldl (fun p s => payS s 8 p) p).1.getD c 0 = 0
  | [], _, p, h => ⟨h, by simp, fun _ _ h => h⟩
  | s :: g1, hg, p, h => by
    rw [List.foldl_cons]
    have hs := hg s (List.mem_cons_self ..)
    obtain ⟨h1, h2, h3⟩ := payS_spec hd hnz hs 8 p.1 p.2 h (by have := nzc_le p.1; have := h.ok.len; omega)
    obtain ⟨h4, h5, h6⟩ := stl_fold hd hnz g1 (fun x hx => hg x (List.mem_cons_of_mem _ hx)) (payS s 8 p) h1
    refine ⟨h4, fun x hx => ?_, fun c hc hz => h6 c hc (h3 c hc hz)⟩
    rcases List.mem_cons.1 hx with rfl | hx
    · exact fun c hc hb => h6 c hc (h2 c hc hb)
    · exact h5 x hx
structure StlOK (b : List Int) (m : List Debt) : Prop where
  ok : ∀ d ∈ m, okD 1000000000000 d
  bal : balI m = b
  sgn : ∀ d ∈ m, b.getD d.frm.toNat 0 < 0 ∧ 0 < b.getD d.to.toNat 0
  len : m.length + (groupsOf b).length ≤ nzc b
theorem stl_ok {b : List Int} (h : goodI b) : StlOK b (stlI b) := by
  have hsum : sumS b (nzM b) = 0 := by rw [sumS_nz h.2.1]; exact h.2.2
  have hok : GOK (sumS b) (nzM b) (groupsOf b) := grp_ok (sumS b) (nzM b) (nzM_lt b)
  have hnz : ∀ x ∈ groupsOf b, x ≠ 0 := grp_nz (sumS b) (nzM b) (nzM_lt b)
  have hcov : CovS (nzM b) (groupsOf b) := grp_cov b (nzM b) (nzM_lt b) hsum
  have h0 : StS b (groupsOf b) b [] := by
    refine ⟨⟨h.2.1, h.1, fun s hs => (hok.zero s hs).1⟩, fun c _ => by simp, fun c _ => by omega, by simp, ?_⟩
    have : doneN (groupsOf b) b = 0 := by
      unfold doneN
      rw [List.length_eq_zero_iff, List.filter_eq_nil_iff]
      intro s hs hz
      have hz := of_decide_eq_true hz
      obtain ⟨i, hi⟩ := bit_of (hnz s hs)
      have h1 := (hok.zero s hs).2 i hi
      rw [nzM_bit] at h1
      have h1 := of_decide_eq_true h1
      exact h1.2 (hz i h1.1 hi)
    simp only [List.length_nil]; omega
  have e : stlI b = ((groupsOf b).foldl (fun p s => payS s 8 p) (b, [])).2 := by unfold stlI stlTo; rw [List.take_length]
  obtain ⟨h1, h2, _⟩ := stl_fold hok.dis hnz (groupsOf b) (fun _ h => h) (b, []) h0
  rw [e]
  generalize (groupsOf b).foldl (fun p s => payS s 8 p) (b, []) = r at h1 h2
  have hz : ∀ c, c < 8 → r.1.getD c 0 = 0 := fun c hc => by
    by_cases hb : b.getD c 0 = 0
    · have := h1.sgn c hc; omega
    · obtain ⟨s, hs, hsb⟩ := hcov c (by rw [nzM_bit]; exact decide_eq_true ⟨hc, hb⟩)
      exact h2 s hs c hc hsb
  refine ⟨fun d hd => (h1.ds d hd).1, ?_, fun d hd => (h1.ds d hd).2, ?_⟩
  · refine list_ext8 (balI_length _) h.2.1 fun c hc => ?_
    rw [balI_getD _ (fun d hd => (h1.ds d hd).1)]
    have := h1.bal c hc
    have := hz c hc
    omega
  · have hc := h1.cnt
    have : doneN (groupsOf b) r.1 = (groupsOf b).length := by
      unfold doneN
      rw [List.filter_eq_self.2 fun s hs => decide_eq_true (h2 s hs)]
    omega
theorem balP_eq {lim : Int} {p : List Debt} (h : ∀ d ∈ p, okD lim d) : atL (balI p) = balP p := by
  funext c
  exact balI_getD p h c
/-- so many payments at least -/
theorem few_of {lim : Int} {b : List Int} (h : goodI b) {p : List Debt} (hp : ∀ d ∈ p, okD lim d) (hb : balI p = b) : nzc b ≤ (groupsOf b).length + p.length := by
  obtain ⟨k, hk, hl⟩ := few hp
  rw [← balP_eq hp, hb] at hk hl
  rw [nzF_len h.2.1] at hl
  have := (groups_best h).2 k hk
  omega
theorem stl_len {b : List Int} (h : goodI b) : (stlI b).length + (groupsOf b).length = nzc b := by
  have h1 := stl_ok h
  have h2 := few_of h h1.ok h1.bal
  have := h1.len
  omega
theorem stlR_good {b : List Int} (h : goodI b) : stlR b = stlI b := if_pos h
theorem stl_check {b : List Int} (h : goodI b) : CheckP b (stlI b) := by
  have h1 := stl_ok h
  have h2 := stl_len h
  have := nzc_le b
  have := h.2.1
  exact ⟨h, ⟨h1.ok, by omega⟩, h1.bal⟩
/-- nobody both pays and receives -/
theorem stl_sides {b : List Int} (h : goodI b) {d e : Debt} (hd : d ∈ stlI b) (he : e ∈ stlI b) : d.frm ≠ e.to := by
  have h1 := (stl_ok h).sgn d hd
  have h2 := (stl_ok h).sgn e he
  intro hh
  rw [hh] at h1
  omega
theorem check_few {b : List Int} {p : List Debt} (h : CheckP b p) : (stlI b).length ≤ p.length := by
  have h1 := few_of h.1 h.2.1.1 h.2.2
  have := stl_len h.1
  omega
end Go.Proofs.Ytolfgdkdghhidaa
