/- Plain laws of netting: groups with the sum 0, and how few payments settle. No Go in sight. -/
import Derived.Test.Ytolfgdkdghhidaaplain39o
namespace Go.Proofs.Ytolfgdkdghhidaa

theorem nodup_sub : ∀ (l m : List Nat), l.Nodup → (∀ x ∈ l, x ∈ m) → l.length ≤ m.length
  | [], m, _, _ => by simp
  | x :: l, m, h, hs => by
    have hx := hs x (List.mem_cons_self ..)
    obtain ⟨h1, h2⟩ := List.nodup_cons.1 h
    have := nodup_sub l (m.erase x) h2 (fun y hy => (List.mem_erase_of_ne (fun e => by subst e; exact h1 hy)).2 (hs y (List.mem_cons_of_mem _ hy)))
    rw [List.length_erase_of_mem hx] at this
    have := List.length_pos_of_mem hx
    simp only [List.length_cons]; omega

/-! ### Classes -/
/-- what the carriers of a class have together -/
def clsS (b : Nat → Int) (col : Nat → Nat) (j : Nat) : Int := ((List.range 8).map fun c : Nat => if col c = j then b c else 0).sum
structure Pack (b : Nat → Int) (col : Nat → Nat) (L : List Nat) : Prop where
  nodup : L.Nodup
  cls : ∀ j ∈ L, clsS b col j = 0 ∧ ∃ c, c < 8 ∧ col c = j ∧ b c ≠ 0
def HasG (b : Nat → Int) (k : Nat) : Prop := ∃ col L, Pack b col L ∧ L.length = k
abbrev atL (b : List Int) : Nat → Int := fun c => b.getD c 0
def balP (p : List Debt) (c : Nat) : Int := (p.map (inI c)).sum
theorem inI_sum {lim : Int} {d : Debt} (h : okD lim d) (q : Nat → Prop) [DecidablePred q] (hq : q d.frm.toNat ↔ q d.to.toNat) : ((List.range 8).map fun c : Nat => if q c then inI c d else 0).sum = 0 := by
  unfold okD at h
  have e : ∀ c : Nat, (if q c then inI c d else 0) = (if (c : Int) = d.to then (if q c then d.amt else 0) else 0) - (if (c : Int) = d.frm then (if q c then d.amt else 0) else 0) := fun c => by
    unfold inI
    by_cases a0 : q c <;> by_cases a1 : d.to = c <;> by_cases a2 : d.frm = c <;> simp_all <;> omega
  simp only [e]
  rw [sum_sub, sum_pick8 d.to (fun c => if q c then d.amt else 0), sum_pick8 d.frm (fun c => if q c then d.amt else 0), if_pos (show 0 ≤ d.to ∧ d.to < 8 by omega), if_pos (show 0 ≤ d.frm ∧ d.frm < 8 by omega)]
  by_cases hf : q d.frm.toNat
  · rw [if_pos hf, if_pos (hq.1 hf)]; omega
  · rw [if_neg hf, if_neg (fun h => hf (hq.2 h))]; omega
/-- payments join carriers: each takes away one class at most -/
theorem comps {lim : Int} : ∀ (p : List Debt), (∀ d ∈ p, okD lim d) → ∃ (col : Nat → Nat) (L : List Nat), L.Nodup ∧ 8 ≤ L.length + p.length ∧ (∀ j ∈ L, ∃ c, c < 8 ∧ col c = j) ∧ ∀ j, clsS (balP p) col j = 0
  | [], _ => ⟨fun c => c, List.range 8, List.nodup_range, by simp, fun j hj => ⟨j, List.mem_range.1 hj, rfl⟩, fun j => by
      unfold clsS balP
      simp only [List.map_nil, List.sum_nil, ite_self]
      rfl⟩
  | d :: p, h => by
    obtain ⟨col, L, hn, hl, hr, hz⟩ := comps p (fun x hx => h x (List.mem_cons_of_mem _ hx))
    have hd := h d (List.mem_cons_self ..)
    generalize hf : col d.frm.toNat = cf
    generalize ht : col d.to.toNat = ct
    refine ⟨fun c => if col c = ct then cf else col c, if cf = ct then L else L.erase ct, ?_, ?_, ?_, ?_⟩
    · split
      · exact hn
      · exact hn.erase _
    · split
      · simp only [List.length_cons]; omega
      · have := List.length_erase (a := ct) (l := L)
        simp only [List.length_cons]
        split at this <;> omega
    · intro j hj
      split at hj
      · rename_i e
        obtain ⟨c, hc, rfl⟩ := hr j hj
        refine ⟨c, hc, ?_⟩
        simp only []
        split
        · rename_i e2; rw [e, e2]
        · rfl
      · obtain ⟨h1, h2⟩ := hn.mem_erase_iff.1 hj
        obtain ⟨c, hc, rfl⟩ := hr j h2
        exact ⟨c, hc, if_neg h1⟩
    · intro j
      have e1 : ∀ c : Nat, balP (d :: p) c = inI c d + balP p c := fun c => by unfold balP; rw [List.map_cons, List.sum_cons]
      have e2 : clsS (balP (d :: p)) (fun c => if col c = ct then cf else col c) j = ((List.range 8).map fun c : Nat => if (if col c = ct then cf else col c) = j then inI c d else 0).sum + ((List.range 8).map fun c : Nat => if (if col c = ct then cf else col c) = j then balP p c else 0).sum := by
        unfold clsS
        rw [← sum_add]
        refine sum_cong 8 fun c _ => ?_
        rw [e1]
        split <;> omega
      rw [e2, inI_sum hd (fun c => (if col c = ct then cf else col c) = j) (by
        simp only [hf, ht, if_true]
        by_cases e : cf = ct
        · rw [if_pos e]
        · rw [if_neg e])]
      rw [Int.zero_add]
      by_cases e : cf = ct
      · refine Eq.trans ?_ (hz j)
        unfold clsS
        refine sum_cong 8 fun c _ => ?_
        congr 1
        by_cases e3 : col c = ct
        · rw [if_pos e3, e3, e]
        · rw [if_neg e3]
      · by_cases ej : j = cf
        · have e4 : ((List.range 8).map fun c : Nat => if (if col c = ct then cf else col c) = j then balP p c else 0).sum = clsS (balP p) col cf + clsS (balP p) col ct := by
            unfold clsS
            rw [← sum_add]
            refine sum_cong 8 fun c _ => ?_
            subst ej
            by_cases a1 : col c = ct
            · rw [if_pos a1, if_pos rfl, if_neg (by rw [a1]; exact fun h => e h.symm), if_pos a1]; omega
            · rw [if_neg a1, if_neg a1]; omega
          rw [e4, hz, hz]; rfl
        · by_cases et : j = ct
          · have e5 : ((List.range 8).map fun c : Nat => if (if col c = ct then cf else col c) = j then balP p c else 0).sum = ((List.range 8).map fun _ : Nat => (0 : Int)).sum := by
              refine sum_cong 8 fun c _ => ?_
              by_cases a1 : col c = ct
              · rw [if_pos a1, if_neg (fun h => ej h.symm)]
              · rw [if_neg a1, if_neg (fun h => a1 (h.trans et))]
            rw [e5]; rfl
          · refine Eq.trans ?_ (hz j)
            unfold clsS
            refine sum_cong 8 fun c _ => ?_
            by_cases a1 : col c = ct
            · rw [if_pos a1, if_neg (fun h => ej h.symm), if_neg (fun h => et (h.symm.trans a1))]
            · rw [if_neg a1]
def nzF (b : Nat → Int) : List Nat := (List.range 8).filter fun c => decide (b c ≠ 0)
theorem filt_len {α : Type} (p : α → Bool) : ∀ l : List α, l.length = (l.filter p).length + (l.filter fun x => !p x).length
  | [] => rfl
  | x :: l => by
    have := filt_len p l
    by_cases h : p x = true
    · simp [h]; omega
    · simp [h]; omega
/-- payments are at least as many as carriers that have something, less groups -/
theorem few {lim : Int} {p : List Debt} (h : ∀ d ∈ p, okD lim d) : ∃ k, HasG (balP p) k ∧ (nzF (balP p)).length ≤ k + p.length := by
  obtain ⟨col, L, hn, hl, hr, hz⟩ := comps p h
  generalize balP p = b at *
  refine ⟨(L.filter fun j => (List.range 8).any fun c => decide (col c = j ∧ b c ≠ 0)).length, ⟨col, _, ⟨hn.filter _, fun j hj => ?_⟩, rfl⟩, ?_⟩
  · obtain ⟨_, hj⟩ := List.mem_filter.1 hj
    refine ⟨hz j, ?_⟩
    rw [List.any_eq_true] at hj
    obtain ⟨c, hc, hp⟩ := hj
    have hp := of_decide_eq_true hp
    exact ⟨c, List.mem_range.1 hc, hp.1, hp.2⟩
  · have h1 := filt_len (fun j => (List.range 8).any fun c => decide (col c = j ∧ b c ≠ 0)) L
    have h2 := filt_len (fun c => decide (b c ≠ 0)) (List.range 8)
    simp only [List.length_range] at h2
    have h3 := nodup_sub (L.filter fun j => !((List.range 8).any fun c => decide (col c = j ∧ b c ≠ 0))) (((List.range 8).filter fun c => !decide (b c ≠ 0)).map col) (hn.filter _) (fun j hj => by
      obtain ⟨hj, hnj⟩ := List.mem_filter.1 hj
      obtain ⟨c, hc, rfl⟩ := hr j hj
      refine List.mem_map.2 ⟨c, List.mem_filter.2 ⟨List.mem_range.2 hc, ?_⟩, rfl⟩
      simp only [Bool.not_eq_true', decide_eq_false_iff_not]
      intro hne
      simp only [Bool.not_eq_true'] at hnj
      rw [List.any_eq_false] at hnj
      exact hnj c (List.mem_range.2 hc) (decide_eq_true ⟨rfl, hne⟩))
    rw [List.length_map] at h3
    unfold nzF
    omega
theorem nzF_len {b : List Int} (h : b.length = 8) : (nzF (atL b)).length = nzc b := by
  have key : ∀ l : List Int, ((List.range l.length).filter fun c => decide (l.getD c 0 ≠ 0)).length = (l.filter fun x => x != 0).length := by
    intro l
    induction l with
    | nil => rfl
    | cons x l ih =>
      rw [List.length_cons, List.range_succ_eq_map]
      have e : (List.map Nat.succ (List.range l.length)).filter (fun c => decide ((x :: l).getD c 0 ≠ 0)) = ((List.range l.length).filter fun c => decide (l.getD c 0 ≠ 0)).map Nat.succ := by
        rw [List.filter_map]; congr 1
      by_cases hx : x = 0
      · subst hx
        rw [List.filter_cons_of_neg (by simp), List.filter_cons_of_neg (by simp), e, List.length_map, ih]
      · rw [List.filter_cons_of_pos (by simpa using hx), List.filter_cons_of_pos (by simpa using hx), List.length_cons, List.length_cons, e, List.length_map, ih]
  unfold nzF nzc
  rw [← key, h]

/-! ### The best groups -/
structure PK (g : Nat → Int) (all : Nat) (gs : List Nat) : Prop where
  zero : ∀ s ∈ gs, g s = 0 ∧ Sub2 s all ∧ s ≠ 0
  dis : gs.Pairwise Dis
theorem Dis.symm {s t : Nat} (h : Dis s t) : Dis t s := fun i hi => by
  cases hs : s.testBit i with
  | false => rfl
  | true => have := h i hs; rw [hi] at this; cases this
theorem sumS_drop (b : List Int) {all s : Nat} (h : Sub2 s all) : sumS b (dropS all s) = sumS b all - sumS b s := by
  unfold sumS
  rw [← sum_sub]
  refine sum_cong 8 fun c _ => ?_
  rw [dropS_bit]
  cases hs : s.testBit c with
  | false => simp
  | true => rw [h c hs]; simp
def remS (all : Nat) (t : List Nat) : Nat := t.foldl dropS all
theorem remS_spec (b : List Int) : ∀ (t : List Nat) (all : Nat), (∀ s ∈ t, sumS b s = 0 ∧ Sub2 s all) → t.Pairwise Dis → sumS b all = 0 →
    sumS b (remS all t) = 0 ∧ ∀ i, (remS all t).testBit i = true ↔ all.testBit i = true ∧ ∀ s ∈ t, s.testBit i = false
  | [], all, _, _, h => ⟨h, fun i => by simp [remS]⟩
  | s :: t, all, hs, hd, h => by
    obtain ⟨h1, h2⟩ := List.pairwise_cons.1 hd
    have h0 := hs s (List.mem_cons_self ..)
    have := remS_spec b t (dropS all s) (fun x hx => ⟨(hs x (List.mem_cons_of_mem _ hx)).1, fun i hi => by
      rw [dropS_bit, (hs x (List.mem_cons_of_mem _ hx)).2 i hi, (h1 x hx).symm i hi]; rfl⟩) h2 (by rw [sumS_drop b h0.2, h, h0.1]; rfl)
    refine ⟨this.1, fun i => ?_⟩
    show (remS (dropS all s) t).testBit i = true ↔ _
    rw [this.2 i, dropS_bit]
    simp only [Bool.and_eq_true, Bool.not_eq_true', List.mem_cons, forall_eq_or_imp]
    exact ⟨fun ⟨⟨a, b⟩, c⟩ => ⟨a, b, c⟩, fun ⟨a, b, c⟩ => ⟨⟨a, b⟩, c⟩⟩
theorem gstep_len (g : Nat → Int) (rec : Nat → List Nat) (all c : Nat) (b : List Nat) (s : Nat) : b.length ≤ (gstep g rec all c b s).length := by
  unfold gstep
  split
  · omega
  · split
    · simp only [List.length_cons]; omega
    · omega
theorem fold_ge (g : Nat → Int) (rec : Nat → List Nat) (all c : Nat) : ∀ (l b : List Nat), b.length ≤ (l.foldl (gstep g rec all c) b).length ∧ ∀ x ∈ l, g (x ||| 2 ^ c) = 0 → (rec (dropS all (x ||| 2 ^ c))).length + 1 ≤ (l.foldl (gstep g rec all c) b).length
  | [], b => ⟨Nat.le_refl _, by simp⟩
  | s :: l, b => by
    obtain ⟨h1, h2⟩ := fold_ge g rec all c l (gstep g rec all c b s)
    rw [List.foldl_cons]
    refine ⟨Nat.le_trans (gstep_len g rec all c b s) h1, fun x hx hz => ?_⟩
    rcases List.mem_cons.1 hx with rfl | hx
    · refine Nat.le_trans ?_ h1
      unfold gstep
      rw [if_neg (by simpa using hz)]
      split
      · simp only [List.length_cons]; omega
      · omega
    · exact h2 x hx hz
theorem or_drop {s c : Nat} (h : s.testBit c = true) : dropS s (2 ^ c) ||| 2 ^ c = s := by
  apply Nat.eq_of_testBit_eq
  intro i
  rw [Nat.testBit_or, dropS_bit, pow_bit]
  by_cases e : c = i
  · subst e; simp [h]
  · simp [e]
theorem drop_mem {all s c : Nat} (h8 : all < 256) (h : Sub2 s all) : dropS s (2 ^ c) ∈ subsL (dropS all (2 ^ c)) := by
  rw [mem_subs]
  have hand : ∀ i, (dropS s (2 ^ c) &&& dropS all (2 ^ c)).testBit i = (dropS s (2 ^ c)).testBit i := fun i => by
    rw [Nat.testBit_and, dropS_bit, dropS_bit]
    cases hs : s.testBit i with
    | false => simp
    | true => rw [h i hs]; simp
  have e := Nat.eq_of_testBit_eq hand
  refine ⟨?_, e⟩
  have h1 : dropS s (2 ^ c) ≤ dropS all (2 ^ c) := by rw [← e]; exact Nat.and_le_right
  have := dropS_le all (2 ^ c)
  omega
theorem sub_zero {s : Nat} (h : Sub2 s 0) : s = 0 := by
  apply Nat.eq_of_testBit_eq
  intro i
  rw [Nat.zero_testBit]
  cases hs : s.testBit i with
  | false => rfl
  | true => have := h i hs; simp at this
theorem bit_of {s : Nat} (h : s ≠ 0) : ∃ i, s.testBit i = true := by
  false_or_by_contra
  rename_i hn
  exact h (Nat.eq_of_testBit_eq fun i => by
    rw [Nat.zero_testBit]
    cases hs : s.testBit i with
    | false => rfl
    | true => exact absurd ⟨i, hs⟩ hn)
theorem opt (b : List Int) : ∀ (all : Nat), all < 256 → sumS b all = 0 → ∀ gs, PK (sumS b) all gs → gs.length ≤ (grpS (sumS b) all).length := by
  intro all
  induction all using Nat.strongRecOn with
  | _ all ih =>
    intro h8 hsum gs hp
    by_cases h0 : all = 0
    · subst h0
      cases gs with
      | nil => simp
      | cons s t =>
        have := hp.zero s (List.mem_cons_self ..)
        exact absurd (sub_zero this.2.1) this.2.2
    · have hl := low_spec h0 h8
      -- with a group of the first one in front
      have main : ∀ (s : Nat) (t : List Nat), PK (sumS b) all (s :: t) → s.testBit (low all) = true → (s :: t).length ≤ (grpS (sumS b) all).length := by
        intro s t hp hs
        obtain ⟨hz, hsub, hne⟩ := hp.zero s (List.mem_cons_self ..)
        obtain ⟨d1, d2⟩ := List.pairwise_cons.1 hp.dis
        have h1 := ih (dropS all s) (dropS_lt hl.2.1 hs) (by have := dropS_le all s; omega) (by rw [sumS_drop b hsub, hsum, hz]; rfl) t ⟨fun x hx => by
          have := hp.zero x (List.mem_cons_of_mem _ hx)
          exact ⟨this.1, fun i hi => by rw [dropS_bit, this.2.1 i hi, (d1 x hx).symm i hi]; rfl, this.2.2⟩, d2⟩
        rw [grpS_eq _ h0 h8]
        unfold bestTo
        rw [List.take_length]
        have h2 := (fold_ge (sumS b) (grpS (sumS b)) all (low all) (subsL (dropS all (2 ^ low all))) []).2 _ (drop_mem (c := low all) h8 hsub) (by rw [or_drop hs]; exact hz)
        rw [or_drop hs] at h2
        simp only [List.length_cons]; omega
      by_cases hex : ∃ s ∈ gs, s.testBit (low all) = true
      · obtain ⟨s, hs, hb⟩ := hex
        have pm := List.perm_cons_erase hs
        rw [pm.length_eq]
        exact main s _ ⟨fun x hx => hp.zero x (pm.mem_iff.2 hx), pm.pairwise hp.dis (fun h => h.symm)⟩ hb
      · cases gs with
        | nil => simp
        | cons s t =>
          obtain ⟨d1, d2⟩ := List.pairwise_cons.1 hp.dis
          obtain ⟨r1, r2⟩ := remS_spec b t all (fun x hx => ⟨(hp.zero x (List.mem_cons_of_mem _ hx)).1, (hp.zero x (List.mem_cons_of_mem _ hx)).2.1⟩) d2 hsum
          have hlow : (remS all t).testBit (low all) = true := (r2 _).2 ⟨hl.2.1, fun x hx => by
            cases hxb : x.testBit (low all) with
            | false => rfl
            | true => exact absurd ⟨x, List.mem_cons_of_mem _ hx, hxb⟩ hex⟩
          have := main (remS all t) t ⟨fun x hx => by
            rcases List.mem_cons.1 hx with rfl | hx
            · exact ⟨r1, fun i hi => ((r2 i).1 hi).1, fun e => by rw [e] at hlow; simp at hlow⟩
            · exact hp.zero x (List.mem_cons_of_mem _ hx), List.pairwise_cons.2 ⟨fun x hx i hi => ((r2 i).1 hi).2 x hx, d2⟩⟩ hlow
          simpa using this
theorem fold_nz (g : Nat → Int) (rec : Nat → List Nat) (all c : Nat) (hr : ∀ s, s.testBit c = true → ∀ x ∈ rec (dropS all s), x ≠ 0) :
    ∀ (l b : List Nat), (∀ x ∈ b, x ≠ 0) → ∀ x ∈ l.foldl (gstep g rec all c) b, x ≠ 0
  | [], b, h => h
  | s :: l, b, h => by
    rw [List.foldl_cons]
    refine fold_nz g rec all c hr l _ ?_
    have hb : (s ||| 2 ^ c).testBit c = true := by rw [Nat.testBit_or, pow_bit]; simp
    unfold gstep
    split
    · exact h
    · split
      · intro x hx
        rcases List.mem_cons.1 hx with rfl | hx
        · intro e; rw [e] at hb; simp at hb
        · exact hr _ hb x hx
      · exact h
theorem grp_nz (g : Nat → Int) : ∀ (all : Nat), all < 256 → ∀ x ∈ grpS g all, x ≠ 0 := by
  intro all
  induction all using Nat.strongRecOn with
  | _ all ih =>
    intro h8
    by_cases h0 : all = 0
    · subst h0; simp [grpS_zero]
    · have hl := low_spec h0 h8
      rw [grpS_eq g h0 h8]
      unfold bestTo
      rw [List.take_length]
      exact fold_nz g _ all _ (fun s hs => ih _ (dropS_lt hl.2.1 hs) (by have := dropS_le all s; omega)) _ _ (by simp)
/-- the groups cover all -/
def CovS (all : Nat) (gs : List Nat) : Prop := ∀ i, all.testBit i = true → ∃ s ∈ gs, s.testBit i = true
theorem fold_cov (g : Nat → Int) (rec : Nat → List Nat) (all c : Nat) (hc : all.testBit c = true) (hr : ∀ s, s.testBit c = true → Sub2 s all → g s = 0 → CovS (dropS all s) (rec (dropS all s))) :
    ∀ (l b : List Nat), (∀ x ∈ l, Sub2 x all) → (b = [] ∨ CovS all b) → (l.foldl (gstep g rec all c) b = [] ∨ CovS all (l.foldl (gstep g rec all c) b))
  | [], b, _, h => h
  | s :: l, b, hl, h => by
    rw [List.foldl_cons]
    refine fold_cov g rec all c hc hr l _ (fun x hx => hl x (List.mem_cons_of_mem _ hx)) ?_
    have hset : Sub2 (s ||| 2 ^ c) all := sub_or (hl s (List.mem_cons_self ..)) (sub_pow hc)
    have hb : (s ||| 2 ^ c).testBit c = true := by rw [Nat.testBit_or, pow_bit]; simp
    unfold gstep
    split
    · exact h
    · rename_i hz
      split
      · right
        intro i hi
        by_cases hs : (s ||| 2 ^ c).testBit i = true
        · exact ⟨_, List.mem_cons_self .., hs⟩
        · obtain ⟨x, hx, hxb⟩ := hr _ hb hset (Decidable.not_not.1 hz) i (by rw [dropS_bit, hi]; simpa using hs)
          exact ⟨x, List.mem_cons_of_mem _ hx, hxb⟩
      · exact h
theorem grp_cov (b : List Int) : ∀ (all : Nat), all < 256 → sumS b all = 0 → CovS all (grpS (sumS b) all) := by
  intro all
  induction all using Nat.strongRecOn with
  | _ all ih =>
    intro h8 hsum
    by_cases h0 : all = 0
    · subst h0; intro i hi; simp at hi
    · have hl := low_spec h0 h8
      have hge := opt b all h8 hsum [all] ⟨fun s hs => by rw [List.mem_singleton] at hs; subst hs; exact ⟨hsum, fun _ h => h, h0⟩, by simp⟩
      rw [grpS_eq _ h0 h8] at hge ⊢
      unfold bestTo at hge ⊢
      rw [List.take_length] at hge ⊢
      rcases fold_cov (sumS b) (grpS (sumS b)) all (low all) hl.2.1 (fun s hs hsub hz => ih _ (dropS_lt hl.2.1 hs) (by have := dropS_le all s; omega) (by rw [sumS_drop b hsub, hsum, hz]; rfl)) (subsL (dropS all (2 ^ low all))) [] (fun x hx => (sub_subs hx).trans (sub_drop _ _)) (.inl rfl) with h | h
      · rw [h] at hge; simp at hge
      · exact h
theorem nzM_lt (b : List Int) : nzM b < 256 := nzTo_lt b 8
theorem nzM_bit (b : List Int) (i : Nat) : (nzM b).testBit i = decide (i < 8 ∧ b.getD i 0 ≠ 0) := nzTo_bit b 8 i
theorem sum_list8 {b : List Int} (h : b.length = 8) : b.sum = ((List.range 8).map fun c : Nat => b.getD c 0).sum := by
  have key : ∀ (m : List Int), m.sum = ((List.range m.length).map fun c : Nat => m.getD c 0).sum := by
    intro m
    induction m with
    | nil => rfl
    | cons x m ih => rw [List.length_cons, List.range_succ_eq_map, List.map_cons, List.sum_cons, List.map_map, List.sum_cons, ih]; rfl
  rw [key, h]
theorem sumS_nz {b : List Int} (h : b.length = 8) : sumS b (nzM b) = b.sum := by
  rw [sum_list8 h]
  unfold sumS
  refine sum_cong 8 fun c hc => ?_
  rw [nzM_bit]
  by_cases e : b.getD c 0 = 0
  · rw [e]; simp
  · rw [decide_eq_true (p := c < 8 ∧ b.getD c 0 ≠ 0) ⟨hc, e⟩]; simp
def mskC (b : Nat → Int) (col : Nat → Nat) (j : Nat) : Nat := nzM ((List.range 8).map fun c => if col c = j ∧ b c ≠ 0 then 1 else 0)
theorem mskC_bit (b : Nat → Int) (col : Nat → Nat) (j i : Nat) : (mskC b col j).testBit i = decide (i < 8 ∧ col i = j ∧ b i ≠ 0) := by
  unfold mskC
  rw [nzM_bit]
  by_cases hi : i < 8
  · have : ((List.range 8).map fun c => if col c = j ∧ b c ≠ 0 then (1 : Int) else 0).getD i 0 = if col i = j ∧ b i ≠ 0 then 1 else 0 := by
      rw [List.getD_eq_getElem?_getD, List.getElem?_map, List.getElem?_range hi]; rfl
    rw [this]
    by_cases h : col i = j ∧ b i ≠ 0
    · rw [if_pos h, decide_eq_true (p := i < 8 ∧ (1 : Int) ≠ 0) ⟨hi, by decide⟩, decide_eq_true ⟨hi, h⟩]
    · rw [if_neg h, decide_eq_false (p := i < 8 ∧ (0 : Int) ≠ 0) (fun hh => hh.2 rfl), decide_eq_false (fun hh => h hh.2)]
  · rw [decide_eq_false (fun hh => hi hh.1), decide_eq_false (fun hh => hi hh.1)]
theorem sumS_msk (b : List Int) (col : Nat → Nat) (j : Nat) : sumS b (mskC (atL b) col j) = clsS (atL b) col j := by
  unfold sumS clsS
  refine sum_cong 8 fun c hc => ?_
  rw [mskC_bit]
  by_cases h1 : col c = j
  · rw [if_pos h1]
    by_cases h2 : b.getD c 0 = 0
    · show _ = b.getD c 0
      rw [h2]; simp
    · rw [decide_eq_true (p := c < 8 ∧ col c = j ∧ atL b c ≠ 0) ⟨hc, h1, h2⟩]; simp
  · rw [if_neg h1, decide_eq_false (fun hh => h1 hh.2.1)]; simp
/-- groupsOf is a packing, and no other one has more groups -/
theorem groups_best {b : List Int} (h : goodI b) : HasG (atL b) (groupsOf b).length ∧ ∀ k, HasG (atL b) k → k ≤ (groupsOf b).length := by
  have hsum : sumS b (nzM b) = 0 := by rw [sumS_nz h.2.1]; exact h.2.2
  have hok : GOK (sumS b) (nzM b) (groupsOf b) := grp_ok (sumS b) (nzM b) (nzM_lt b)
  have hnz : ∀ x ∈ groupsOf b, x ≠ 0 := grp_nz (sumS b) (nzM b) (nzM_lt b)
  refine ⟨⟨fun c => ((groupsOf b).find? fun s => s.testBit c).getD 256, groupsOf b, ⟨?_, fun s hs => ?_⟩, rfl⟩, ?_⟩
  · refine List.Pairwise.imp_of_mem (fun {x y} hx _ hd e => ?_) hok.dis
    subst e
    obtain ⟨i, hi⟩ := bit_of (hnz x hx)
    have := hd i hi
    rw [hi] at this; cases this
  · have hcol : ∀ c, c < 8 → ((((groupsOf b).find? fun s => s.testBit c).getD 256 = s) ↔ s.testBit c = true) := by
      intro c hc
      cases hf : (groupsOf b).find? fun s => s.testBit c with
      | none =>
        rw [List.find?_eq_none] at hf
        have h1 := hf s hs
        refine ⟨fun e => ?_, fun e => absurd e h1⟩
        rw [Option.getD_none] at e
        have h2 : s ≤ nzM b := by
          apply Nat.le_of_testBit
          exact (hok.zero s hs).2
        have := nzM_lt b
        omega
      | some s' =>
        rw [Option.getD_some]
        have h1 := List.mem_of_find?_eq_some hf
        have h2 := List.find?_some hf
        refine ⟨fun e => by subst e; simpa using h2, fun e => ?_⟩
        obtain ⟨i, hi, ei⟩ := List.mem_iff_getElem.1 hs
        obtain ⟨k, hk, ek⟩ := List.mem_iff_getElem.1 h1
        have hp := List.pairwise_iff_getElem.1 hok.dis
        rcases Nat.lt_trichotomy i k with hlt | hlt | hlt
        · have := hp i k hi hk hlt c (by rw [ei]; exact e)
          rw [ek] at this; rw [this] at h2; simp at h2
        · subst hlt; exact ek.symm.trans ei
        · have := hp k i hk hi hlt c (by rw [ek]; simpa using h2)
          rw [ei] at this; rw [this] at e; cases e
    constructor
    · have : clsS (atL b) (fun c => ((groupsOf b).find? fun s => s.testBit c).getD 256) s = sumS b s := by
        unfold clsS sumS
        refine sum_cong 8 fun c hc => ?_
        by_cases e : s.testBit c = true
        · rw [if_pos ((hcol c hc).2 e), if_pos e]
        · rw [if_neg (fun hh => e ((hcol c hc).1 hh)), if_neg e]
      rw [this]; exact (hok.zero s hs).1
    · obtain ⟨i, hi⟩ := bit_of (hnz s hs)
      have := (hok.zero s hs).2 i hi
      rw [nzM_bit] at this
      have := of_decide_eq_true this
      exact ⟨i, this.1, (hcol i this.1).2 hi, this.2⟩
  · rintro k ⟨col, L, hp, rfl⟩
    have := opt b (nzM b) (nzM_lt b) hsum (L.map (mskC (atL b) col)) ⟨fun s hs => ?_, ?_⟩
    · rwa [List.length_map] at this
    · obtain ⟨j, hj, rfl⟩ := List.mem_map.1 hs
      obtain ⟨hz, c, hc, h1, h2⟩ := hp.cls j hj
      refine ⟨by rw [sumS_msk]; exact hz, fun i hi => ?_, fun e => ?_⟩
      · rw [mskC_bit] at hi
        rw [nzM_bit]
        have hi := of_decide_eq_true hi
        exact decide_eq_true ⟨hi.1, hi.2.2⟩
      · have := mskC_bit (atL b) col j c
        rw [e, decide_eq_true ⟨hc, h1, h2⟩] at this
        simp at this
    · rw [List.pairwise_map]
      refine List.Pairwise.imp (fun {x y} hne i hi => ?_) hp.nodup
      rw [mskC_bit] at hi ⊢
      have hi := of_decide_eq_true hi
      exact decide_eq_false (fun hh => hne (hi.2.1.symm.trans hh.2.1))
end Go.Proofs.Ytolfgdkdghhidaa
