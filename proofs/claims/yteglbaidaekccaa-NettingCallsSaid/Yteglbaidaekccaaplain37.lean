/- Plain laws of tariffs: what a spell costs. No Go in sight. -/
import Derived.Test.YteglbaidaekccaaP39
namespace Go.Proofs.Yteglbaidaekccaa
structure Rate where
  days : Int
  frm : Int
  to : Int
  price : Int
deriving DecidableEq
instance : Inhabited Rate := ⟨⟨0, 0, 0, 0⟩⟩
def okR (r : Rate) : Prop := (1 ≤ r.days ∧ r.days ≤ 127) ∧ 0 ≤ r.frm ∧ (r.frm + 1 ≤ r.to ∧ r.to ≤ 86400) ∧ r.frm < 86400 ∧ (0 ≤ r.price ∧ r.price ≤ 1000000)
instance (r : Rate) : Decidable (okR r) := by unfold okR; infer_instance
def tarOK (b : Int) (l : List Rate) : Prop := (0 ≤ b ∧ b ≤ 1000000) ∧ l.length ≤ 10 ∧ ∀ r ∈ l, okR r
instance (b : Int) (l : List Rate) : Decidable (tarOK b l) := by unfold tarOK; infer_instance
def zoneOK (o : Int) : Prop := -50400 ≤ o ∧ o ≤ 50400
instance (o : Int) : Decidable (zoneOK o) := by unfold zoneOK; infer_instance
def bitD (days k : Int) : Prop := days.toNat / 2 ^ k.toNat % 2 = 1
instance (days k : Int) : Decidable (bitD days k) := by unfold bitD; infer_instance
def hitR (s : Int) (r : Rate) : Prop := bitD r.days (s / 86400) ∧ r.frm ≤ s % 86400 ∧ s % 86400 ≤ r.to - 1
instance (s : Int) : DecidablePred (hitR s) := fun r => by unfold hitR; infer_instance
def rateI (b : Int) (l : List Rate) (s : Int) : Int := if idxI (hitR s) l < 0 then b else (l.getD (idxI (hitR s) l).toNat default).price
def locI (o t : Int) : Int := (t + o + 604800) % 604800
theorem rate_bd {b : Int} {l : List Rate} (h : tarOK b l) (s : Int) : 0 ≤ rateI b l s ∧ rateI b l s ≤ 1000000 := by
  unfold rateI
  split
  · exact h.1
  · rcases idxI_spec (hitR s) l with ⟨e, _⟩ | ⟨k, d, e, hk, _, _⟩
    · omega
    · rw [e, Int.toNat_natCast, List.getD_eq_getElem?_getD, hk]
      exact (h.2.2 d (List.mem_of_getElem? hk)).2.2.2.2
theorem idxI_cong {α : Type} {p q : α → Prop} [DecidablePred p] [DecidablePred q] {l : List α} (h : ∀ x ∈ l, p x ↔ q x) : idxI p l = idxI q l := by
  unfold idxI
  have : l.findIdx? (fun x => decide (p x)) = l.findIdx? (fun x => decide (q x)) := by
    induction l with
    | nil => rfl
    | cons x l ih =>
      rw [List.findIdx?_cons, List.findIdx?_cons, ih (fun y hy => h y (List.mem_cons_of_mem _ hy)), decide_eq_decide.2 (h x (List.mem_cons_self ..))]
  rw [this]
/-- the price is the same, where no rate begins or ends -/
theorem rate_same {b : Int} {l : List Rate} {s t : Int} (hd : s / 86400 = t / 86400) (h : ∀ r ∈ l, (r.frm ≤ s % 86400 ↔ r.frm ≤ t % 86400) ∧ (s % 86400 ≤ r.to - 1 ↔ t % 86400 ≤ r.to - 1)) : rateI b l s = rateI b l t := by
  have e : idxI (hitR s) l = idxI (hitR t) l := idxI_cong fun r hr => by
    unfold hitR
    rw [hd, (h r hr).1, (h r hr).2]
  unfold rateI
  rw [e]
/-! ### The next change -/
def nxtC (l : List Int) (u : Int) : Int := if l.countP (fun x => decide (x < u + 1)) < l.length then l.getD (l.countP fun x => decide (x < u + 1)) 0 else 86400
theorem sorted_count {l : List Int} (h : l.Pairwise (· ≤ ·)) (v : Int) : ∀ j x, l[j]? = some x → (x < v ↔ j < l.countP (fun x => decide (x < v))) := by
  induction l with
  | nil => intro j x hj; simp at hj
  | cons a l ih =>
    obtain ⟨h1, h2⟩ := List.pairwise_cons.1 h
    intro j x hj
    by_cases ha : a < v
    · rw [List.countP_cons_of_pos (by simpa using ha)]
      cases j with
      | zero => simp at hj; subst hj; exact ⟨fun _ => by omega, fun _ => ha⟩
      | succ j => rw [ih h2 j x (by simpa using hj)]; omega
    · rw [List.countP_cons_of_neg (by simpa using ha)]
      have h0 : l.countP (fun x => decide (x < v)) = 0 := by
        rw [List.countP_eq_zero]
        intro y hy
        have := h1 y hy
        simp; omega
      rw [h0]
      cases j with
      | zero => simp at hj; subst hj; exact ⟨fun h => absurd h ha, fun h => by omega⟩
      | succ j =>
        have := h1 x (List.mem_of_getElem? (by simpa using hj))
        exact ⟨fun h => by omega, fun h => by omega⟩
theorem nxtC_spec {l : List Int} (h : l.Pairwise (· ≤ ·)) (hb : ∀ x ∈ l, x < 86400) {u : Int} (hu : u < 86400) : u < nxtC l u ∧ nxtC l u ≤ 86400 ∧ ∀ x ∈ l, x ≤ u ∨ nxtC l u ≤ x := by
  unfold nxtC
  have hc := sorted_count h (u + 1)
  by_cases hlt : l.countP (fun x => decide (x < u + 1)) < l.length
  · rw [if_pos hlt]
    have hg : l[l.countP fun x => decide (x < u + 1)]? = some (l.getD (l.countP fun x => decide (x < u + 1)) 0) := by
      rw [List.getD_eq_getElem?_getD, List.getElem?_eq_getElem hlt]; rfl
    have h1 := hc _ _ hg
    have h2 := hb _ (List.mem_of_getElem? hg)
    refine ⟨by omega, by omega, fun x hx => ?_⟩
    obtain ⟨j, hj, rfl⟩ := List.mem_iff_getElem.1 hx
    have hj' := List.getElem?_eq_getElem hj
    have h3 := hc j _ hj'
    by_cases hju : j < l.countP fun x => decide (x < u + 1)
    · left; have := h3.2 hju; omega
    · right
      by_cases e : j = l.countP fun x => decide (x < u + 1)
      · have : l[j] = l.getD (l.countP fun x => decide (x < u + 1)) 0 := by
          rw [← e, List.getD_eq_getElem?_getD, hj']; rfl
        omega
      · have hp := List.pairwise_iff_getElem.1 h _ j hlt hj (by omega)
        rw [List.getD_eq_getElem?_getD, List.getElem?_eq_getElem hlt]
        exact hp
  · rw [if_neg hlt]
    refine ⟨hu, Int.le_refl _, fun x hx => ?_⟩
    left
    obtain ⟨j, hj, rfl⟩ := List.mem_iff_getElem.1 hx
    have := (hc j _ (List.getElem?_eq_getElem hj)).2 (by omega)
    omega
/-- the list has all places at which a price can change -/
structure ChOK (l : List Rate) (c : List Int) : Prop where
  sorted : c.Pairwise (· ≤ ·)
  bd : ∀ x ∈ c, 0 ≤ x ∧ x < 86400
  has : ∀ r ∈ l, r.frm ∈ c ∧ r.to % 86400 ∈ c
/-- what is left of a spell behind a time, to the next change -/
def nxtT (o : Int) (c : List Int) (e t : Int) : Int := min (t + nxtC c (locI o t % 86400) - locI o t % 86400) e
theorem nxtT_spec {b o : Int} {l : List Rate} {c : List Int} (hl : tarOK b l) (ho : zoneOK o) (hc : ChOK l c) {t e : Int} (ht : 0 ≤ t) (he : t < e) : t < nxtT o c e t ∧ nxtT o c e t ≤ e ∧ ∀ u, t ≤ u → u < nxtT o c e t → rateI b l (locI o u) = rateI b l (locI o t) := by
  have h86 : locI o t % 86400 < 86400 := by omega
  have h0 : 0 ≤ locI o t % 86400 := by omega
  obtain ⟨n1, n2, n3⟩ := nxtC_spec hc.sorted (fun x hx => (hc.bd x hx).2) h86
  unfold nxtT
  unfold zoneOK at ho
  refine ⟨by omega, by omega, fun u hu1 hu2 => ?_⟩
  have hu3 : u < t + nxtC c (locI o t % 86400) - locI o t % 86400 := by omega
  generalize hN : nxtC c (locI o t % 86400) = N at *
  have e1 : locI o u = locI o t + (u - t) := by unfold locI at *; omega
  have e2 : locI o u % 86400 = locI o t % 86400 + (u - t) := by omega
  refine rate_same (by omega) fun r hr => ?_
  have hr1 := hl.2.2 r hr
  unfold okR at hr1
  obtain ⟨m1, m2⟩ := hc.has r hr
  have h1 := n3 _ m1
  have h2 := n3 _ m2
  rw [e2]
  constructor
  · constructor <;> intro h <;> omega
  · constructor <;> intro h <;> omega
/-! ### Sums -/
def priceT (b : Int) (l : List Rate) (o : Int) (t : Nat) : Int := rateI b l (locI o t)
def sumP (b : Int) (l : List Rate) (o : Int) (n : Nat) : Int := ((List.range n).map (priceT b l o)).sum
theorem sumP_succ (b : Int) (l : List Rate) (o : Int) (n : Nat) : sumP b l o (n + 1) = sumP b l o n + priceT b l o n := by
  unfold sumP; rw [List.range_succ, List.map_append, List.sum_append]; simp
theorem sumP_seg {b : Int} {l : List Rate} {o v : Int} {m : Nat} : ∀ n, m ≤ n → (∀ u, m ≤ u → u < n → priceT b l o u = v) → sumP b l o n = sumP b l o m + v * ((n : Int) - m)
  | 0, h, _ => by have : m = 0 := by omega
                  subst this; simp
  | n + 1, h, hp => by
    by_cases e : m = n + 1
    · subst e; simp
    · rw [sumP_succ, sumP_seg n (by omega) (fun u h1 h2 => hp u h1 (by omega)), hp n (by omega) (by omega)]
      rw [show (((n + 1 : Nat) : Int) - m) = ((n : Int) - m) + 1 by omega, Int.mul_add]
      omega
theorem sumP_mono {b : Int} {l : List Rate} (h : tarOK b l) (o : Int) {m : Nat} : ∀ n, m ≤ n → sumP b l o m ≤ sumP b l o n ∧ sumP b l o n ≤ sumP b l o m + 1000000 * ((n : Int) - m)
  | 0, hm => by have : m = 0 := by omega
                subst this; simp
  | n + 1, hm => by
    by_cases e : m = n + 1
    · subst e; simp
    · have ih := sumP_mono h o (m := m) n (by omega)
      have := rate_bd h (locI o n)
      rw [sumP_succ]
      unfold priceT
      omega
theorem sumP_week (b : Int) (l : List Rate) (o : Int) : ∀ n, sumP b l o (n + 604800) = sumP b l o n + sumP b l o 604800
  | 0 => by rw [Nat.zero_add]; show _ = 0 + _; omega
  | n + 1 => by
    have e : priceT b l o (n + 604800) = priceT b l o n := by
      unfold priceT
      congr 1
      unfold locI
      omega
    rw [show n + 1 + 604800 = (n + 604800) + 1 by omega, sumP_succ b l o (n + 604800), sumP_week b l o n, sumP_succ b l o n, e]; omega
theorem sumP_weeks (b : Int) (l : List Rate) (o : Int) (n : Nat) : ∀ w : Nat, sumP b l o (n + w * 604800) = sumP b l o n + w * sumP b l o 604800
  | 0 => by simp
  | w + 1 => by
    rw [show n + (w + 1) * 604800 = (n + w * 604800) + 604800 by omega, sumP_week, sumP_weeks b l o n w]
    rw [show ((w + 1 : Nat) : Int) = (w : Int) + 1 by omega, Int.add_mul]; omega
end Go.Proofs.Yteglbaidaekccaa
