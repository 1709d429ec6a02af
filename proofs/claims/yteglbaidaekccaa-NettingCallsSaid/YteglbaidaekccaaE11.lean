/- Regions that draw their order, with operations that may be moved: what they make is told ahead. Conditions: each law's own hypotheses. -/
import Derived.Test.YteglbaidaekccaaE10
namespace Go.Proofs.Yteglbaidaekccaa
open Go Go.RowKit

/-- what an operation that may be moved leaves: slot d holds V g, blocks Hn g have come -/
structure MV where
  d : Nat
  γ : Type
  G : γ → Prop
  V : γ → Value
  Hn : γ → List Hp
section
variable {X : Cx} {ops : Array Oper} {HS : List Hp} {T : Nat → MV} {Q : Qt} {ro : Option Nat} {P : Program} {F : List (Nat × Value) → List Hp → Prop}

def MVat (X : Cx) (ops : Array Oper) (HS : List Hp) (i : Nat) (m : MV) (a : Act) : Prop :=
  ∀ w, Mem X.w0 X.S HS w → ∀ K : Act → World → Prop, (∀ g w', m.G g → Mem w [] (m.Hn g) w' → K (a.put (some m.d) (m.V g)) w') → wpOpIn (FW X.ro) 0 X.P ops FQ i K a w

/-- heads (true) and operations that may be moved (false), then F -/
def CNm (X : Cx) (ops : Array Oper) (HS : List Hp) (T : Nat → MV) (F : List (Nat × Value) → List Hp → Prop) : List (Nat × Bool) → List (Nat × Value) → List Hp → Prop
  | [], L, H => F L H
  | (i, true) :: l, L, H => ∃ o v d, ops[i]? = some o ∧ o.dst = some d ∧ d < X.N ∧ (∀ a, Env X.N X.ds a L → HeadAt X.ro X.P ops (Mem X.w0 X.S HS) o v a) ∧ CNm X ops HS T F l ((d, v) :: L) H
  | (i, false) :: l, L, H => ∃ o, ops[i]? = some o ∧ o.dst = some (T i).d ∧ (T i).d < X.N ∧ (∀ a, Env X.N X.ds a L → MVat X ops HS i (T i) a) ∧ ∀ g, (T i).G g → CNm X ops HS T F l (((T i).d, (T i).V g) :: L) ((T i).Hn g ++ H)

theorem Sub.consBoth {L L' : List (Nat × Value)} {d : Nat} {v : Value} (s : Sub L' L) : Sub ((d, v) :: L') ((d, v) :: L) := by
  intro t u hu
  simp only [lk] at hu ⊢
  cases hb : Nat.beq d t with
  | true => rw [hb] at hu; exact hu
  | false => rw [hb] at hu; exact s t u hu
theorem Sub.swap {L : List (Nat × Value)} {d e : Nat} {v u : Value} (hne : d ≠ e) : Sub ((d, v) :: (e, u) :: L) ((e, u) :: (d, v) :: L) := by
  intro t x hx
  simp only [lk] at hx ⊢
  cases hd : Nat.beq d t with
  | true =>
    have h1 : d = t := Nat.eq_of_beq_eq_true hd
    have h2 : Nat.beq e t = false := nbeq (fun h => hne (h1.trans h.symm))
    rw [hd, h2] at hx; simpa using hx
  | false => rw [hd] at hx; simpa using hx

/-- F takes more facts, in any order. -/
def Mono (F : List (Nat × Value) → List Hp → Prop) : Prop := ∀ L L' H H', Sub L' L → H'.Perm H → F L H → F L' H'
theorem CNm.congr (hF : Mono F) : ∀ (l : List (Nat × Bool)) {L L' : List (Nat × Value)} {H H' : List Hp}, Sub L' L → H'.Perm H → CNm X ops HS T F l L H → CNm X ops HS T F l L' H'
  | [], L, L', H, H', s, p, h => hF L L' H H' s p h
  | (i, true) :: l, L, L', H, H', s, p, ⟨o, v, d, h1, h2, h3, h4, h5⟩ => ⟨o, v, d, h1, h2, h3, fun a ha => h4 a (ha.sub s), CNm.congr hF l s.consBoth p h5⟩
  | (i, false) :: l, L, L', H, H', s, p, ⟨o, h1, h2, h3, h4, h5⟩ => ⟨o, h1, h2, h3, fun a ha => h4 a (ha.sub s), fun g hg => CNm.congr hF l s.consBoth (p.append_left _) (h5 g hg)⟩

/-! ### One slot more, one slot less -/
theorem put_put (a : Act) (d : Nat) (u v : Value) : (a.put (some d) u).put (some d) v = a.put (some d) v := by
  simp [Act.put, Array.setIfInBounds_setIfInBounds]
theorem put_same {N ds} {a : Act} {L} (h : Env N ds a L) {d : Nat} (hd : d < N) : a.put (some d) (a.tmps[d]?.getD undef) = a := by
  have hs : d < a.tmps.size := by rw [h.size]; exact hd
  cases a with
  | mk tmps defers =>
    simp only [Act.put] at *
    congr 1
    apply Array.ext
    · simp
    · intro i h1 h2
      by_cases e : d = i
      · subst e; simp [hs]
      · rw [Array.getElem_setIfInBounds_ne (by simpa using h1) e]
theorem env_uncons {N ds} {L} {d : Nat} {v : Value} {Φ : Act → Prop} (hd : d < N) (hΦ : ∀ a u, Φ a → Φ (a.put (some d) u)) (h : ∀ a, Env N ds a ((d, v) :: L) → Φ a) : ∀ a, Env N ds a L → Φ a := by
  intro a ha
  have h1 := h _ (ha.put v hd)
  have h2 := hΦ _ (a.tmps[d]?.getD undef) h1
  rw [put_put, put_same ha hd] at h2
  exact h2
theorem env_cons {N ds} {L} {d : Nat} {v : Value} {Φ : Act → Prop} (hd : d < N) (hΦ : ∀ a u, Φ a → Φ (a.put (some d) u)) (h : ∀ a, Env N ds a L → Φ a) : ∀ a, Env N ds a ((d, v) :: L) → Φ a := by
  intro a ha
  have h0 : Env N ds (a.put (some d) ((lk L d).getD undef)) L := by
    refine ⟨by simp [Act.put, ha.size], by simp [Act.put, ha.dfr], fun t u hu => ?_⟩
    have hs : d < a.tmps.size := by rw [ha.size]; exact hd
    by_cases e : d = t
    · subst e; simp [Act.put, hs, hu]
    · have : lk ((d, v) :: L) t = some u := by simp only [lk, nbeq e, cond_false]; exact hu
      have h2 := ha.get t u this
      simp only [Act.put, Array.getElem?_setIfInBounds_ne e]; exact h2
  have h2 := hΦ _ (a.tmps[d]?.getD undef) (h _ h0)
  rw [put_put, put_same ha hd] at h2
  exact h2
theorem MVat.put {i : Nat} {m : MV} {oi oj : Oper} {a : Act} {v : Value} (hi : ops[i]? = some oi) (hc : calmOp oi.op = true) (hap : oj.apart ops oi = true) (hd : oi.dst = some m.d) (h : MVat X ops HS i m a) : MVat X ops HS i m (a.put oj.dst v) := by
  intro w hw K hK
  obtain ⟨h1, h2, h3⟩ := Oper.apart_spec hap
  refine tail_rev hi hc hap (h w hw _ fun g w' hg hm => ?_)
  have := hK g w' hg hm
  rwa [Act.put_comm a v _ (fun d hd' => by rw [← hd]; exact h2 d hd')] at this

/-! ### Exchange -/
def apB (ops : Array Oper) (x y : Nat) : Bool := match ops[x]?, ops[y]? with
  | some ox, some oy => ox.apart ops oy
  | _, _ => false
theorem apB_spec {x y : Nat} (h : apB ops x y = true) : ∃ ox oy, ops[x]? = some ox ∧ ops[y]? = some oy ∧ ox.apart ops oy = true := by
  unfold apB at h
  split at h
  · rename_i ox oy h1 h2; exact ⟨ox, oy, h1, h2, h⟩
  · cases h
theorem mv_some {i : Nat} {m : MV} {oi : Oper} {a : Act} {w : World} (hi : ops[i]? = some oi) (h : MVat X ops HS i m a) (hw : Mem X.w0 X.S HS w) : ∃ g, m.G g := by
  refine tail_some hi (h w hw (fun _ _ => ∃ g, m.G g) fun g w' hg _ => ⟨g, hg⟩) fun _ _ hp => hp
theorem perm3 (A B H : List Hp) : (A ++ (B ++ H)).Perm (B ++ (A ++ H)) := by
  rw [← List.append_assoc, ← List.append_assoc]; exact List.perm_append_comm.append_right H

theorem cnm_swap (hF : Mono F) (hc : calmOps ops = true) {x y : Nat × Bool} (hab : apB ops x.1 y.1 = true) {l : List (Nat × Bool)} {L : List (Nat × Value)} {H : List Hp} (hA : ∃ a, Env X.N X.ds a L) (hW : ∃ w, Mem X.w0 X.S HS w)
    (h : CNm X ops HS T F (x :: y :: l) L H) : CNm X ops HS T F (y :: x :: l) L H := by
  obtain ⟨ox, oy, hx, hy, hap⟩ := apB_spec hab
  obtain ⟨i, bi⟩ := x
  obtain ⟨j, bj⟩ := y
  have hcx := calmOps_at hc hx
  have hcy := calmOps_at hc hy
  have hpa := apart_back hap
  obtain ⟨p1, p2, p3⟩ := Oper.apart_spec hap
  have hdPut : ∀ {o o' : Oper} {v : Value} {d : Nat}, calmOp o.op = true → o'.apart ops o = true → o'.dst = some d → ∀ a u, HeadAt X.ro X.P ops (Mem X.w0 X.S HS) o v a → HeadAt X.ro X.P ops (Mem X.w0 X.S HS) o v (a.put (some d) u) := by
    intro o o' v d hco hapo hd a u hh
    obtain ⟨q1, q2, q3⟩ := Oper.apart_spec hapo
    exact (HeadAt.put hco (fun e he => by cases he; exact q1 d hd)).2 hh
  have mvPut : ∀ {k : Nat} {m : MV} {o o' : Oper} {d : Nat}, ops[k]? = some o → calmOp o.op = true → o'.apart ops o = true → o'.dst = some d → o.dst = some m.d → ∀ a u, MVat X ops HS k m a → MVat X ops HS k m (a.put (some d) u) := by
    intro k m o o' d hk hco hapo hd hmd a u hh
    have := MVat.put (v := u) hk hco hapo hmd hh
    rwa [hd] at this
  have ne : ∀ {d e : Nat}, ox.dst = some d → oy.dst = some e → d ≠ e := fun hd he h => p2 _ hd (by rw [h]; exact he)
  cases bi with
  | true =>
    obtain ⟨o1, v, d, e1, hd, hdN, hX, hr⟩ := h
    have : o1 = ox := Option.some.inj (e1.symm.trans hx)
    subst this
    cases bj with
    | true =>
      obtain ⟨o2, u, e, e2, he, heN, hY, hr⟩ := hr
      have : o2 = oy := Option.some.inj (e2.symm.trans hy)
      subst this
      exact ⟨o2, u, e, hy, he, heN, env_uncons hdN (hdPut hcy hap hd) hY, o1, v, d, hx, hd, hdN, env_cons heN (hdPut hcx hpa he) hX, CNm.congr hF l (Sub.swap (ne hd he)) (.refl _) hr⟩
    | false =>
      obtain ⟨o2, e2, he, heN, hY, hr⟩ := hr
      have : o2 = oy := Option.some.inj (e2.symm.trans hy)
      subst this
      exact ⟨o2, hy, he, heN, env_uncons hdN (mvPut hy hcy hap hd he) hY, fun g hg => ⟨o1, v, d, hx, hd, hdN, env_cons heN (hdPut hcx hpa he) hX, CNm.congr hF l (Sub.swap (ne hd he)) (.refl _) (hr g hg)⟩⟩
  | false =>
    obtain ⟨o1, e1, hd, hdN, hX, hr⟩ := h
    have : o1 = ox := Option.some.inj (e1.symm.trans hx)
    subst this
    obtain ⟨a0, ha0⟩ := hA
    obtain ⟨w0, hw0⟩ := hW
    obtain ⟨g0, hg0⟩ := mv_some hx (hX a0 ha0) hw0
    cases bj with
    | true =>
      obtain ⟨o2, u, e, e2, he, heN, hY, _⟩ := hr g0 hg0
      have : o2 = oy := Option.some.inj (e2.symm.trans hy)
      subst this
      have hY0 := env_uncons hdN (hdPut hcy hap hd) hY
      refine ⟨o2, u, e, hy, he, heN, hY0, o1, hx, hd, hdN, env_cons heN (mvPut hx hcx hpa he hd) hX, fun g hg => ?_⟩
      obtain ⟨o3, u', e', e3, he', heN', hY', hr'⟩ := hr g hg
      have : o3 = o2 := Option.some.inj (e3.symm.trans hy)
      subst this
      have : e' = e := Option.some.inj (he'.symm.trans he)
      subst this
      have hu : u' = u := HeadAt.unique hw0 (env_uncons hdN (hdPut hcy hap hd) hY' a0 ha0) (hY0 a0 ha0)
      subst hu
      exact CNm.congr hF l (Sub.swap (ne hd he)) (.refl _) hr'
    | false =>
      obtain ⟨o2, e2, he, heN, hY, _⟩ := hr g0 hg0
      have : o2 = oy := Option.some.inj (e2.symm.trans hy)
      subst this
      have hY0 := env_uncons hdN (mvPut hy hcy hap hd he) hY
      refine ⟨o2, hy, he, heN, hY0, fun g2 hg2 => ⟨o1, hx, hd, hdN, env_cons heN (mvPut hx hcx hpa he hd) hX, fun g hg => ?_⟩⟩
      obtain ⟨o3, e3, _, _, _, hr'⟩ := hr g hg
      exact CNm.congr hF l (Sub.swap (ne hd he)) (perm3 _ _ _) (hr' g2 hg2)

theorem cnm_front (hF : Mono F) (hc : calmOps ops = true) (hW : ∃ w, Mem X.w0 X.S HS w) : ∀ (l1 : List (Nat × Bool)) (y : Nat × Bool) (l2 : List (Nat × Bool)) (L : List (Nat × Value)) (H : List Hp), (∀ x ∈ l1, apB ops x.1 y.1 = true) → (∃ a, Env X.N X.ds a L) →
    CNm X ops HS T F (l1 ++ y :: l2) L H → CNm X ops HS T F (y :: (l1 ++ l2)) L H
  | [], y, l2, L, H, _, _, h => h
  | x :: l1, y, l2, L, H, hf, hA, h => by
    refine cnm_swap hF hc (hf x (by simp)) hA hW (l := l1 ++ l2) ?_
    obtain ⟨i, bi⟩ := x
    obtain ⟨a0, ha0⟩ := hA
    cases bi with
    | true =>
      obtain ⟨o, v, d, h1, h2, h3, h4, h5⟩ := h
      exact ⟨o, v, d, h1, h2, h3, h4, cnm_front hF hc hW l1 y l2 _ _ (fun z hz => hf z (by simp [hz])) ⟨_, ha0.put v h3⟩ h5⟩
    | false =>
      obtain ⟨o, h1, h2, h3, h4, h5⟩ := h
      exact ⟨o, h1, h2, h3, h4, fun g hg => cnm_front hF hc hW l1 y l2 _ _ (fun z hz => hf z (by simp [hz])) ⟨_, ha0.put _ h3⟩ (h5 g hg)⟩
/-! ### The region -/
theorem opFQ {j : Nat} {oj : Oper} (hj : ops[j]? = some oj) {K : Act → World → Prop} {a : Act} {w : World} (h : wpOpIn (FW ro) 0 P ops FQ j K a w) : wpOpIn (FW ro) 0 P ops Q j K a w := by
  unfold wpOpIn at *
  simp only [hj] at *
  split
  · rename_i hw
    simp only [hw, if_true] at h
    unfold Oper.wpIn at *
    refine ⟨h.1, ?_⟩
    have h' := h.2
    generalize (oj.semAt (FW ro).round a.eval).run P w = r at *
    cases r with
    | ok x w' =>
      cases x <;> simp only [Oper.uponIn] at h' ⊢
      case value u => exact h'
      case skip => exact h'
      case defer d => exact h'
      case enter f args =>
        refine ⟨h'.1, CallsIn.mono h'.2 (fun e w'' he => ?_)⟩
        cases e with
        | returned u => exact he
        | panicked c => exact he.elim
        | outgrown => obtain ⟨_, _, h⟩ := he; exact h.elim
      case row rw' args => exact h'
      case round l f tmps assign body =>
        refine ⟨h'.1, RoundIn.mono h'.2 (fun e w'' he => ?_)⟩
        cases e with
        | returned u => exact he
        | panicked c => exact he.elim
        | outgrown => obtain ⟨_, _, h⟩ := he; exact h.elim
    | halt x w' => cases x <;> simp only [Oper.uponIn, FQ] at h'
  · rename_i hw
    simp only [hw] at h
    exact h
theorem Mem.right {w0 w : World} {S : List Nat} : ∀ (A : List Hp) {H : List Hp}, Mem w0 S (A ++ H) w → Mem w0 S H w
  | [], _, m => m
  | _ :: A, _, m => Mem.right A m.drop

def pairsM (ops : Array Oper) : List (Nat × Bool) → Bool
  | [] => true
  | x :: l => l.all (fun y => ((Region.before ops).getD y.1 0).testBit x.1 || apB ops x.1 y.1) && pairsM ops l
def crossB (ops : Array Oper) (l1 l2 : List (Nat × Bool)) : Bool := l1.all fun x => l2.all fun y => ((Region.before ops).getD y.1 0).testBit x.1
def orderM (ops : Array Oper) (l1 l2 : List (Nat × Bool)) : Bool :=
  calmOps ops && (certB ops && (pairsM ops l1 && (pairsB ops l2 && (crossB ops l1 l2 && ((l1 ++ l2).length == ops.size && (List.range ops.size).all (fun i => (l1 ++ l2).any (·.1 == i)))))))
theorem pairsM_at {y : Nat × Bool} {l2 : List (Nat × Bool)} {x : Nat × Bool} : ∀ (l1 : List (Nat × Bool)), x ∈ l1 → pairsM ops (l1 ++ y :: l2) = true → ((Region.before ops).getD y.1 0).testBit x.1 = true ∨ apB ops x.1 y.1 = true
  | [], hx, _ => by simp at hx
  | z :: l1, hx, hp => by
    simp only [List.cons_append, pairsM, Bool.and_eq_true] at hp
    rcases List.mem_cons.1 hx with rfl | hx
    · have := List.all_eq_true.1 hp.1 y (by simp)
      simpa using this
    · exact pairsM_at l1 hx hp.2
theorem pairsM_drop {y : Nat × Bool} {l2 : List (Nat × Bool)} : ∀ (l1 : List (Nat × Bool)), pairsM ops (l1 ++ y :: l2) = true → pairsM ops (l1 ++ l2) = true
  | [], hp => by simp only [List.nil_append, pairsM, Bool.and_eq_true] at hp ⊢; exact hp.2
  | z :: l1, hp => by
    simp only [List.cons_append, pairsM, Bool.and_eq_true] at hp ⊢
    refine ⟨List.all_eq_true.2 fun u hu => List.all_eq_true.1 hp.1 u ?_, pairsM_drop l1 hp.2⟩
    simp at hu ⊢
    rcases hu with hu | hu
    · exact .inl hu
    · exact .inr (.inr hu)
/-- Something is ready as long as something is left. -/
theorem some_ready (hcert : certB ops = true) {l : List (Nat × Bool)} {listed : Array Bool} (hsz : listed.size = ops.size) (hall : ∀ i, i < ops.size → (listed.getD i true = false ↔ i ∈ l.map (·.1))) (hlt : ∀ x ∈ l, x.1 < ops.size) (hne : l ≠ []) : Region.ready .any ops listed ≠ [] := by
  intro h0
  have hex : ∃ i, i ∈ l.map (·.1) := by
    cases l with
    | nil => exact absurd rfl hne
    | cons y l => exact ⟨y.1, by simp⟩
  have hmin : ∀ m i, i < m → i ∈ l.map (·.1) → False := by
    intro m
    induction m with
    | zero => intro i h; omega
    | succ m ihm =>
      intro i him hi
      have hilt : i < ops.size := by
        obtain ⟨x, hx, rfl⟩ := List.mem_map.1 hi
        exact hlt x hx
      have ho : ops[i]? = some ops[i] := by simp [hilt]
      have hr : i ∈ Region.ready .any ops listed := by
        rw [mem_ready]
        refine ⟨(hall i hilt).2 hi, _, ho, fun e he hbe => ?_⟩
        unfold certB at hcert
        have h1 := List.all_eq_true.1 hcert i (List.mem_range.2 hilt)
        simp only [ho, Bool.and_eq_true] at h1
        have h4 := Array.all_eq_true'.1 h1.1 e he
        simp at h4
        have hlt' : e.on < i := h4.resolve_left (by simp [hbe])
        cases hx : listed.getD e.on true with
        | false => exact (ihm e.on (by omega) ((hall e.on (by omega)).1 hx)).elim
        | true =>
          have hs : e.on < listed.size := by rw [hsz]; omega
          simp [hs] at hx ⊢
          exact hx
      rw [h0] at hr
      cases hr
  obtain ⟨i, hi⟩ := hex
  exact hmin (i + 1) i (by omega) hi
theorem mono_cn {HS2 : List Hp} (l2 : List (Nat × Bool)) : Mono (CN X ops HS2 Q l2) := fun _ _ _ _ s p h a w ha hm => h a w (ha.sub s) (hm.perm p)
theorem cnm_any (hcalm : calmOps ops = true) (hcert : certB ops = true) {HS2 : List Hp} (h12 : ∀ w, Mem X.w0 X.S HS w → Mem X.w0 X.S HS2 w) (l2 : List (Nat × Bool)) (hpb2 : pairsB ops l2 = true) : ∀ (n : Nat) (l1 : List (Nat × Bool)) (listed : Array Bool) (a : Act) (w : World) (L : List (Nat × Value)) (H : List Hp), l1.length = n → pairsM ops l1 = true → crossB ops l1 l2 = true → listed.size = ops.size →
    ((l1 ++ l2).map (·.1)).Nodup → (∀ i, i < ops.size → (listed.getD i true = false ↔ i ∈ (l1 ++ l2).map (·.1))) → (∀ x ∈ l1 ++ l2, x.1 < ops.size) → closed ops listed → Env X.N X.ds a L → Mem X.w0 X.S H w → (∀ w, Mem X.w0 X.S H w → Mem X.w0 X.S HS w) →
    CNm X ops HS T (CN X ops HS2 Q l2) l1 L H → wpAnyIn (FW X.ro) 0 X.P .any ops Q (n + l2.length) listed a w := by
  intro n
  induction n with
  | zero =>
    intro l1 listed a w L H hl _ _ hsz hnd hall hlt hcl ha hm hS h
    have : l1 = [] := List.eq_nil_of_length_eq_zero hl
    subst this
    rw [Nat.zero_add]
    exact can_any (A := Mem X.w0 X.S HS2) hcalm hcert (fun a w h => h) l2.length l2 listed a w rfl hpb2 hsz hnd hall hlt hcl (h12 w (hS w hm)) (h a w ha hm)
  | succ n ih =>
    intro l1 listed a w L H hl hpb hcr hsz hnd hall hlt hcl ha hm hS h
    have hne : l1 ++ l2 ≠ [] := by
      intro e
      rw [List.append_eq_nil_iff] at e
      rw [e.1] at hl; simp at hl
    rw [show n + 1 + l2.length = (n + l2.length) + 1 by omega]
    refine ⟨fun h0 => absurd h0 (some_ready hcert hsz hall hlt hne), fun j hj => ?_⟩
    obtain ⟨h0, oj, hoj, hdep⟩ := mem_ready.1 hj
    have hjlt := (Array.getElem?_eq_some_iff.1 hoj).1
    have hjl := (hall j hjlt).1 h0
    -- what j waits for is listed
    have hwait : ∀ x ∈ l1 ++ l2, ((Region.before ops).getD j 0).testBit x.1 = true → False := by
      intro x hx hb
      have hxlt := hlt x hx
      have := before_listed hcert hcl (j + 1) j (by omega) (fun o ho e he hbe => by
        have : o = oj := Option.some.inj (ho.symm.trans hoj)
        subst this; exact hdep e he hbe) hjlt x.1 hxlt hb
      have hun := (hall x.1 hxlt).2 (List.mem_map.2 ⟨x, hx, rfl⟩)
      have hxs : x.1 < listed.size := by rw [hsz]; exact hxlt
      simp [hxs] at this hun
      rw [this] at hun; cases hun
    obtain ⟨y, hyl, hy1⟩ := List.mem_map.1 hjl
    have hy : y ∈ l1 := by
      rcases List.mem_append.1 hyl with h | h
      · exact h
      · exfalso
        obtain ⟨x, hx⟩ : ∃ x, x ∈ l1 := by
          cases l1 with
          | nil => simp at hl
          | cons x l => exact ⟨x, by simp⟩
        have h1 := List.all_eq_true.1 (List.all_eq_true.1 hcr x hx) y h
        exact hwait x (by simp [hx]) (by rw [← hy1]; exact h1)
    obtain ⟨la, lb, rfl⟩ := List.append_of_mem hy
    have hfree : ∀ x ∈ la, apB ops x.1 y.1 = true := fun x hx => by
      rcases pairsM_at la hx hpb with hb | hb
      · exact (hwait x (by simp [hx]) (by rw [← hy1]; exact hb)).elim
      · exact hb
    have hfront := cnm_front (mono_cn l2) hcalm ⟨w, hS w hm⟩ la y lb L H hfree ⟨a, ha⟩ h
    have hperm : (la ++ y :: lb ++ l2).Perm (y :: (la ++ lb ++ l2)) := by
      simp only [List.append_assoc, List.cons_append]; exact List.perm_middle
    have hnd' := (hperm.map (·.1)).nodup_iff.1 hnd
    rw [List.map_cons, List.nodup_cons] at hnd'
    have hcr' : crossB ops (la ++ lb) l2 = true := List.all_eq_true.2 fun x hx => List.all_eq_true.1 hcr x (by simp at hx ⊢; rcases hx with h | h <;> simp [h])
    have next : ∀ a' w' L' H', Env X.N X.ds a' L' → Mem X.w0 X.S H' w' → (∀ w, Mem X.w0 X.S H' w → Mem X.w0 X.S HS w) → CNm X ops HS T (CN X ops HS2 Q l2) (la ++ lb) L' H' → wpAnyIn (FW X.ro) 0 X.P .any ops Q (n + l2.length) (listed.setIfInBounds j true) a' w' := by
      intro a' w' L' H' ha' hm' hS' hc
      refine ih (la ++ lb) _ a' w' L' H' (by simp at hl ⊢; omega) (pairsM_drop la hpb) hcr' (by simp [hsz]) hnd'.2 ?_ (fun x hx => hlt x (hperm.mem_iff.2 (List.mem_cons_of_mem _ hx))) ?_ ha' hm' hS' hc
      · intro i hi
        by_cases hij : j = i
        · subst hij
          simp only [show (listed.setIfInBounds j true).getD j true = true by simp [hsz, hjlt]]
          simp only [Bool.true_eq_false, false_iff]
          rw [← hy1]; exact hnd'.1
        · rw [getD_set_ne true hij, hall i hi, (hperm.map (·.1)).mem_iff, List.map_cons, List.mem_cons, hy1]
          exact ⟨fun h => h.resolve_left (fun e => hij e.symm), .inr⟩
      · intro k o ho hk e he hbe
        by_cases hjk : j = k
        · subst hjk
          have : o = oj := Option.some.inj (ho.symm.trans hoj)
          subst this
          exact getD_set_true (hdep e he hbe)
        · rw [getD_set_ne false hjk] at hk
          exact getD_set_true (hcl k o ho hk e he hbe)
    obtain ⟨j', bj⟩ := y
    simp only at hy1
    subst hy1
    cases bj with
    | true =>
      obtain ⟨o, v, d, ho, hd, hdN, hX, hr⟩ := hfront
      have : o = oj := Option.some.inj (ho.symm.trans hoj)
      subst this
      have hn := next _ w _ H (ha.put v hdN) hm hS hr
      unfold wpOpIn
      simp only [hoj]
      rcases hX a ha with ⟨h1, h2⟩ | ⟨h1, rfl⟩
      · rw [if_pos h1]
        refine ⟨fun _ _ => trivial, ?_⟩
        have h3 := h2 w (hS w hm)
        change Oper.uponIn (FW X.ro) 0 X.P o a _ Q ((Oper.semAt X.ro a.eval o).run X.P w)
        rw [h3]
        show wpAnyIn _ _ _ _ _ _ _ _ (a.put o.dst v) w
        rw [hd]; exact hn
      · rw [if_neg (by simp [h1])]
        refine ⟨fun _ _ => trivial, ?_⟩
        rw [hd]; exact hn
    | false =>
      obtain ⟨o, ho, hd, hdN, hX, hr⟩ := hfront
      refine opFQ hoj (hX a ha w (hS w hm) _ fun g w' hg hg2 => ?_)
      exact next _ w' _ _ (ha.put _ hdN) (hm.call hg2) (fun w hw => hS w (Mem.right _ hw)) (hr g hg)
theorem wc_mix {id : Nat} {os : List Oper} {L : List (Nat × Value)} {H : List Hp} (HS HS2 : List Hp) (T : Nat → MV) (l1 l2 : List (Nat × Bool)) (hm : X.P.follows .mixedOrders = true) (hB : orderM os.toArray l1 l2 = true) (he : Ent H HS) (he2 : Ent HS HS2)
    (h : CNm X os.toArray HS T (CN X os.toArray HS2 Q l2) l1 L H) : WC X (.region id os.toArray true) Q L H := by
  intro a w ha hM
  unfold orderM at hB
  simp only [Bool.and_eq_true, beq_iff_eq] at hB
  obtain ⟨h1, h2, h3, h4, h5, h6, h7⟩ := hB
  have hsub : List.range os.toArray.size ⊆ (l1 ++ l2).map (·.1) := by
    intro i hi
    have := List.all_eq_true.1 h7 i hi
    obtain ⟨x, hx, he⟩ := List.any_eq_true.1 this
    exact List.mem_map.2 ⟨x, hx, by simpa using he⟩
  have hperm : (List.range os.toArray.size).Perm ((l1 ++ l2).map (·.1)) := perm_of_sub _ _ List.nodup_range hsub (by rw [List.length_map, h6]; simp)
  refine wpIn_region_any hm ?_
  have hlen : os.toArray.size = l1.length + l2.length := by rw [← h6, List.length_append]
  rw [show os.toArray.size = l1.length + l2.length from hlen]
  rw [show Array.replicate (l1.length + l2.length) false = Array.replicate os.toArray.size false by rw [hlen]]
  refine cnm_any h1 h2 (fun w hw => hw.ent he2) l2 h4 l1.length l1 _ a _ L H rfl h3 h5 (by simp) (hperm.nodup_iff.1 List.nodup_range) ?_ ?_ ?_ ha (hM.drew _) (fun w hw => hw.ent he) h
  · intro i hi
    rw [← hperm.mem_iff]
    simp at hi
    simp [hi]
  · intro x hx
    have : x.1 ∈ List.range os.toArray.size := hperm.mem_iff.2 (List.mem_map.2 ⟨x, hx, rfl⟩)
    simpa using this
  · intro j o _ hl
    have : (Array.replicate os.toArray.size false).getD j false = false := by
      rcases Nat.lt_or_ge j os.toArray.size with h | h
      · simp at h; simp [h]
      · simp at h; simp [h]
    rw [this] at hl; cases hl

variable {L : List (Nat × Value)} {H : List Hp} {l : List (Nat × Bool)}
theorem cm_nil (h : F L H) : CNm X ops HS T F [] L H := h
theorem cm_ex {i d op ty pos after v} (ho : ops[i]? = some ⟨some d, op, ty, pos, after, none⟩) (hx : Ex X L HS op ty v) (hd : Nat.blt d X.N = true) (hc : calmOp op = true) (k : CNm X ops HS T F l ((d, v) :: L) H) : CNm X ops HS T F ((i, true) :: l) L H := by
  refine ⟨_, v, d, ho, rfl, nblt hd, fun a ha => .inl ⟨rfl, fun w' hw' => ?_⟩, k⟩
  rw [Oper.semAt_eq _ _ _ (calm_defer hc)]
  exact hx a w' ha hw' _ _ _ _
theorem cm_exg {i d op ty pos after v j g b t} {o : Oper} (ho : ops[i]? = some ⟨some d, op, ty, pos, after, some (j, g)⟩) (hx : Ex X L HS op ty v) (hj : ops[j]? = some o) (hdst : o.dst = some t) (hb : lk L t = some (.bool b)) (hg : b = g)
    (hd : Nat.blt d X.N = true) (hc : calmOp op = true) (k : CNm X ops HS T F l ((d, v) :: L) H) : CNm X ops HS T F ((i, true) :: l) L H := by
  refine ⟨_, v, d, ho, rfl, nblt hd, fun a ha => .inl ⟨?_, fun w' hw' => ?_⟩, k⟩
  · have := ha.get t _ hb
    simp [Region.wanted, yielded, hj, hdst, this, hg]
  · rw [Oper.semAt_eq _ _ _ (calm_defer hc)]
    exact hx a w' ha hw' _ _ _ _
theorem cm_skip {i d op ty pos after j g v t} {o : Oper} (ho : ops[i]? = some ⟨some d, op, ty, pos, after, some (j, g)⟩) (hj : ops[j]? = some o) (hdst : o.dst = some t) (hb : lk L t = some v) (hg : v ≠ .bool g)
    (hd : Nat.blt d X.N = true) (k : CNm X ops HS T F l ((d, undef) :: L) H) : CNm X ops HS T F ((i, true) :: l) L H := by
  refine ⟨_, undef, d, ho, rfl, nblt hd, fun a ha => .inr ⟨?_, rfl⟩, k⟩
  have := ha.get t _ hb
  cases v <;> simp_all [Region.wanted, yielded]
theorem cm_alloc {i d Ty ty pos after z cs} (ho : ops[i]? = some ⟨some d, .alloc Ty, ty, pos, after, none⟩) (hT : T i = ⟨d, Nat, fun _ => True, fun r => .pointer (some ⟨r, 0, none⟩), fun r => [.row r Ty cs]⟩) (hz : zeT X.P Ty = some z) (hcs : z.cells = List.toArray cs) (hd : Nat.blt d X.N = true)
    (k : ∀ r, CNm X ops HS T F l ((d, .pointer (some ⟨r, 0, none⟩)) :: L) (.row r Ty cs :: H)) : CNm X ops HS T F ((i, false) :: l) L H := by
  refine ⟨_, ho, by rw [hT], by rw [hT]; exact nblt hd, fun a ha => ?_, ?_⟩
  · rw [hT]
    intro w hw K hK
    unfold wpOpIn
    simp only [ho]
    have hwant : Region.wanted ⟨some d, .alloc Ty, ty, pos, after, none⟩ (yielded ops a.tmps) = true := rfl
    rw [if_pos hwant]
    refine ⟨fun _ _ => trivial, ?_⟩
    rw [Oper.semAt_eq _ _ _ (calm_defer rfl)]
    have hr : (execOp a.eval ⟨some d, .alloc Ty, ty, pos, after, none⟩).run X.P w = .ok (.value (.pointer (some ⟨w.heap.size, 0, none⟩))) (w.alloc (.cells cs.toArray Ty)) := by
      simp [execOp, Instr.alloc, run_zeT hz, run_newVar, hcs]
    rw [hr]
    exact hK w.heap.size _ trivial ((Mem.refl w).alloc Ty cs)
  · rw [hT]; exact fun r _ => k r
theorem cm_callV {i d f ty pos after ts v} (os : List Operand) {vs : List Value} {as : Array Operand} (ho : ops[i]? = some ⟨some d, .call { callee := .value (.func f), args := as, argTypes := ts }, ty, pos, after, none⟩) (hT : T i = ⟨d, Unit, fun _ => True, fun _ => v, fun _ => []⟩) (has : as = os.toArray) (hf : callOK X.P f = true) (hos : evs L os = some vs)
    (hc : ∀ w, Mem X.w0 X.S HS w → Cl X.P f vs w (IsV v w)) (hd : Nat.blt d X.N = true) (k : CNm X ops HS T F l ((d, v) :: L) H) : CNm X ops HS T F ((i, false) :: l) L H := by
  subst has
  refine ⟨_, ho, by rw [hT], by rw [hT]; exact nblt hd, fun a ha => ?_, ?_⟩
  · rw [hT]
    intro w hw K hK
    unfold wpOpIn
    simp only [ho]
    have hwant : Region.wanted ⟨some d, .call { callee := .value (.func f), args := os.toArray, argTypes := ts }, ty, pos, after, none⟩ (yielded ops a.tmps) = true := rfl
    rw [if_pos hwant]
    refine ⟨fun _ _ => trivial, ?_⟩
    rw [Oper.semAt_eq _ _ _ (calm_defer rfl)]
    have hr : (execOp a.eval ⟨some d, .call { callee := .value (.func f), args := os.toArray, argTypes := ts }, ty, pos, after, none⟩).run X.P w = .ok (.enter f vs.toArray) w := by
      simp [execOp, resolve, Act.eval, Deferred.ofValue, invoke, run_callFunc hf, ha.evals hos]
    rw [hr]
    refine ⟨by simp [FW], ?_⟩
    refine (show CallsIn (FW X.ro) 0 X.P f vs.toArray w _ from ?_)
    have := (callsIn_wide (n := 0)).2 (hc w hw)
    refine CallsIn.mono (F := FW X.ro) ⟨trivial, fun cs hr => this.2 cs (room_wide _)⟩ ?_
    rintro e w' ⟨u, rfl, hR⟩
    obtain ⟨rfl, hM⟩ := hR
    exact hK () w' trivial hM
  · rw [hT]; exact fun _ _ => k
end
end Go.Proofs.Yteglbaidaekccaa
