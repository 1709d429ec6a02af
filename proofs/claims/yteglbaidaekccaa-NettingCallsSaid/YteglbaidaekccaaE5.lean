/- A region that draws its order: one walk, in an order of our choice. Condition: the order is checked by the kernel; what is read lies in memory that no operation of the region turns. -/
import Derived.Test.YteglbaidaekccaaE4
namespace Go.Proofs.Yteglbaidaekccaa
open Go Go.RowKit

def FQ : Qt := fun _ _ _ => False

section
variable {ro : Option Nat} {P : Program} {ops : Array Oper} {A : World → Prop} {Q : Qt}

/-- The operation leaves the world, and puts v, in whatever world A takes. -/
def HeadAt (ro : Option Nat) (P : Program) (ops : Array Oper) (A : World → Prop) (o : Oper) (v : Value) (a : Act) : Prop :=
  (Region.wanted o (yielded ops a.tmps) = true ∧ ∀ w, A w → (o.semAt ro a.eval).run P w = .ok (.value v) w) ∨ (Region.wanted o (yielded ops a.tmps) = false ∧ v = undef)

def can (ro : Option Nat) (P : Program) (ops : Array Oper) (A : World → Prop) (Q : Qt) : List (Nat × Bool) → Act → World → Prop
  | [], a, w => Q .normal a w
  | (i, true) :: l, a, w => ∃ o v, ops[i]? = some o ∧ HeadAt ro P ops A o v a ∧ can ro P ops A Q l (a.put o.dst v) w
  | (i, false) :: l, a, w => wpOpIn (FW ro) 0 P ops FQ i (fun a' w' => A w' ∧ can ro P ops A Q l a' w') a w

def calmOps (ops : Array Oper) : Bool := ops.all fun o => calmOp o.op
theorem calmOps_at {i : Nat} {o : Oper} (h : calmOps ops = true) (hi : ops[i]? = some o) : calmOp o.op = true := by
  unfold calmOps at h
  rw [Array.all_eq_true] at h
  obtain ⟨hlt, he⟩ := Array.getElem?_eq_some_iff.1 hi
  have := h i hlt
  rwa [he] at this

theorem semAt_put {o : Oper} {a : Act} {dst : Option Tmp} {v : Value} (hc : calmOp o.op = true) (h : ∀ d, dst = some d → d ∉ o.looksAt ops) : o.semAt ro (a.put dst v).eval = o.semAt ro a.eval := by
  rw [Oper.semAt_eq _ _ _ (calm_defer hc), Oper.semAt_eq _ _ _ (calm_defer hc)]
  exact execOp_put o (calm_select hc) a dst v h

theorem HeadAt.put {o : Oper} {v u : Value} {a : Act} {dst : Option Tmp} (hc : calmOp o.op = true) (h : ∀ d, dst = some d → d ∉ o.looksAt ops) : HeadAt ro P ops A o v (a.put dst u) ↔ HeadAt ro P ops A o v a := by
  unfold HeadAt
  rw [semAt_put hc h, wanted_put o a dst u h]

theorem HeadAt.unique {o : Oper} {v u : Value} {a : Act} {w : World} (hw : A w) (h : HeadAt ro P ops A o v a) (h' : HeadAt ro P ops A o u a) : v = u := by
  rcases h with ⟨h1, h2⟩ | ⟨h1, rfl⟩ <;> rcases h' with ⟨h3, h4⟩ | ⟨h3, rfl⟩
  · have := (h2 w hw).symm.trans (h4 w hw)
    simpa using this
  · rw [h1] at h3; cases h3
  · rw [h1] at h3; cases h3
  · rfl

theorem apart_symm {x y : Oper} (h : x.apart ops y = true) : (∀ d, x.dst = some d → d ∉ y.looksAt ops) ∧ (∀ d, x.dst = some d → y.dst ≠ some d) ∧ (∀ d, y.dst = some d → d ∉ x.looksAt ops) := Oper.apart_spec h

theorem HeadAt.defers {o : Oper} {v : Value} {a : Act} {ds : List Deferred} : HeadAt ro P ops A o v { a with defers := ds } ↔ HeadAt ro P ops A o v a := Iff.rfl

/-- A tail operation, in a frame in which one slot that it does not look at has turned. -/
theorem tail_put {j : Nat} {oi oj : Oper} {v : Value} (hj : ops[j]? = some oj) (hci : calmOp oi.op = true) (hcj : calmOp oj.op = true) (hap : oi.apart ops oj = true) {K : Act → World → Prop} {a : Act} {w : World}
    (hy : HeadAt ro P ops A oi v a)
    (h : wpOpIn (FW ro) 0 P ops FQ j K (a.put oi.dst v) w) : wpOpIn (FW ro) 0 P ops FQ j (fun a' w' => K (a'.put oi.dst v) w' ∧ HeadAt ro P ops A oi v a') a w := by
  obtain ⟨h1, h2, h3⟩ := Oper.apart_spec hap
  have keep : ∀ (a : Act) u, HeadAt ro P ops A oi v a → HeadAt ro P ops A oi v (a.put oj.dst u) := fun a u hy => (HeadAt.put hci h3).2 hy
  unfold wpOpIn at *
  simp only [hj] at *
  rw [wanted_put oj a oi.dst v h1] at h
  split
  · rename_i hw
    simp only [hw, if_true] at h
    unfold Oper.wpIn at *
    refine ⟨fun _ _ => trivial, ?_⟩
    have h' := h.2
    rw [semAt_put hcj h1] at h'
    generalize (oj.semAt (FW ro).round a.eval).run P w = r at *
    cases r with
    | ok x w' =>
      cases x <;> simp only [Oper.uponIn] at h' ⊢
      case value u => exact ⟨by rw [← Act.put_comm a v u h2]; exact h', keep a u hy⟩
      case skip => exact ⟨by rw [← Act.put_comm a v undef h2]; exact h', keep a _ hy⟩
      case enter f args =>
        refine ⟨h'.1, CallsIn.mono h'.2 (fun e w'' he => ?_)⟩
        cases e with
        | returned u => exact ⟨by rw [← Act.put_comm a v u h2]; exact he, keep a u hy⟩
        | panicked c => exact he
        | outgrown => obtain ⟨_, _, h⟩ := he; exact h.elim
      case row rw' args => exact ⟨h'.1, RowsIn.mono h'.2 (fun u w'' he => ⟨by rw [← Act.put_comm a v u h2]; exact he, keep a u hy⟩)⟩
      case round l f tmps assign body =>
        refine ⟨h'.1, RoundIn.mono h'.2 (fun e w'' he => ?_)⟩
        cases e with
        | returned u => exact ⟨by rw [← Act.put_comm a v u h2]; exact he, keep a u hy⟩
        | panicked c => exact he
        | outgrown => obtain ⟨_, _, h⟩ := he; exact h.elim
      case defer d =>
        rw [Act.put_defers, Act.put_comm _ v undef h2] at h'
        exact ⟨h', keep { a with defers := d :: a.defers } _ hy⟩
    | halt x w' => cases x <;> simp only [Oper.uponIn, FQ] at h'
  · rename_i hw
    simp only [hw] at h
    exact ⟨fun _ _ => trivial, by rw [← Act.put_comm a v undef h2]; exact h.2, keep a _ hy⟩

/-- What becomes of the frame. -/
def Fr (o : Oper) (a a' : Act) : Prop := ∃ x, a' = a.put o.dst x ∨ ∃ d, a' = ({ a with defers := d :: a.defers } : Act).put o.dst x
theorem tail_frame {i : Nat} {oi : Oper} (hi : ops[i]? = some oi) {K : Act → World → Prop} {a : Act} {w : World} (h : wpOpIn (FW ro) 0 P ops FQ i K a w) : wpOpIn (FW ro) 0 P ops FQ i (fun a' w' => K a' w' ∧ Fr oi a a') a w := by
  unfold wpOpIn at *
  simp only [hi] at *
  split
  · rename_i hw
    simp only [hw, if_true] at h
    unfold Oper.wpIn at *
    refine ⟨h.1, ?_⟩
    have h' := h.2
    generalize (oi.semAt (FW ro).round a.eval).run P w = r at *
    cases r with
    | ok x w' =>
      cases x <;> simp only [Oper.uponIn] at h' ⊢
      case value u => exact ⟨h', _, .inl rfl⟩
      case skip => exact ⟨h', _, .inl rfl⟩
      case enter f args =>
        refine ⟨h'.1, CallsIn.mono h'.2 (fun e w'' he => ?_)⟩
        cases e with
        | returned u => exact ⟨he, _, .inl rfl⟩
        | panicked c => exact he
        | outgrown => obtain ⟨_, _, h⟩ := he; exact h.elim
      case row rw' args => exact ⟨h'.1, RowsIn.mono h'.2 (fun u w'' he => ⟨he, _, .inl rfl⟩)⟩
      case round l f tmps assign body =>
        refine ⟨h'.1, RoundIn.mono h'.2 (fun e w'' he => ?_)⟩
        cases e with
        | returned u => exact ⟨he, _, .inl rfl⟩
        | panicked c => exact he
        | outgrown => obtain ⟨_, _, h⟩ := he; exact h.elim
      case defer d => exact ⟨h', _, .inr ⟨d, rfl⟩⟩
    | halt x w' => cases x <;> simp only [Oper.uponIn, FQ] at h'
  · rename_i hw
    simp only [hw] at h
    exact ⟨h.1, h.2, _, .inl rfl⟩
theorem tail_rev {i : Nat} {oi oj : Oper} {v : Value} (hi : ops[i]? = some oi) (hci : calmOp oi.op = true) (hap : oj.apart ops oi = true) {K : Act → World → Prop} {a : Act} {w : World}
    (h : wpOpIn (FW ro) 0 P ops FQ i (fun a' w' => K (a'.put oj.dst v) w') a w) : wpOpIn (FW ro) 0 P ops FQ i K (a.put oj.dst v) w := by
  obtain ⟨h1, h2, h3⟩ := Oper.apart_spec hap
  unfold wpOpIn at *
  simp only [hi] at *
  rw [wanted_put oi a oj.dst v h1]
  split
  · rename_i hw
    simp only [hw, if_true] at h
    unfold Oper.wpIn at *
    refine ⟨fun _ _ => trivial, ?_⟩
    have h' := h.2
    rw [semAt_put hci h1]
    generalize (oi.semAt (FW ro).round a.eval).run P w = r at *
    cases r with
    | ok x w' =>
      cases x <;> simp only [Oper.uponIn] at h' ⊢
      case value u => rw [Act.put_comm a v u h2]; exact h'
      case skip => rw [Act.put_comm a v undef h2]; exact h'
      case enter f args =>
        refine ⟨h'.1, CallsIn.mono h'.2 (fun e w'' he => ?_)⟩
        cases e with
        | returned u => simp only [] at he ⊢; rw [Act.put_comm a v u h2]; exact he
        | panicked c => exact he
        | outgrown => exact he
      case row rw' args => exact ⟨h'.1, RowsIn.mono h'.2 (fun u w'' he => by rw [Act.put_comm a v u h2]; exact he)⟩
      case round l f tmps assign body =>
        refine ⟨h'.1, RoundIn.mono h'.2 (fun e w'' he => ?_)⟩
        cases e with
        | returned u => simp only [] at he ⊢; rw [Act.put_comm a v u h2]; exact he
        | panicked c => exact he
        | outgrown => exact he
      case defer d => rw [Act.put_defers, Act.put_comm _ v undef h2]; exact h'
    | halt x w' => cases x <;> simp only [Oper.uponIn, FQ] at h'
  · rename_i hw
    simp only [hw] at h
    exact ⟨fun _ _ => trivial, by rw [Act.put_comm a v undef h2]; exact h.2⟩
/-- A tail operation comes to some end. -/
theorem tail_some {i : Nat} {oi : Oper} (hi : ops[i]? = some oi) {p : Prop} {K : Act → World → Prop} {a : Act} {w : World} (h : wpOpIn (FW ro) 0 P ops FQ i K a w) (hp : ∀ a' w', K a' w' → p) : p := by
  unfold wpOpIn at h
  simp only [hi] at h
  split at h
  · unfold Oper.wpIn at h
    have h' := h.2
    generalize (oi.semAt (FW ro).round a.eval).run P w = r at *
    cases r with
    | ok x w' =>
      cases x <;> simp only [Oper.uponIn] at h'
      case value v => exact hp _ _ h'
      case skip => exact hp _ _ h'
      case defer d => exact hp _ _ h'
      case enter f args =>
        obtain ⟨e, w'', fr, hR, _⟩ := h'.2.2 [] (by intro d hd; simp [FW] at hd)
        cases e with
        | returned v => exact hp _ _ hR
        | panicked c => exact hR.elim
        | outgrown => obtain ⟨_, _, h⟩ := hR; exact h.elim
      case row rw' args =>
        obtain ⟨v, w'', hR, _⟩ := h'.2 default [] (by intro d hd; simp [FW] at hd)
        exact hp _ _ hR
      case round l f tmps assign body =>
        obtain ⟨e, w'', hR, _⟩ := h'.2.2 default [] (by intro d hd; simp [FW] at hd)
        cases e with
        | returned v => exact hp _ _ hR
        | panicked c => exact hR.elim
        | outgrown => obtain ⟨_, _, h⟩ := hR; exact h.elim
    | halt x w' => cases x <;> simp only [Oper.uponIn, FQ] at h'
  · exact hp _ _ h.2

theorem can_mono {Q' : Qt} (hq : ∀ a w, Q .normal a w → Q' .normal a w) : ∀ (l : List (Nat × Bool)) (a : Act) (w : World), can ro P ops A Q l a w → can ro P ops A Q' l a w
  | [], a, w, h => hq a w h
  | (i, true) :: l, a, w, ⟨o, v, h1, h2, h3⟩ => ⟨o, v, h1, h2, can_mono hq l _ _ h3⟩
  | (i, false) :: l, a, w, h => wpOpIn_mono (fun _ _ h => ⟨h.1, can_mono hq l _ _ h.2⟩) h

/-- Two operations of the list, the first of which does not wait for the second: may they change places? -/
def freeB (ops : Array Oper) (x y : Nat × Bool) : Bool :=
  match ops[x.1]?, ops[y.1]? with
  | some ox, some oy => ox.apart ops oy && (x.2 || y.2)
  | _, _ => false
theorem freeB_spec {x y : Nat × Bool} (h : freeB ops x y = true) : ∃ ox oy, ops[x.1]? = some ox ∧ ops[y.1]? = some oy ∧ ox.apart ops oy = true ∧ (x.2 = true ∨ y.2 = true) := by
  unfold freeB at h
  split at h
  · rename_i ox oy h1 h2
    simp at h
    exact ⟨ox, oy, h1, h2, h.1, h.2⟩
  · cases h

theorem apart_back {x y : Oper} (h : x.apart ops y = true) : y.apart ops x = true := by
  obtain ⟨h1, h2, h3⟩ := Oper.apart_spec h
  unfold Oper.apart
  rw [Bool.and_eq_true]
  constructor
  · cases hy : y.dst with
    | none => rfl
    | some d =>
      have a1 := h3 d hy
      have a2 : x.dst ≠ some d := fun e => h2 d e hy
      simp [a1, a2]
  · cases hx : x.dst with
    | none => rfl
    | some d => have a1 := h1 d hx; simp [a1]

theorem can_swap (hc : calmOps ops = true) {x y : Nat × Bool} (hf : freeB ops x y = true) {l : List (Nat × Bool)} {a : Act} {w : World} (hA : A w)
    (h : can ro P ops A Q (x :: y :: l) a w) : can ro P ops A Q (y :: x :: l) a w := by
  obtain ⟨ox, oy, hx, hy, hap, hb⟩ := freeB_spec hf
  obtain ⟨i, bi⟩ := x
  obtain ⟨j, bj⟩ := y
  have hcx := calmOps_at hc hx
  have hcy := calmOps_at hc hy
  obtain ⟨p1, p2, p3⟩ := Oper.apart_spec hap
  cases bi with
  | true =>
    obtain ⟨o, v, h1, hv, hr⟩ := h
    have : o = ox := Option.some.inj (h1.symm.trans hx)
    subst this
    cases bj with
    | true =>
      obtain ⟨o', u, h1', hu, hr'⟩ := hr
      have : o' = oy := Option.some.inj (h1'.symm.trans hy)
      subst this
      refine ⟨o', u, hy, (HeadAt.put hcy p1).1 hu, o, v, hx, (HeadAt.put hcx p3).2 hv, ?_⟩
      rw [← Act.put_comm a v u p2]; exact hr'
    | false =>
      have := tail_put (A := A) hy hcx hcy hap hv hr
      refine wpOpIn_mono (fun a' w' h' => ⟨h'.1.1, o, v, hx, h'.2, h'.1.2⟩) this
  | false =>
    cases bj with
    | false => simp at hb
    | true =>
      have hF : ∀ a' u, Fr ox a a' → (HeadAt ro P ops A oy u a' ↔ HeadAt ro P ops A oy u a) := by
        rintro a' u ⟨x, rfl | ⟨d, rfl⟩⟩
        · exact HeadAt.put hcy p1
        · exact HeadAt.put (a := { a with defers := d :: a.defers }) hcy p1
      have hT := tail_frame hx h
      have hE : ∃ u, HeadAt ro P ops A oy u a := by
        refine tail_some hx hT fun a' w' h' => ?_
        obtain ⟨⟨hA', o', u, h1', hu, hr'⟩, hfr⟩ := h'
        have : o' = oy := Option.some.inj (h1'.symm.trans hy)
        subst this
        exact ⟨u, (hF a' u hfr).1 hu⟩
      obtain ⟨u, hu⟩ := hE
      refine ⟨oy, u, hy, hu, ?_⟩
      refine tail_rev hx hcx (apart_back hap) (wpOpIn_mono (fun a' w' h' => ?_) hT)
      obtain ⟨⟨hA', o', u', h1', hu', hr'⟩, hfr⟩ := h'
      have : o' = oy := Option.some.inj (h1'.symm.trans hy)
      subst this
      have : u' = u := HeadAt.unique hA ((hF a' u' hfr).1 hu') hu
      subst this
      exact ⟨hA', hr'⟩

theorem can_front (hc : calmOps ops = true) : ∀ (l1 : List (Nat × Bool)) (y : Nat × Bool) (l2 : List (Nat × Bool)) (a : Act) (w : World), (∀ x ∈ l1, freeB ops x y = true) → A w →
    can ro P ops A Q (l1 ++ y :: l2) a w → can ro P ops A Q (y :: (l1 ++ l2)) a w
  | [], y, l2, a, w, _, _, h => h
  | x :: l1, y, l2, a, w, hf, hA, h => by
    have hfx := hf x (by simp)
    have ih : ∀ a w, A w → can ro P ops A Q (l1 ++ y :: l2) a w → can ro P ops A Q (y :: (l1 ++ l2)) a w := fun a w hA => can_front hc l1 y l2 a w (fun z hz => hf z (by simp [hz])) hA
    refine can_swap hc hfx hA (l := l1 ++ l2) ?_
    obtain ⟨i, bi⟩ := x
    cases bi with
    | true => obtain ⟨o, v, h1, h2, h3⟩ := h; exact ⟨o, v, h1, h2, ih _ _ hA h3⟩
    | false => exact wpOpIn_mono (fun a' w' h' => ⟨h'.1, ih _ _ h'.1 h'.2⟩) h

/-! ### The check -/
def certB (ops : Array Oper) : Bool :=
  (List.range ops.size).all fun j => match ops[j]? with
    | some o => o.after.all (fun e => Region.binds .any e → e.on < j) &&
      (List.range ops.size).all fun i => !((Region.before ops).getD j 0).testBit i || o.after.any (fun e => Region.binds .any e && (e.on == i || ((Region.before ops).getD e.on 0).testBit i))
    | none => true
def pairsB (ops : Array Oper) : List (Nat × Bool) → Bool
  | [] => true
  | x :: l => l.all (fun y => ((Region.before ops).getD y.1 0).testBit x.1 || freeB ops x y) && pairsB ops l
def orderB (ops : Array Oper) (l : List (Nat × Bool)) : Bool :=
  calmOps ops && certB ops && pairsB ops l && l.length == ops.size && (List.range ops.size).all (fun i => l.any (·.1 == i))

def closed (ops : Array Oper) (listed : Array Bool) : Prop := ∀ (j : Nat) (o : Oper), ops[j]? = some o → listed.getD j false = true → ∀ e ∈ o.after, Region.binds .any e = true → listed.getD e.on false = true

theorem before_listed (hcert : certB ops = true) {listed : Array Bool} (hcl : closed ops listed) : ∀ (n j : Nat), j < n → (∀ o, ops[j]? = some o → ∀ e ∈ o.after, Region.binds .any e = true → listed.getD e.on false = true) →
    j < ops.size → ∀ i, i < ops.size → ((Region.before ops).getD j 0).testBit i = true → listed.getD i false = true := by
  intro n
  induction n with
  | zero => intro j h; omega
  | succ n ih =>
    intro j hj hdep hlt i hi hb
    unfold certB at hcert
    have h1 := List.all_eq_true.1 hcert j (List.mem_range.2 hlt)
    have ho : ops[j]? = some ops[j] := by simp [hlt]
    simp only [ho, Bool.and_eq_true] at h1
    have h2 := List.all_eq_true.1 h1.2 i (List.mem_range.2 hi)
    rw [hb] at h2
    simp only [Bool.not_true, Bool.false_or] at h2
    obtain ⟨e, he, hbe⟩ := Array.any_eq_true'.1 h2
    simp only [Bool.and_eq_true, Bool.or_eq_true, beq_iff_eq] at hbe
    have hl := hdep _ ho e he hbe.1
    rcases hbe.2 with h3 | h3
    · rw [← h3]; exact hl
    · have h4 := Array.all_eq_true'.1 h1.1 e he
      simp at h4
      have hlt' : e.on < j := h4.resolve_left (by simp [hbe.1])
      exact ih e.on (by omega) (fun o ho' e' he' hb' => hcl e.on o ho' hl e' he' hb') (by omega) i hi h3

theorem can_any (hcalm : calmOps ops = true) (hcert : certB ops = true) (hp : ∀ a w, can ro P ops A Q [] a w → Q .normal a w) : ∀ (n : Nat) (l : List (Nat × Bool)) (listed : Array Bool) (a : Act) (w : World), l.length = n → pairsB ops l = true → listed.size = ops.size →
    (l.map (·.1)).Nodup → (∀ i, i < ops.size → (listed.getD i true = false ↔ i ∈ l.map (·.1))) → (∀ x ∈ l, x.1 < ops.size) → closed ops listed → A w → can ro P ops A Q l a w → wpAnyIn (FW ro) 0 P .any ops Q n listed a w := by
  intro n
  induction n with
  | zero =>
    intro l listed a w hl _ _ _ hall _ _ _ h
    have : l = [] := List.eq_nil_of_length_eq_zero hl
    subst this
    refine ⟨?_, h⟩
    rw [List.eq_nil_iff_forall_not_mem]
    intro j hj
    obtain ⟨h0, o, ho, _⟩ := mem_ready.1 hj
    have := (hall j (Array.getElem?_eq_some_iff.1 ho).1).1 h0
    simp at this
  | succ n ih =>
    intro l listed a w hl hpb hsz hnd hall hlt hcl hA h
    have step : ∀ j ∈ Region.ready .any ops listed, wpOpIn (FW ro) 0 P ops Q j (wpAnyIn (FW ro) 0 P .any ops Q n (listed.setIfInBounds j true)) a w := by
      intro j hj
      obtain ⟨h0, oj, hoj, hdep⟩ := mem_ready.1 hj
      have hjlt := (Array.getElem?_eq_some_iff.1 hoj).1
      have hjl := (hall j hjlt).1 h0
      obtain ⟨y, hyl, hy1⟩ := List.mem_map.1 hjl
      obtain ⟨l1, l2, rfl⟩ := List.append_of_mem hyl
      -- whatever stands ahead of j may be passed by it
      have hfree : ∀ x ∈ l1, freeB ops x y = true := by
        intro x hx
        have hpx : ∀ (l1 : List (Nat × Bool)), x ∈ l1 → pairsB ops (l1 ++ y :: l2) = true → ((Region.before ops).getD y.1 0).testBit x.1 = true ∨ freeB ops x y = true := by
          intro l1 hx hp
          induction l1 with
          | nil => simp at hx
          | cons z l1 ih' =>
            simp only [List.cons_append, pairsB, Bool.and_eq_true] at hp
            rcases List.mem_cons.1 hx with rfl | hx
            · have := List.all_eq_true.1 hp.1 y (by simp)
              simpa using this
            · exact ih' hx hp.2
        rcases hpx l1 hx hpb with hb | hb
        · exfalso
          have hxlt := hlt x (by simp [hx])
          have := before_listed hcert hcl (j + 1) j (by omega) (fun o ho e he hbe => by
            have : o = oj := Option.some.inj (ho.symm.trans hoj)
            subst this; exact hdep e he hbe) hjlt x.1 hxlt (by rw [← hy1]; exact hb)
          have hun := (hall x.1 hxlt).2 (by simp only [List.map_append, List.mem_append, List.mem_map]; exact .inl ⟨x, hx, rfl⟩)
          have hxs : x.1 < listed.size := by rw [hsz]; exact hxlt
          simp [hxs] at this hun
          rw [this] at hun; cases hun
        · exact hb
      have hfront := can_front hcalm l1 y l2 a w hfree hA h
      -- what is left
      have hnd' : ((l1 ++ l2).map (·.1)).Nodup ∧ j ∉ (l1 ++ l2).map (·.1) := by
        have hperm : (l1 ++ y :: l2).Perm (y :: (l1 ++ l2)) := List.perm_middle
        have := (hperm.map (·.1)).nodup_iff.1 hnd
        rw [List.map_cons, List.nodup_cons] at this
        exact ⟨this.2, by rw [← hy1]; exact this.1⟩
      have hpb' : pairsB ops (l1 ++ l2) = true := by
        have : ∀ (l1 : List (Nat × Bool)), pairsB ops (l1 ++ y :: l2) = true → pairsB ops (l1 ++ l2) = true := by
          intro l1 hp
          induction l1 with
          | nil => simp only [List.nil_append, pairsB, Bool.and_eq_true] at hp ⊢; exact hp.2
          | cons z l1 ih' =>
            simp only [List.cons_append, pairsB, Bool.and_eq_true] at hp ⊢
            refine ⟨List.all_eq_true.2 fun u hu => List.all_eq_true.1 hp.1 u ?_, ih' hp.2⟩
            simp at hu ⊢
            rcases hu with hu | hu
            · exact .inl hu
            · exact .inr (.inr hu)
        exact this l1 hpb
      have next : ∀ a' w', A w' → can ro P ops A Q (l1 ++ l2) a' w' → wpAnyIn (FW ro) 0 P .any ops Q n (listed.setIfInBounds j true) a' w' := by
        intro a' w' hA' hcan
        refine ih (l1 ++ l2) _ a' w' (by simp at hl ⊢; omega) hpb' (by simp [hsz]) hnd'.1 ?_ (fun x hx => hlt x (by simp at hx ⊢; rcases hx with hx | hx <;> simp [hx])) ?_ hA' hcan
        · intro i hi
          by_cases hij : j = i
          · subst hij
            simp only [show (listed.setIfInBounds j true).getD j true = true by simp [hsz, hjlt]]
            simp only [Bool.true_eq_false, false_iff]
            exact hnd'.2
          · rw [getD_set_ne true hij, hall i hi]
            simp only [List.map_append, List.map_cons, List.mem_append, List.mem_cons, hy1]
            constructor
            · rintro (h | h | h)
              · exact .inl h
              · exact absurd h.symm hij
              · exact .inr h
            · rintro (h | h)
              · exact .inl h
              · exact .inr (.inr h)
        · intro k o ho hk e he hbe
          by_cases hjk : j = k
          · subst hjk
            have : o = oj := Option.some.inj (ho.symm.trans hoj)
            subst this
            exact getD_set_true (hdep e he hbe)
          · rw [getD_set_ne false hjk] at hk
            exact getD_set_true (hcl k o ho hk e he hbe)
      obtain ⟨j', bj⟩ := y
      simp at hy1
      subst hy1
      cases bj with
      | true =>
        obtain ⟨o, v, ho, hv, hr⟩ := hfront
        have : o = oj := Option.some.inj (ho.symm.trans hoj)
        subst this
        unfold wpOpIn
        simp only [hoj]
        rcases hv with ⟨h1, h2⟩ | ⟨h1, rfl⟩
        · rw [if_pos h1]
          refine ⟨fun _ _ => trivial, ?_⟩
          have h3 := h2 w hA
          change Oper.uponIn (FW ro) 0 P o a _ Q ((Oper.semAt ro a.eval o).run P w)
          rw [h3]
          exact next _ _ hA hr
        · rw [if_neg (by simp [h1])]
          exact ⟨fun _ _ => trivial, next _ _ hA hr⟩
      | false =>
        have hf : wpOpIn (FW ro) 0 P ops FQ j' (fun a' w' => A w' ∧ can ro P ops A Q (l1 ++ l2) a' w') a w := hfront
        unfold wpOpIn at hf ⊢
        simp only [hoj] at hf ⊢
        split
        · rename_i hw
          simp only [hw, if_true] at hf
          refine ⟨fun _ _ => trivial, ?_⟩
          have h' := hf.2
          generalize (oj.semAt (FW ro).round a.eval).run P w = r at *
          cases r with
          | ok x w' =>
            cases x <;> simp only [Oper.uponIn] at h' ⊢
            case value u => exact next _ _ h'.1 h'.2
            case skip => exact next _ _ h'.1 h'.2
            case defer d => exact next _ _ h'.1 h'.2
            case enter f args =>
              refine ⟨h'.1, CallsIn.mono h'.2 (fun e w'' he => ?_)⟩
              cases e with
              | returned u => exact next _ _ he.1 he.2
              | panicked c => exact he.elim
              | outgrown => obtain ⟨_, _, h⟩ := he; exact h.elim
            case row rw' args => exact ⟨h'.1, RowsIn.mono h'.2 (fun u w'' he => next _ _ he.1 he.2)⟩
            case round l f tmps assign body =>
              refine ⟨h'.1, RoundIn.mono h'.2 (fun e w'' he => ?_)⟩
              cases e with
              | returned u => exact next _ _ he.1 he.2
              | panicked c => exact he.elim
              | outgrown => obtain ⟨_, _, h⟩ := he; exact h.elim
          | halt x w' => cases x <;> simp only [Oper.uponIn, FQ] at h'
        · rename_i hw
          simp only [hw] at hf
          exact ⟨fun _ _ => trivial, next _ _ hf.2.1 hf.2.2⟩
    refine ⟨fun h0 => ?_, step⟩
    -- something is ready: the first of l
    exfalso
    have hex : ∃ i, i ∈ l.map (·.1) := by
      cases l with
      | nil => simp at hl
      | cons y l => exact ⟨y.1, by simp⟩
    -- the least of them waits for nothing
    have hmin : ∀ m i, i < m → i ∈ l.map (·.1) → False := by
      intro m
      induction m with
      | zero => intro i h; omega
      | succ m ihm =>
        intro i him hi
        have hilt : i < ops.size := by
          obtain ⟨x, hx, rfl⟩ := List.mem_map.1 hi
          exact hlt x hx
        have ho : ops[i]? = some ops[i] := by simp [hilt]
        have hr : i ∈ Region.ready .any ops listed := by
          rw [mem_ready]
          refine ⟨(hall i hilt).2 hi, _, ho, fun e he hbe => ?_⟩
          unfold certB at hcert
          have h1 := List.all_eq_true.1 hcert i (List.mem_range.2 hilt)
          simp only [ho, Bool.and_eq_true] at h1
          have h4 := Array.all_eq_true'.1 h1.1 e he
          simp at h4
          have hlt' : e.on < i := h4.resolve_left (by simp [hbe])
          cases hx : listed.getD e.on true with
          | false => exact (ihm e.on (by omega) ((hall e.on (by omega)).1 hx)).elim
          | true =>
            have hs : e.on < listed.size := by rw [hsz]; omega
            simp [hs] at hx ⊢
            exact hx
        rw [h0] at hr
        cases hr
    obtain ⟨i, hi⟩ := hex
    exact hmin (i + 1) i (by omega) hi

theorem perm_of_sub : ∀ (R l : List Nat), R.Nodup → R ⊆ l → l.length ≤ R.length → R.Perm l
  | [], l, _, _, h => by
    have : l = [] := List.eq_nil_of_length_eq_zero (by simpa using h)
    rw [this]
  | x :: R, l, hn, hs, hl => by
    obtain ⟨l1, l2, rfl⟩ := List.append_of_mem (hs (by simp : x ∈ x :: R))
    rw [List.nodup_cons] at hn
    have ih := perm_of_sub R (l1 ++ l2) hn.2 (fun y hy => by
      have := hs (List.mem_cons_of_mem _ hy)
      simp at this ⊢
      rcases this with h | h | h
      · exact .inl h
      · subst h; exact absurd hy hn.1
      · exact .inr h) (by simp at hl ⊢; omega)
    exact (ih.cons x).trans List.perm_middle.symm

theorem wpIn_region_can {id : Nat} {a : Act} {w : World} (hm : P.follows .mixedOrders = true) (l : List (Nat × Bool)) (hB : orderB ops l = true) (hA : A { w with drawn := w.drawn + 1 })
    (h : can ro P ops A Q l a { w with drawn := w.drawn + 1 }) : (Code.region id ops true).wpIn (FW ro) 0 P Q a w := by
  unfold orderB at hB
  simp only [Bool.and_eq_true, beq_iff_eq] at hB
  obtain ⟨⟨⟨⟨h1, h2⟩, h3⟩, h4⟩, h5⟩ := hB
  have hsub : List.range ops.size ⊆ l.map (·.1) := by
    intro i hi
    have := List.all_eq_true.1 h5 i hi
    obtain ⟨x, hx, he⟩ := List.any_eq_true.1 this
    exact List.mem_map.2 ⟨x, hx, by simpa using he⟩
  have hperm : (List.range ops.size).Perm (l.map (·.1)) := by
    exact perm_of_sub _ _ List.nodup_range hsub (by simp [h4])
  refine wpIn_region_any hm ?_
  refine can_any (A := A) h1 h2 (fun a w h => h) ops.size l (Array.replicate ops.size false) a _ h4 h3 (by simp) (hperm.nodup_iff.1 List.nodup_range) ?_ ?_ ?_ hA h
  · intro i hi
    rw [← hperm.mem_iff]
    simp [hi]
  · intro x hx
    have : x.1 ∈ List.range ops.size := hperm.mem_iff.2 (List.mem_map.2 ⟨x, hx, rfl⟩)
    simpa using this
  · intro j o _ hl
    have : (Array.replicate ops.size false).getD j false = false := by
      rcases Nat.lt_or_ge j ops.size with h | h
      · simp [h]
      · simp [h]
    rw [this] at hl; cases hl
end

/-! ### The same over slots and blocks -/
variable {X : Cx} {Q : Qt} {L L' : List (Nat × Value)} {H H' HS : List Hp} {ops : Array Oper} {l : List (Nat × Bool)}
/-- HS: what no operation of the region turns. -/
def CN (X : Cx) (ops : Array Oper) (HS : List Hp) (Q : Qt) (l : List (Nat × Bool)) (L : List (Nat × Value)) (H : List Hp) : Prop :=
  ∀ a w, Env X.N X.ds a L → Mem X.w0 X.S H w → can X.ro X.P ops (Mem X.w0 X.S HS) Q l a w

theorem wc_draw {id : Nat} {os : List Oper} (HS : List Hp) (l : List (Nat × Bool)) (hm : X.P.follows .mixedOrders = true) (hB : orderB os.toArray l = true) (he : Ent H HS) (h : CN X os.toArray HS Q l L H) : WC X (.region id os.toArray true) Q L H :=
  fun a w ha hM => wpIn_region_can hm l hB ((hM.drew _).ent he) (h a _ ha (hM.drew _))

theorem cn_nil (h : PE X Q .normal L H) : CN X ops HS Q [] L H := h

theorem cn_ex {i d op ty pos after v} (ho : ops[i]? = some ⟨some d, op, ty, pos, after, none⟩) (hx : Ex X L HS op ty v) (hd : Nat.blt d X.N = true) (hc : calmOp op = true) (k : CN X ops HS Q l ((d, v) :: L) H) : CN X ops HS Q ((i, true) :: l) L H := by
  intro a w ha hm
  refine ⟨_, v, ho, .inl ⟨rfl, fun w' hw' => ?_⟩, k _ _ (ha.put v (nblt hd)) hm⟩
  rw [Oper.semAt_eq _ _ _ (calm_defer hc)]
  exact hx a w' ha hw' _ _ _ _
theorem cn_exg {i d op ty pos after v j g b t} {o : Oper} (ho : ops[i]? = some ⟨some d, op, ty, pos, after, some (j, g)⟩) (hx : Ex X L HS op ty v) (hj : ops[j]? = some o) (hdst : o.dst = some t) (hb : lk L t = some (.bool b)) (hg : b = g)
    (hd : Nat.blt d X.N = true) (hc : calmOp op = true) (k : CN X ops HS Q l ((d, v) :: L) H) : CN X ops HS Q ((i, true) :: l) L H := by
  intro a w ha hm
  refine ⟨_, v, ho, .inl ⟨?_, fun w' hw' => ?_⟩, k _ _ (ha.put v (nblt hd)) hm⟩
  · have := ha.get t _ hb
    simp [Region.wanted, yielded, hj, hdst, this, hg]
  · rw [Oper.semAt_eq _ _ _ (calm_defer hc)]
    exact hx a w' ha hw' _ _ _ _
theorem cn_skip {i d op ty pos after j g v t} {o : Oper} (ho : ops[i]? = some ⟨some d, op, ty, pos, after, some (j, g)⟩) (hj : ops[j]? = some o) (hdst : o.dst = some t) (hb : lk L t = some v) (hg : v ≠ .bool g)
    (hd : Nat.blt d X.N = true) (k : CN X ops HS Q l ((d, undef) :: L) H) : CN X ops HS Q ((i, true) :: l) L H := by
  intro a w ha hm
  refine ⟨_, undef, ho, .inr ⟨?_, rfl⟩, k _ _ (ha.put undef (nblt hd)) hm⟩
  have := ha.get t _ hb
  cases v <;> simp_all [Region.wanted, yielded]

def backQ (X : Cx) (ops : Array Oper) (HS : List Hp) (Q : Qt) (l : List (Nat × Bool)) : Qt
  | .normal, a, w => Mem X.w0 X.S HS w ∧ can X.ro X.P ops (Mem X.w0 X.S HS) Q l a w
  | _, _, _ => False
/-- An operation that turns memory, or calls. -/
theorem cn_tail {i} {o : Oper} (ho : ops[i]? = some o) (h : WL X ops (backQ X ops HS Q l) [o] L H) : CN X ops HS Q ((i, false) :: l) L H := by
  intro a w ha hm
  have h' := h a w ha hm
  unfold wpListIn at h'
  show wpOpIn _ _ _ _ _ _ _ _ _
  unfold wpOpIn
  simp only [ho]
  split at h'
  · rename_i hw
    rw [if_pos hw]
    refine ⟨h'.1, ?_⟩
    have h2 := h'.2
    generalize (o.semAt (FW X.ro).round a.eval).run X.P w = r at *
    cases r with
    | ok x w' =>
      cases x <;> simp only [Oper.uponIn] at h2 ⊢
      case value u => exact h2
      case skip => exact h2
      case defer d => exact h2
      case enter f args =>
        refine ⟨h2.1, CallsIn.mono h2.2 (fun e w'' he => ?_)⟩
        cases e with
        | returned u => exact he
        | panicked c => exact he
        | outgrown => obtain ⟨_, _, h⟩ := he; exact h.elim
      case row rw' args => exact ⟨h2.1, RowsIn.mono h2.2 (fun u w'' he => he)⟩
      case round l f tmps assign body =>
        refine ⟨h2.1, RoundIn.mono h2.2 (fun e w'' he => ?_)⟩
        cases e with
        | returned u => exact he
        | panicked c => exact he
        | outgrown => obtain ⟨_, _, h⟩ := he; exact h.elim
    | halt x w' => cases x <;> simp only [Oper.uponIn, FQ, backQ] at h2 ⊢
  · rename_i hw
    rw [if_neg hw]
    exact ⟨h'.1, h'.2⟩
theorem cn_back (hs : Ent H HS) (k : CN X ops HS Q l L H) : WL X ops (backQ X ops HS Q l) [] L H := fun a w ha hm => ⟨hm.ent hs, k a w ha hm⟩
end Go.Proofs.Yteglbaidaekccaa
