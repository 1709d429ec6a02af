/- The operations' laws over slots and blocks. Conditions: each law's own hypotheses. -/
import Derived.Test.YteglbaidaekccaaE1
import Derived.Laws.Wrap64
import Derived.Laws.Rows
import Derived.IntWalk
namespace Go.Proofs.Yteglbaidaekccaa
open Go Go.RowKit
variable {X : Cx} {Q : Qt} {L L' : List (Nat × Value)} {H H' : List Hp} {c x y : Code} {ops : Array Oper} {rest : List Oper}

theorem nblt {a b : Nat} (h : Nat.blt a b = true) : a < b := by simpa [Nat.blt_eq] using h

def calmOp : Op → Bool
  | .defer _ => false
  | .select _ _ => false
  | _ => true
theorem calm_defer {o : Op} (h : calmOp o = true) : ∀ c, o ≠ .defer c := fun c e => by subst e; cases h
theorem calm_select {o : Op} (h : calmOp o = true) : ∀ cs b, o ≠ .select cs b := fun c b e => by subst e; cases h

/-- The operation is carried out, memory is as it was. -/
def Ex (X : Cx) (L : List (Nat × Value)) (H : List Hp) (op : Op) (ty : TypeId) (v : Value) : Prop :=
  ∀ a w, Env X.N X.ds a L → Mem X.w0 X.S H w → ∀ dst pos after guard, (execOp a.eval ⟨dst, op, ty, pos, after, guard⟩).run X.P w = .ok (.value v) w

theorem Ex.mono {op ty v} (h : Ex X L' H' op ty v) (s : Sub L L') (e : Ent H H') : Ex X L H op ty v :=
  fun a w ha hm => h a w (ha.sub s) (hm.ent e)

theorem about_FW {ro : Option Nat} (f : FuncId) : (FW ro).fn f := trivial

theorem wl_ex {d op ty pos after v} (hx : Ex X L H op ty v) (hd : Nat.blt d X.N = true) (hc : calmOp op = true) (k : WL X ops Q rest ((d, v) :: L) H) :
    WL X ops Q (⟨some d, op, ty, pos, after, none⟩ :: rest) L H := by
  intro a w ha hm
  unfold wpListIn
  have hw : Region.wanted ⟨some d, op, ty, pos, after, none⟩ (yielded ops a.tmps) = true := rfl
  rw [if_pos hw]
  refine ⟨fun _ _ => trivial, ?_⟩
  rw [Oper.semAt_eq _ _ _ (calm_defer hc), hx a w ha hm]
  exact k _ _ (ha.put v (nblt hd)) hm

/-- The guard's slot says yes. -/
theorem wl_exg {d op ty pos after v j g b t dst} {o : Oper} (hx : Ex X L H op ty v) (hj : ops[j]? = some o) (hdst : o.dst = some t) (hb : lk L t = some (.bool b)) (hg : b = g)
    (hd : Nat.blt d X.N = true) (hc : calmOp op = true) (hdd : dst = some d) (k : WL X ops Q rest ((d, v) :: L) H) :
    WL X ops Q (⟨dst, op, ty, pos, after, some (j, g)⟩ :: rest) L H := by
  subst hdd
  intro a w ha hm
  unfold wpListIn
  have hw : Region.wanted ⟨some d, op, ty, pos, after, some (j, g)⟩ (yielded ops a.tmps) = true := by
    have := ha.get t _ hb
    simp [Region.wanted, yielded, hj, hdst, this, hg]
  rw [if_pos hw]
  refine ⟨fun _ _ => trivial, ?_⟩
  rw [Oper.semAt_eq _ _ _ (calm_defer hc), hx a w ha hm]
  exact k _ _ (ha.put v (nblt hd)) hm

/-- The guard's slot says no (or is itself passed over): the operation is passed over. -/
theorem wl_skip {d op ty pos after j g v t dst} {o : Oper} (hj : ops[j]? = some o) (hdst : o.dst = some t) (hb : lk L t = some v) (hg : v ≠ .bool g)
    (hd : Nat.blt d X.N = true) (hdd : dst = some d) (k : WL X ops Q rest ((d, undef) :: L) H) :
    WL X ops Q (⟨dst, op, ty, pos, after, some (j, g)⟩ :: rest) L H := by
  subst hdd
  intro a w ha hm
  unfold wpListIn
  have hw : Region.wanted ⟨some d, op, ty, pos, after, some (j, g)⟩ (yielded ops a.tmps) = false := by
    have := ha.get t _ hb
    cases v <;> simp_all [Region.wanted, yielded]
  rw [if_neg (by simp [hw])]
  exact ⟨fun _ _ => trivial, k _ _ (ha.put undef (nblt hd)) hm⟩

/-- A cut within a list of operations. -/
def midQ (X : Cx) (L1 : List (Nat × Value)) (H1 : List Hp) (Q : Qt) : Qt
  | .normal, a, w => Env X.N X.ds a L1 ∧ Mem X.w0 X.S H1 w
  | e, a, w => Q e a w
theorem wl_cut {l : List Oper} (n : Nat) (L1 : List (Nat × Value)) (H1 : List Hp) (h1 : WL X ops (midQ X L1 H1 Q) (l.take n) L H) (h2 : WL X ops Q (l.drop n) L1 H1) : WL X ops Q l L H := by
  have key : ∀ (p q : List Oper) (a : Act) (w : World), wpListIn (FW X.ro) 0 X.P ops (midQ X L1 H1 Q) p a w → WL X ops Q q L1 H1 → wpListIn (FW X.ro) 0 X.P ops Q (p ++ q) a w := by
    intro p
    induction p with
    | nil => intro q a w h hq; exact hq a w h.1 h.2
    | cons o p ih =>
      intro q a w h hq
      simp only [List.cons_append]
      unfold wpListIn at h ⊢
      split
      · rename_i hw
        rw [if_pos hw] at h
        refine ⟨h.1, ?_⟩
        have h2 := h.2
        generalize (o.semAt (FW X.ro).round a.eval).run X.P w = r at h2 ⊢
        cases r with
        | ok nx w' =>
          cases nx <;> simp only [Oper.uponIn] at h2 ⊢ <;> first
            | exact ih _ _ _ h2 hq
            | exact h2
            | exact ⟨h2.1, CallsIn.mono h2.2 (fun e w'' he => by
                cases e with
                | returned v => exact ih _ _ _ he hq
                | panicked chain => exact he
                | outgrown => obtain ⟨a0, w0, hh⟩ := he; exact ⟨a0, w0, hh⟩)⟩
            | exact ⟨h2.1, RowsIn.mono h2.2 (fun v w'' he => ih _ _ _ he hq)⟩
            | exact ⟨h2.1, RoundIn.mono h2.2 (fun e w'' he => by
                cases e with
                | returned v => exact ih _ _ _ he hq
                | panicked chain => exact he
                | outgrown => obtain ⟨a0, w0, hh⟩ := he; exact ⟨a0, w0, hh⟩)⟩
        | halt h' w' => cases h' <;> simp only [Oper.uponIn] at h2 ⊢ <;> exact h2
      · rename_i hw
        rw [if_neg hw] at h
        exact ⟨h.1, ih _ _ _ h.2 hq⟩
  intro a w ha hm
  have := key (l.take n) (l.drop n) a w (h1 a w ha hm) h2
  rwa [List.take_append_drop] at this
theorem pe_mid {L1 : List (Nat × Value)} {H1 : List Hp} (s : Sub L L1) (e : Ent H H1) : PE X (midQ X L1 H1 Q) .normal L H := fun _ _ ha hm => ⟨ha.sub s, hm.ent e⟩

/-! ### Plain values -/
theorem i64_in {n : Int} (h1 : -9223372036854775808 ≤ n) (h2 : n < 9223372036854775808) : IntKind.i64.wrap n = n := by
  simp [IntKind.wrap, IntKind.bits, IntKind.signed]; omega

theorem ex_move {o v ty} (h : ev L o = some v) : Ex X L H (.move o) ty v := by
  intro a w ha hm _ _ _ _; simp [execOp, ha.eval h, Sem.run, pure]
theorem ex_assign {o v ty} (h : ev L o = some v) : Ex X L H (.assign o) ty v := by
  intro a w ha hm _ _ _ _; simp [execOp, ha.eval h, Sem.run, pure]

section ints
variable {o o' : Operand} {m n : Int} {T T' ty : TypeId}
theorem ex_add (h : ev L o = some (.int .i64 m)) (h' : ev L o' = some (.int .i64 n)) (b1 : -9223372036854775808 ≤ m + n) (b2 : m + n < 9223372036854775808) :
    Ex X L H (.binOp .add T o o' T') ty (.int .i64 (m + n)) := by
  intro a w ha hm _ _ _ _; simp [execOp, ha.eval h, ha.eval h', eqGuard, binOp, Op.intArith, i64_in b1 b2]
theorem ex_sub (h : ev L o = some (.int .i64 m)) (h' : ev L o' = some (.int .i64 n)) (b1 : -9223372036854775808 ≤ m - n) (b2 : m - n < 9223372036854775808) :
    Ex X L H (.binOp .sub T o o' T') ty (.int .i64 (m - n)) := by
  intro a w ha hm _ _ _ _; simp [execOp, ha.eval h, ha.eval h', eqGuard, binOp, Op.intArith, i64_in b1 b2]
theorem ex_mul (h : ev L o = some (.int .i64 m)) (h' : ev L o' = some (.int .i64 n)) (b1 : -9223372036854775808 ≤ m * n) (b2 : m * n < 9223372036854775808) :
    Ex X L H (.binOp .mul T o o' T') ty (.int .i64 (m * n)) := by
  intro a w ha hm _ _ _ _; simp [execOp, ha.eval h, ha.eval h', eqGuard, binOp, Op.intArith, i64_in b1 b2]
/-- Sums whose bounds are not known. -/
theorem ex_addw (h : ev L o = some (.int .i64 m)) (h' : ev L o' = some (.int .i64 n)) : Ex X L H (.binOp .add T o o' T') ty (.int .i64 (IntKind.i64.wrap (m + n))) := by
  intro a w ha hm _ _ _ _; simp [execOp, ha.eval h, ha.eval h', eqGuard, binOp, Op.intArith]
theorem ex_subw (h : ev L o = some (.int .i64 m)) (h' : ev L o' = some (.int .i64 n)) : Ex X L H (.binOp .sub T o o' T') ty (.int .i64 (IntKind.i64.wrap (m - n))) := by
  intro a w ha hm _ _ _ _; simp [execOp, ha.eval h, ha.eval h', eqGuard, binOp, Op.intArith]
theorem ex_rem (h : ev L o = some (.int .i64 m)) (h' : ev L o' = some (.int .i64 n)) (h0 : 0 ≤ m) (hn : n ≠ 0) :
    Ex X L H (.binOp .rem T o o' T') ty (.int .i64 (m % n)) := by
  intro a w ha hm _ _ _ _; simp [execOp, ha.eval h, ha.eval h', eqGuard, binOp, Op.intDiv, hn, Int.tmod_eq_emod_of_nonneg h0]
theorem ex_remt (h : ev L o = some (.int .i64 m)) (h' : ev L o' = some (.int .i64 n)) (hn : n ≠ 0) :
    Ex X L H (.binOp .rem T o o' T') ty (.int .i64 (m.tmod n)) := by
  intro a w ha hm _ _ _ _; simp [execOp, ha.eval h, ha.eval h', eqGuard, binOp, Op.intDiv, hn]
theorem ex_quo (h : ev L o = some (.int .i64 m)) (h' : ev L o' = some (.int .i64 n)) (h0 : 0 ≤ m) (hm' : m < 9223372036854775808) (hn : 0 < n) :
    Ex X L H (.binOp .quo T o o' T') ty (.int .i64 (m / n)) := by
  intro a w ha hm _ _ _ _
  have e : m.tdiv n = m / n := Int.tdiv_eq_ediv_of_nonneg h0
  have h1 : 0 ≤ m / n := Int.ediv_nonneg h0 (by omega)
  have h2 : m / n ≤ m := Int.ediv_le_self _ h0
  have hn' : n ≠ 0 := by omega
  simp only [execOp, ha.eval h, ha.eval h', eqGuard, binOp, Op.intDiv]
  simp [hn', e, i64_in (by omega : -9223372036854775808 ≤ m / n) (by omega)]
theorem ex_neg (h : ev L o = some (.int .i64 m)) (b1 : -9223372036854775808 < m) (b2 : m ≤ 9223372036854775808) : Ex X L H (.unOp .neg T o) ty (.int .i64 (-m)) := by
  intro a w ha hm _ _ _ _
  have := i64_in (n := -m) (by omega) (by omega)
  simp [execOp, ha.eval h, Op.unary, Op.intArith, this]

theorem ex_lss {k : IntKind} (h : ev L o = some (.int k m)) (h' : ev L o' = some (.int k n)) : Ex X L H (.binOp .lss T o o' T') ty (.bool (decide (m < n))) := by
  intro a w ha hm _ _ _ _; simp [execOp, ha.eval h, ha.eval h', eqGuard, binOp, Op.intCmp]
theorem ex_leq {k : IntKind} (h : ev L o = some (.int k m)) (h' : ev L o' = some (.int k n)) : Ex X L H (.binOp .leq T o o' T') ty (.bool (decide (m ≤ n))) := by
  intro a w ha hm _ _ _ _; simp [execOp, ha.eval h, ha.eval h', eqGuard, binOp, Op.intCmp]
theorem ex_gtr {k : IntKind} (h : ev L o = some (.int k m)) (h' : ev L o' = some (.int k n)) : Ex X L H (.binOp .gtr T o o' T') ty (.bool (decide (n < m))) := by
  intro a w ha hm _ _ _ _; simp [execOp, ha.eval h, ha.eval h', eqGuard, binOp, Op.intCmp]
theorem ex_geq {k : IntKind} (h : ev L o = some (.int k m)) (h' : ev L o' = some (.int k n)) : Ex X L H (.binOp .geq T o o' T') ty (.bool (decide (n ≤ m))) := by
  intro a w ha hm _ _ _ _; simp [execOp, ha.eval h, ha.eval h', eqGuard, binOp, Op.intCmp]
theorem int_beq (m n : Int) : (m == n) = decide (m = n) := by by_cases h : m = n <;> simp [h]
theorem int_bne (m n : Int) : (m != n) = decide (m ≠ n) := by by_cases h : m = n <;> simp [h]
theorem ex_eql {k : IntKind} (h : ev L o = some (.int k m)) (h' : ev L o' = some (.int k n)) : Ex X L H (.binOp .eql T o o' T') ty (.bool (decide (m = n))) := by
  intro a w ha hm _ _ _ _; simp [execOp, ha.eval h, ha.eval h', eqGuard, binOp, Op.intCmp, int_beq]
theorem ex_neq {k : IntKind} (h : ev L o = some (.int k m)) (h' : ev L o' = some (.int k n)) : Ex X L H (.binOp .neq T o o' T') ty (.bool (decide (m ≠ n))) := by
  intro a w ha hm _ _ _ _; simp [execOp, ha.eval h, ha.eval h', eqGuard, binOp, Op.intCmp, int_bne]
end ints

theorem run_equal_bool {P : Program} {T : TypeId} {b b' : Bool} (hT : P.underlying T = some .bool) (w : World) : (Op.equal T (.bool b) (.bool b')).run P w = .ok (b == b') w := by
  have key : ∀ d, (Op.equalIn (d + 1) T (.bool b) (.bool b')).run P w = .ok (b == b') w := fun d => by
    simp only [Op.equalIn]
    simp [underlying, program, Sem.run, hT]
  exact key 9999

section bools
variable {o o' : Operand} {T T' ty : TypeId} {b b' : Bool}
theorem ex_not {p : Prop} [Decidable p] (h : ev L o = some (.bool (decide p))) : Ex X L H (.unOp .not T o) ty (.bool (decide (¬ p))) := by
  intro a w ha hm _ _ _ _; simp [execOp, ha.eval h, Op.unary]
theorem ex_notb (h : ev L o = some (.bool b)) : Ex X L H (.unOp .not T o) ty (.bool (!b)) := by
  intro a w ha hm _ _ _ _; simp [execOp, ha.eval h, Op.unary]
theorem ex_pick {v v' : Value} {oc : Operand} (hc : ev L oc = some (.bool b)) (h : ev L o = some v) (h' : ev L o' = some v') : Ex X L H (.pick oc o o') ty (if b then v else v') := by
  intro a w ha hm _ _ _ _; simp [execOp, ha.eval hc, ha.eval h, ha.eval h', asBool]
theorem ex_pickt {v : Value} {oc : Operand} (hc : ev L oc = some (.bool b)) (hb : b = true) (h : ev L o = some v) : Ex X L H (.pick oc o o') ty v := by
  subst hb
  intro a w ha hm _ _ _ _; simp [execOp, ha.eval hc, ha.eval h, asBool]
theorem ex_pickf {v : Value} {oc : Operand} (hc : ev L oc = some (.bool b)) (hb : b = false) (h : ev L o' = some v) : Ex X L H (.pick oc o o') ty v := by
  subst hb
  intro a w ha hm _ _ _ _; simp [execOp, ha.eval hc, ha.eval h, asBool]
theorem ex_beql (hT : X.P.underlying T = some .bool) (h : ev L o = some (.bool b)) (h' : ev L o' = some (.bool b')) : Ex X L H (.binOp .eql T o o' T') ty (.bool (decide (b = b'))) := by
  intro a w ha hm _ _ _ _
  have e : (b == b') = decide (b = b') := by cases b <;> cases b' <;> rfl
  simp [execOp, ha.eval h, ha.eval h', eqGuard, binOp, run_equal_bool hT, e]
theorem ex_bneq (hT : X.P.underlying T = some .bool) (h : ev L o = some (.bool b)) (h' : ev L o' = some (.bool b')) : Ex X L H (.binOp .neq T o o' T') ty (.bool (decide (b ≠ b'))) := by
  intro a w ha hm _ _ _ _
  have e : (!(b == b')) = decide (b ≠ b') := by cases b <;> cases b' <;> rfl
  simp [execOp, ha.eval h, ha.eval h', eqGuard, binOp, run_equal_bool hT, e]
end bools

theorem ex_extract {o : Operand} {vs : Array Value} {v : Value} {i ty} (h : ev L o = some (.tuple vs)) (hi : vs[i]? = some v) : Ex X L H (.extract o i) ty v := by
  intro a w ha hm _ _ _ _; simp [execOp, ha.eval h, Instr.extract, hi]

def evs (L : List (Nat × Value)) : List Operand → Option (List Value)
  | [] => some []
  | o :: r => match ev L o, evs L r with
    | some v, some vs => some (v :: vs)
    | _, _ => none
theorem Env.evals {N ds a L} (h : Env N ds a L) : ∀ {os : List Operand} {vs : List Value}, evs L os = some vs → os.map a.eval = vs
  | [], vs, hx => by simp [evs] at hx; subst hx; rfl
  | o :: r, vs, hx => by
    simp only [evs] at hx
    cases h1 : ev L o with
    | none => simp [h1] at hx
    | some v =>
      cases h2 : evs L r with
      | none => simp [h1, h2] at hx
      | some vs' =>
        simp [h1, h2] at hx
        subst hx
        simp [h.eval h1, h.evals h2]

theorem ex_makeFunc {fn : Go.Fn} {os cs : List Operand} {vs us : List Value} {ty} (h : evs L os = some vs) (h' : evs L cs = some us) : Ex X L H (.makeFunc fn os.toArray cs.toArray) ty (.func fn vs.toArray us.toArray) := by
  intro a w ha hm _ _ _ _; simp [execOp, Instr.makeFunc, ha.evals h, ha.evals h']

theorem ex_len {o : Operand} {A n cap T T' ty} (hT : X.P.underlying T = some (.slice T')) (h : ev L o = some (.slice A n cap)) :
    Ex X L H (.call { callee := .builtin .len, args := #[o], argTypes := #[T] }) ty (.int .i64 n) := by
  intro a w ha hm _ _ _ _
  simp [execOp, resolve, invoke, builtin, Builtin.len_, ha.eval h, underlying, program, Sem.run, hT, goInt]
theorem ex_cap {o : Operand} {A n cap T T' ty} (hT : X.P.underlying T = some (.slice T')) (h : ev L o = some (.slice A n cap)) :
    Ex X L H (.call { callee := .builtin .cap, args := #[o], argTypes := #[T] }) ty (.int .i64 cap) := by
  intro a w ha hm _ _ _ _
  simp [execOp, resolve, invoke, builtin, Builtin.cap_, ha.eval h, underlying, program, Sem.run, hT, goInt]
theorem ex_min {o o' : Operand} {m n : Int} {T T' ty} (h : ev L o = some (.int .i64 m)) (h' : ev L o' = some (.int .i64 n)) :
    Ex X L H (.call { callee := .builtin .min, args := #[o, o'], argTypes := #[T, T'] }) ty (.int .i64 (min m n)) := by
  intro a w ha hm _ _ _ _
  have : (if n < m then n else m) = min m n := by omega
  simp [execOp, resolve, invoke, builtin, Builtin.min_, Builtin.min2, ha.eval h, ha.eval h', this]
theorem ex_max {o o' : Operand} {m n : Int} {T T' ty} (h : ev L o = some (.int .i64 m)) (h' : ev L o' = some (.int .i64 n)) :
    Ex X L H (.call { callee := .builtin .max, args := #[o, o'], argTypes := #[T, T'] }) ty (.int .i64 (max m n)) := by
  intro a w ha hm _ _ _ _
  have : (if m < n then n else m) = max m n := by omega
  simp [execOp, resolve, invoke, builtin, Builtin.max_, Builtin.max2, ha.eval h, ha.eval h', this]

end Go.Proofs.Yteglbaidaekccaa
