/- Structs compared; blocks that lie below; calls that turn blocks. Conditions: each law's own hypotheses. -/
import Derived.Test.YteglbaidaekccaaE6
import Derived.Laws.StructEq
namespace Go.Proofs.Yteglbaidaekccaa
open Go Go.RowKit
variable {X : Cx} {Q : Qt} {L L' : List (Nat × Value)} {H H' : List Hp} {c x y : Code} {ops : Array Oper} {rest : List Oper}

/-! ### Structs of ints -/
def intsV (l : List Int) : List Value := l.map (.int .i64)
def intFields (P : Program) : Nat → List Field → Bool
  | _, [] => true
  | k, f :: fs => f.name != "_" && f.offset == k && (match P.underlying f.type with | some (.int .i64) => true | _ => false) && intFields P (k + 1) fs
theorem run_eqFields {P : Program} {d : Nat} : ∀ (fs : List Field) (k : Nat) (xs ys : List Int) (w : World), intFields P k fs = true → xs.length = k + fs.length → ys.length = k + fs.length →
    (Op.eqFields (d + 1) (intsV xs).toArray (intsV ys).toArray fs).run P w = .ok (decide (xs.drop k = ys.drop k)) w
  | [], k, xs, ys, w, _, hx, hy => by
    simp only [Op.eqFields, Sem.run_pure]
    rw [List.drop_of_length_le (by simp at hx; omega), List.drop_of_length_le (by simp at hy; omega)]
    simp
  | f :: fs, k, xs, ys, w, h, hx, hy => by
    simp only [intFields, Bool.and_eq_true, bne_iff_ne, beq_iff_eq] at h
    obtain ⟨⟨⟨h1, h2⟩, h3⟩, h4⟩ := h
    have hu : P.underlying f.type = some (.int .i64) := by
      split at h3
      · assumption
      · cases h3
    have hag : isAggT P f.type = some false := by simp [isAggT, hu]
    have hkx : k < xs.length := by simp at hx; omega
    have hky : k < ys.length := by simp at hy; omega
    have px : ∀ w, (part f.type (intsV xs).toArray f.offset).run P w = .ok (.int .i64 xs[k]) w := fun w => run_part hag (by rw [h2]; simp [intsV, hkx])
    have py : ∀ w, (part f.type (intsV ys).toArray f.offset).run P w = .ok (.int .i64 ys[k]) w := fun w => run_part hag (by rw [h2]; simp [intsV, hky])
    have ih := run_eqFields (P := P) (d := d) fs (k + 1) xs ys w h4 (by simp at hx; omega) (by simp at hy; omega)
    simp only [Op.eqFields, if_pos h1, Sem.run_bind, px, py, Result.andThen_ok, run_equalIn_int w d f.type .i64 .i64 _ _ hu]
    have ex := List.drop_eq_getElem_cons hkx
    have ey := List.drop_eq_getElem_cons hky
    have hiff : (xs.drop k = ys.drop k) ↔ (xs[k] = ys[k] ∧ xs.drop (k + 1) = ys.drop (k + 1)) := by rw [ex, ey, List.cons.injEq]
    have hde : decide (xs.drop k = ys.drop k) = decide (xs[k] = ys[k] ∧ xs.drop (k + 1) = ys.drop (k + 1)) := decide_eq_decide.2 hiff
    by_cases he : xs[k] = ys[k]
    · have hb : (xs[k] == ys[k]) = true := by simpa using he
      simp only [hb, Bool.not_true, Bool.false_eq_true, if_false, ih]
      rw [hde]
      simp [he]
    · have hb : (xs[k] == ys[k]) = false := by simpa using he
      rw [hde]
      simp [hb, he]

def eqOK (P : Program) (t : TypeId) (n : Nat) : Bool :=
  (match P.underlying t with | some (.struct fs) => intFields P 0 fs.toList && fs.size == n | _ => false) && !P.stoodInHeld t && !P.eqGuardType P.depth t
theorem run_eqS {P : Program} {t : TypeId} {n : Nat} {xs ys : List Int} {w : World} (h : eqOK P t n = true) (hx : xs.length = n) (hy : ys.length = n) :
    (Op.equalIn 10000 t (.agg (intsV xs).toArray) (.agg (intsV ys).toArray)).run P w = .ok (decide (xs = ys)) w ∧ P.eqGuardType P.depth t = false := by
  unfold eqOK at h
  simp only [Bool.and_eq_true, Bool.not_eq_true'] at h
  obtain ⟨⟨h1, h2⟩, h3⟩ := h
  refine ⟨?_, h3⟩
  cases hu : P.underlying t with
  | none => simp [hu] at h1
  | some d =>
    cases d <;> simp only [hu, Bool.false_eq_true] at h1
    rename_i fs
    simp only [Bool.and_eq_true, beq_iff_eq] at h1
    have hf : P.fieldsOf t = fs := by simp [Program.fieldsOf, hu]
    have key : ∀ d, (Op.equalIn (d + 1 + 1) t (.agg (intsV xs).toArray) (.agg (intsV ys).toArray)).run P w = .ok (decide (xs = ys)) w := fun d => by
      rw [run_equalIn_struct w (d + 1) t _ _ (by rw [hf, hu]) h2, hf, run_eqFields fs.toList 0 xs ys w h1.1 (by simp; omega) (by simp; omega)]
      simp
    exact key 9998
theorem ex_eqlS {o o' : Operand} {T T' ty n} {xs ys : List Int} (h : eqOK X.P T n = true) (ho : ev L o = some (.agg (intsV xs).toArray)) (ho' : ev L o' = some (.agg (intsV ys).toArray)) (hx : xs.length = n) (hy : ys.length = n) {p : Prop} [Decidable p] (hp : xs = ys ↔ p) :
    Ex X L H (.binOp .eql T o o' T') ty (.bool (decide p)) := by
  intro a w ha hm _ _ _ _
  obtain ⟨h1, h2⟩ := run_eqS (w := w) h hx hy
  simp [execOp, ha.eval ho, ha.eval ho', run_eqGuard_agg w .eql T o o' _ _ h2, run_eql_struct, h1, hp]
theorem ex_neqS {o o' : Operand} {T T' ty n} {xs ys : List Int} (h : eqOK X.P T n = true) (ho : ev L o = some (.agg (intsV xs).toArray)) (ho' : ev L o' = some (.agg (intsV ys).toArray)) (hx : xs.length = n) (hy : ys.length = n) {p : Prop} [Decidable p] (hp : xs ≠ ys ↔ p) :
    Ex X L H (.binOp .neq T o o' T') ty (.bool (decide p)) := by
  intro a w ha hm _ _ _ _
  obtain ⟨h1, h2⟩ := run_eqS (w := w) h hx hy
  have : (!decide (xs = ys)) = decide p := by
    by_cases e : xs = ys
    · have : ¬ p := fun hh => (hp.2 hh) e
      simp [e, this]
    · have := hp.1 e
      simp [e, this]
  simp [execOp, ha.eval ho, ha.eval ho', run_eqGuard_agg w .neq T o o' _ _ h2, run_neq_struct, h1, this]

/-! ### A block that lay there when the call began, and is not turned -/
def RowAt (w : World) (r : Nat) (T : TypeId) (cs : List Value) : Prop := w.heap[r]? = some (.cells cs.toArray T (0, 0))
theorem RowAt.upd {w w' : World} {r T cs S} (h : RowAt w r T cs) (u : Upd S w w') (hS : r ∉ S) : RowAt w' r T cs := by
  unfold RowAt at *
  rw [u.block r (Array.getElem?_eq_some_iff.1 h).1 hS]; exact h
theorem row_at {r T cs} (h : RowAt X.w0 r T cs) (hS : r ∉ X.S) {w : World} (m : Mem X.w0 X.S H w) : RowAt w r T cs := h.upd m.upd hS
theorem rd_fix {r T cs off vs} (h0 : RowAt X.w0 r T cs) (hS : r ∉ X.S) (h : ∀ j v, vs[j]? = some v → cs[off + j]? = some v) : Rd X H r off vs := by
  intro w m j v hv
  rw [cell_of_row (row_at h0 hS m)]
  exact h j v hv
theorem rd_fix1 {r T cs off v} (h0 : RowAt X.w0 r T cs) (hS : r ∉ X.S) (h : cs[off]? = some v) : Rd X H r off [v] :=
  rd_fix h0 hS fun j u hu => by
    cases j with
    | zero => simp at hu; subst hu; simpa using h
    | succ j => simp at hu
theorem Mem.rowAt {w0 S w r T cs} (m : Mem w0 S H w) (p : Pick H (.row r T cs) H') : RowAt w r T cs := m.get p

/-! ### Calls that turn blocks of the caller's -/
def blks (l : List Hp) : List Nat := l.filterMap Hp.blk
def Hold (l : List Hp) (w : World) : Prop := (∀ h ∈ l, h.Holds w) ∧ l.Pairwise Hp.apart
theorem Hold.mem {l : List Hp} {w : World} (h : Hold l w) : Mem w (blks l) l w :=
  ⟨Upd.refl _ _, h.1, fun x hx r e => .inl (List.mem_filterMap.2 ⟨x, hx, e⟩), h.2⟩
theorem Mem.hold {w0 S K w} (m : Mem w0 S (K ++ H) w) : Hold K w := ⟨fun h hh => m.holds h (by simp [hh]), (List.pairwise_append.1 m.sep).1⟩
theorem Mem.callT {w0 S w w'} {K Hn : List Hp} (m : Mem w0 S (K ++ H) w) (c : Mem w (blks K) Hn w') : Mem w0 S (Hn ++ H) w' :=
  m.callS c fun r hr => by obtain ⟨h, hh, e⟩ := List.mem_filterMap.1 hr; exact ⟨h, hh, e⟩
/-- For some g: it returns V g; the blocks of K (and new ones) are now those of Hn g. -/
def IsT {γ : Type} (K : List Hp) (G : γ → Prop) (V : γ → Value) (Hn : γ → List Hp) (w : World) : Value → World → Prop := fun u w' => ∃ g, G g ∧ u = V g ∧ Mem w (blks K) (Hn g) w'

/-- H is K, and H' beside it. -/
inductive Picks : List Hp → List Hp → List Hp → Prop
  | nil (l : List Hp) : Picks l [] l
  | cons {l : List Hp} {h : Hp} {l1 k l2 : List Hp} (p : Pick l h l1) (t : Picks l1 k l2) : Picks l (h :: k) l2
theorem Picks.perm {H K H' : List Hp} (p : Picks H K H') : H.Perm (K ++ H') := by
  induction p with
  | nil => exact .refl _
  | cons p t ih => exact p.perm.trans (ih.cons _)

theorem wl_callT {d f ty pos after ts} {γ : Type} {G : γ → Prop} {V : γ → Value} {Hn : γ → List Hp} {K : List Hp} (os : List Operand) {vs : List Value} {as : Array Operand} (has : as = os.toArray) (hf : callOK X.P f = true) (ho : evs L os = some vs)
    (hp : Picks H K H') (hc : ∀ w, Mem X.w0 X.S (K ++ H') w → Cl X.P f vs w (IsT K G V Hn w)) (hd : Nat.blt d X.N = true) (k : ∀ g, G g → WL X ops Q rest ((d, V g) :: L) (Hn g ++ H')) :
    WL X ops Q (⟨some d, .call { callee := .value (.func f), args := as, argTypes := ts }, ty, pos, after, none⟩ :: rest) L H :=
  wl_call os has hf ho (fun w hm => hc w (hm.perm hp.perm)) hd fun _ _ _ hm ⟨g, hG, hv, hM⟩ => ⟨_, (hm.perm hp.perm).callT hM, by rw [hv]; exact k g hG⟩
theorem wl_callcT {d g f ty pos after ts} {γ : Type} {G : γ → Prop} {V : γ → Value} {Hn : γ → List Hp} {K : List Hp} (os : List Operand) {fs cs vs : List Value} {as : Array Operand} (has : as = os.toArray) (hg : ev L g = some (.func (.func f) fs.toArray cs.toArray)) (hf : callOK X.P f = true) (ho : evs L os = some vs)
    (hp : Picks H K H') (hc : ∀ w, Mem X.w0 X.S (K ++ H') w → Cl X.P f (fs ++ vs ++ cs) w (IsT K G V Hn w)) (hd : Nat.blt d X.N = true) (k : ∀ g, G g → WL X ops Q rest ((d, V g) :: L) (Hn g ++ H')) :
    WL X ops Q (⟨some d, .call { callee := .value g, args := as, argTypes := ts }, ty, pos, after, none⟩ :: rest) L H :=
  wl_callc os has hg hf ho (fun w hm => hc w (hm.perm hp.perm)) hd fun _ _ _ hm ⟨g, hG, hv, hM⟩ => ⟨_, (hm.perm hp.perm).callT hM, by rw [hv]; exact k g hG⟩
end Go.Proofs.Yteglbaidaekccaa
