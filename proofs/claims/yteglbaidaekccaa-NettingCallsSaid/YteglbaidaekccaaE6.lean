/- Typed slices, contracts' usual forms, small laws for printed walks. Conditions: each law's own hypotheses. -/
import Derived.Test.YteglbaidaekccaaE5
namespace Go.Proofs.Yteglbaidaekccaa
open Go Go.RowKit
variable {X : Cx} {Q : Qt} {L L' : List (Nat × Value)} {H H' : List Hp} {c x y : Code} {ops : Array Oper} {rest : List Oper}

theorem enc_pos {α : Type} {enc : α → List Value} {sz : Nat} (hz : ∀ x, (enc x).length = sz) {l : List α} (h : 0 < l.length * sz) : 0 < (encs enc l).length := by rw [encs_length hz]; exact h

theorem get_at {α : Type} (l : List α) (i : Int) (h0 : 0 ≤ i) (h1 : i < (l.length : Int)) : ∃ x, l[i.toNat]? = some x := by
  have : i.toNat < l.length := by omega
  exact ⟨_, List.getElem?_eq_getElem this⟩

theorem get_if {α : Type} [Inhabited α] (l : List α) (i : Int) : ∃ x, (0 ≤ i → i < (l.length : Int) → l[i.toNat]? = some x) := by
  by_cases h : 0 ≤ i ∧ i < (l.length : Int)
  · obtain ⟨x, hx⟩ := get_at l i h.1 h.2
    exact ⟨x, fun _ _ => hx⟩
  · exact ⟨default, fun h0 h1 => absurd ⟨h0, h1⟩ h⟩

theorem encI_one (l : List Int) : ∀ v ∈ encs encI l, v.oneCell' = true := by
  intro v hv
  simp only [encs, List.mem_flatMap, encI, List.mem_singleton] at hv
  obtain ⟨_, _, rfl⟩ := hv
  rfl
theorem rep_enc (n : Nat) : List.replicate n (Value.int .i64 0) = encs encI (List.replicate n (0 : Int)) := by
  induction n with
  | zero => rfl
  | succ n ih => rw [List.replicate_succ, List.replicate_succ, ih]; rfl
theorem encs_set (l : List Int) (i : Nat) (x : Int) : (encs encI l).set i (.int .i64 x) = encs encI (l.set i x) := by
  induction l generalizing i with
  | nil => rfl
  | cons y l ih =>
    cases i with
    | zero => rfl
    | succ i => exact congrArg (Value.int .i64 y :: ·) (ih i)
theorem encs_append {α : Type} (enc : α → List Value) (l m : List α) : encs enc (l ++ m) = encs enc l ++ encs enc m := by simp [encs]
theorem encs_take {α : Type} {enc : α → List Value} {sz : Nat} (hz : ∀ x, (enc x).length = sz) (l : List α) (k : Nat) : encs enc (l.take k) = (encs enc l).take (k * sz) := by
  induction l generalizing k with
  | nil => simp [encs]
  | cons x l ih =>
    cases k with
    | zero => simp [encs]
    | succ k =>
      have := ih k
      simp only [encs, List.take_succ_cons, List.flatMap_cons] at this ⊢
      rw [this, Nat.succ_mul, Nat.add_comm, ← hz x, List.take_length_add_append]
theorem encs_drop {α : Type} {enc : α → List Value} {sz : Nat} (hz : ∀ x, (enc x).length = sz) (l : List α) (k : Nat) : encs enc (l.drop k) = (encs enc l).drop (k * sz) := by
  induction l generalizing k with
  | nil => simp [encs]
  | cons x l ih =>
    cases k with
    | zero => simp [encs]
    | succ k =>
      have := ih k
      simp only [encs, List.drop_succ_cons, List.flatMap_cons] at this ⊢
      rw [this, Nat.succ_mul, Nat.add_comm, ← hz x, List.drop_length_add_append]

/-- One cell of an []int of the call's own. -/
theorem wl_storeI {T ty pos after o o' A k v n cap T' i} {xs : List Int} (ho : ev L o = some (.pointer (some ⟨bOf A, oOf A + Int.toNat i * 1, none⟩))) (hv : ev L o' = some (.int .i64 v)) (hs : szT X.P T = some 1)
    (p : Pick H (.own A n cap T' k (encs encI xs)) H') (h0 : 0 ≤ i) (hk : i < xs.length) (kk : WL X ops Q rest L (.own A n cap T' k (encs encI (xs.set i.toNat v)) :: H')) : WL X ops Q (⟨none, .store T o o', ty, pos, after, none⟩ :: rest) L H := by
  refine wl_storeO (k := i.toNat) ho rfl (by rw [Nat.mul_one]) hv rfl hs p (by rw [encs_length encI_len]; omega) ?_
  rw [encs_set]; exact kk

theorem wl_nilOwn (T sz : Nat) (h : WL X ops Q rest L (.own none 0 0 T sz [] :: H)) : WL X ops Q rest L H := by
  intro a w ha hm
  refine h a w ha ⟨hm.upd, ?_, ?_, ?_⟩
  · intro x hx
    rcases List.mem_cons.1 hx with rfl | hx
    · exact ⟨by simp, Nat.le_refl _, Nat.zero_le _, .inl ⟨rfl, rfl, rfl⟩⟩
    · exact hm.holds x hx
  · intro x hx r e
    rcases List.mem_cons.1 hx with rfl | hx
    · simp [Hp.blk] at e
    · exact hm.fresh x hx r e
  · exact List.pairwise_cons.2 ⟨fun x _ r e => by simp [Hp.blk] at e, hm.sep⟩
theorem wc_nilOwn (T sz : Nat) (h : WC X c Q L (.own none 0 0 T sz [] :: H)) : WC X c Q L H := by
  intro a w ha hm
  refine h a w ha ⟨hm.upd, ?_, ?_, ?_⟩
  · intro x hx
    rcases List.mem_cons.1 hx with rfl | hx
    · exact ⟨by simp, Nat.le_refl _, Nat.zero_le _, .inl ⟨rfl, rfl, rfl⟩⟩
    · exact hm.holds x hx
  · intro x hx r e
    rcases List.mem_cons.1 hx with rfl | hx
    · simp [Hp.blk] at e
    · exact hm.fresh x hx r e
  · exact List.pairwise_cons.2 ⟨fun x _ r e => by simp [Hp.blk] at e, hm.sep⟩
theorem pe_nilOwn {e : Exit} (T sz : Nat) (h : PE X Q e L (.own none 0 0 T sz [] :: H)) : PE X Q e L H := by
  intro a w ha hm
  refine h a w ha ⟨hm.upd, ?_, ?_, ?_⟩
  · intro x hx
    rcases List.mem_cons.1 hx with rfl | hx
    · exact ⟨by simp, Nat.le_refl _, Nat.zero_le _, .inl ⟨rfl, rfl, rfl⟩⟩
    · exact hm.holds x hx
  · intro x hx r e
    rcases List.mem_cons.1 hx with rfl | hx
    · simp [Hp.blk] at e
    · exact hm.fresh x hx r e
  · exact List.pairwise_cons.2 ⟨fun x _ r e => by simp [Hp.blk] at e, hm.sep⟩

/-- append of typed lists. -/
theorem wl_appendE {α : Type} {enc : α → List Value} {d T E ty pos after o o' A n cap sz B m c2 z by'} {xs ys : List α} (hl : ∀ x, (enc x).length = sz) (he1 : ∀ l : List α, ∀ v ∈ encs enc l, v.oneCell' = true) (ho : ev L o = some (.slice A n cap)) (ho' : ev L o' = some (.slice B m c2))
    (hT : X.P.underlying T = some (.slice E)) (hs : szT X.P E = some sz) (hz : zeT X.P E = some z) (hzs : z.cells.size = sz) (hby : byT X.P E = some by') (hsz : Nat.blt 0 sz = true)
    (p : Pick H (.own A n cap E sz (encs enc xs)) H') (hB : SlX X H B (encs enc ys)) (hm : ys.length = m) (_hn : xs.length = n)
    (hn1 : (n + m) * by' ≤ 140737488355328) (hn2 : n + m ≤ 1000000000000) (hd : Nat.blt d X.N = true)
    (k : ∀ A' cap', WL X ops Q rest ((d, .slice A' (xs ++ ys).length cap') :: L) (.own A' (xs ++ ys).length cap' E sz (encs enc (xs ++ ys)) :: H')) :
    WL X ops Q (⟨some d, .call { callee := .builtin .append, args := #[o, o'], argTypes := #[T, T] }, ty, pos, after, none⟩ :: rest) L H :=
  wl_append ho ho' hT hs hz hzs hby hsz p hB (by rw [encs_length hl, hm]) (he1 ys) hn1 hn2 hd fun A' c' => by rw [← encs_append, ← hm, ← _hn, ← List.length_append]; exact k A' c'

/-- The guard is met: as if there were none. -/
theorem wl_pass {dst op ty pos after j g b t} {o : Oper} (hj : ops[j]? = some o) (hdst : o.dst = some t) (hb : lk L t = some (.bool b)) (hg : b = g)
    (k : WL X ops Q (⟨dst, op, ty, pos, after, none⟩ :: rest) L H) : WL X ops Q (⟨dst, op, ty, pos, after, some (j, g)⟩ :: rest) L H := by
  intro a w ha hm
  have h := k a w ha hm
  unfold wpListIn at h ⊢
  have hw : Region.wanted ⟨dst, op, ty, pos, after, some (j, g)⟩ (yielded ops a.tmps) = true := by
    have := ha.get t _ hb
    simp [Region.wanted, yielded, hj, hdst, this, hg]
  rw [if_pos hw]
  exact h

theorem slspot {A : Option Addr} {vs : List Value} {w : World} (h : Sl w A vs) (hv : 0 < vs.length) : ∀ a, A = some a → a.spot = none := by
  rcases h with h | ⟨b, off, e, _, _⟩
  · subst h; simp at hv
  · intro a ha; rw [e] at ha; cases ha; rfl

/-! ### Results that are slices of the callee's own -/
def IsS (n : Nat) (T sz : Nat) (xs : List Value) (w : World) : Value → World → Prop := fun u w' => ∃ A cap, u = .slice A n cap ∧ Mem w [] [.own A n cap T sz xs] w'
def IsS2 (n : Nat) (T sz : Nat) (xs : List Value) (v : Value) (w : World) : Value → World → Prop := fun u w' => ∃ A cap, u = .tuple #[.slice A n cap, v] ∧ Mem w [] [.own A n cap T sz xs] w'

theorem isS_mk {w w' : World} {A : Option Addr} {n cap T sz : Nat} {xs ys : List Value} {n' : Nat} (m : Mem w [] H w') (p : Pick H (.own A n' cap T sz ys) H') (e : ys = xs) (hn : n' = n := by rfl) : IsS n T sz xs w (.slice A n' cap) w' := by
  subst e; subst hn; exact ⟨A, cap, rfl, m.ent (.cons p rfl (.nil _))⟩
theorem isS2_mk {w w' : World} {A : Option Addr} {n cap T sz : Nat} {xs ys : List Value} {u v : Value} {n' : Nat} (m : Mem w [] H w') (p : Pick H (.own A n' cap T sz ys) H') (e : ys = xs) (e' : u = v) (hn : n' = n := by rfl) : IsS2 n T sz xs v w (.tuple #[.slice A n' cap, u]) w' := by
  subst e; subst e'; subst hn; exact ⟨A, cap, rfl, m.ent (.cons p rfl (.nil _))⟩

theorem wl_callS {d f ty pos after ts n T sz xs} (os : List Operand) {vs : List Value} {as : Array Operand} (has : as = os.toArray) (hf : callOK X.P f = true) (ho : evs L os = some vs)
    (hc : ∀ w, Mem X.w0 X.S H w → Cl X.P f vs w (IsS n T sz xs w)) (hd : Nat.blt d X.N = true) (k : ∀ A cap, WL X ops Q rest ((d, .slice A n cap) :: L) (.own A n cap T sz xs :: H)) :
    WL X ops Q (⟨some d, .call { callee := .value (.func f), args := as, argTypes := ts }, ty, pos, after, none⟩ :: rest) L H :=
  wl_call os has hf ho hc hd fun _ _ _ hm ⟨A, cap, hv, hM⟩ => ⟨_, hm.call hM, by rw [hv]; exact k A cap⟩
theorem wl_callS2 {d f ty pos after ts n T sz xs v} (os : List Operand) {vs : List Value} {as : Array Operand} (has : as = os.toArray) (hf : callOK X.P f = true) (ho : evs L os = some vs)
    (hc : ∀ w, Mem X.w0 X.S H w → Cl X.P f vs w (IsS2 n T sz xs v w)) (hd : Nat.blt d X.N = true) (k : ∀ A cap, WL X ops Q rest ((d, .tuple #[.slice A n cap, v]) :: L) (.own A n cap T sz xs :: H)) :
    WL X ops Q (⟨some d, .call { callee := .value (.func f), args := as, argTypes := ts }, ty, pos, after, none⟩ :: rest) L H :=
  wl_call os has hf ho hc hd fun _ _ _ hm ⟨A, cap, hv, hM⟩ => ⟨_, hm.call hM, by rw [hv]; exact k A cap⟩

theorem run_equal_nilR {P : Program} {T E : TypeId} {A : Option Addr} {n c : Nat} (hT : P.underlying T = some (.slice E)) (w : World) : (Op.equal T (.slice A n c) (.slice none 0 0)).run P w = .ok A.isNone w := by
  have key : ∀ d, (Op.equalIn (d + 1) T (.slice A n c) (.slice none 0 0)).run P w = .ok A.isNone w := fun d => by
    cases A <;> simp [Op.equalIn, run_underlying hT]
  exact key 9999
theorem isNone_dec (A : Option Addr) : A.isNone = decide (A = none) := by cases A <;> simp
theorem ex_eqlnilR {o o' : Operand} {T T' E ty A n c} (hT : X.P.underlying T = some (.slice E)) (ho : ev L o = some (.slice A n c)) (ho' : ev L o' = some (.slice none 0 0)) : Ex X L H (.binOp .eql T o o' T') ty (.bool (decide (A = none))) := by
  intro a w ha hm _ _ _ _
  simp [execOp, ha.eval ho, ha.eval ho', eqGuard, binOp, run_equal_nilR hT, isNone_dec]
theorem ex_neqnilR {o o' : Operand} {T T' E ty A n c} (hT : X.P.underlying T = some (.slice E)) (ho : ev L o = some (.slice A n c)) (ho' : ev L o' = some (.slice none 0 0)) : Ex X L H (.binOp .neq T o o' T') ty (.bool (decide (A ≠ none))) := by
  intro a w ha hm _ _ _ _
  simp [execOp, ha.eval ho, ha.eval ho', eqGuard, binOp, run_equal_nilR hT, isNone_dec]

theorem ex_nilCheck {o : Operand} {a : Addr} {ty} (ho : ev L o = some (.pointer (some a))) : Ex X L H (.nilCheck o) ty (.pointer (some a)) := by
  intro b w ha hm _ _ _ _; simp [execOp, ha.eval ho]
theorem ex_nilCheckF {o : Operand} {f : FuncId} {fs cs : Array Value} {ty} (ho : ev L o = some (.func (.func f) fs cs)) : Ex X L H (.nilCheck o) ty (.func (.func f) fs cs) := by
  intro b w ha hm _ _ _ _; simp [execOp, ha.eval ho]
end Go.Proofs.Yteglbaidaekccaa
