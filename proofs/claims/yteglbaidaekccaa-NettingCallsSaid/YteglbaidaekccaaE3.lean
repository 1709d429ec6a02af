/- Reads, stores, allocation, appends, calls. Conditions: each law's own hypotheses. -/
import Derived.Test.YteglbaidaekccaaE2
import Derived.Laws.CopyRow
import Derived.Laws.Cells
import Derived.Laws.Entries
namespace Go.Proofs.Yteglbaidaekccaa
open Go Go.RowKit
variable {X : Cx} {Q : Qt} {L L' : List (Nat × Value)} {H H' : List Hp} {c x y : Code} {ops : Array Oper} {rest : List Oper}

/-! ### What is known of types -/
def isAggT (P : Program) (t : TypeId) : Option Bool :=
  (P.underlying t).map fun d => match d with | .struct _ => true | .array _ _ => true | _ => false
def szT (P : Program) (t : TypeId) : Option Nat := (P.info? t).map (·.size)
def byT (P : Program) (t : TypeId) : Option Nat := (P.info? t).map (·.bytes)
def zeT (P : Program) (t : TypeId) : Option Value := (P.info? t).bind (·.zero)

section runs
variable {P : Program} {t : TypeId} {w : World}
theorem run_isAggT {b : Bool} (h : isAggT P t = some b) : (isAgg t).run P w = .ok b w := by
  unfold isAggT at h
  cases hu : P.underlying t with
  | none => simp [hu] at h
  | some d =>
    simp [hu] at h
    simp only [isAgg, Sem.run_bind, run_underlying hu, Result.andThen_ok]
    cases d <;> simp_all
theorem run_szT {n : Nat} (h : szT P t = some n) : (sizeOf t).run P w = .ok n w := by
  unfold szT at h
  cases hi : P.info? t with
  | none => simp [hi] at h
  | some i => simp [hi] at h; simp [sizeOf, typeInfo, program, Sem.run, hi, h]
theorem run_zeT {z : Value} (h : zeT P t = some z) : (zeroValue t).run P w = .ok z w := by
  unfold zeT at h
  cases hi : P.info? t with
  | none => simp [hi] at h
  | some i => simp [hi] at h; simp [zeroValue, typeInfo, program, Sem.run, hi, h]
end runs

theorem addr_add (b off j : Nat) : (⟨b, off, none⟩ : Addr).add j = ⟨b, off + j, none⟩ := by
  unfold Addr.add; split <;> simp_all

/-! ### What lies where -/
/-- From ⟨b, off⟩ on the cells read as vs. -/
def Rd (X : Cx) (H : List Hp) (b off : Nat) (vs : List Value) : Prop :=
  ∀ w, Mem X.w0 X.S H w → ∀ j v, vs[j]? = some v → w.cell? ⟨b, off + j, none⟩ = some v

theorem Rd.ent {b off vs} (h : Rd X H' b off vs) (e : Ent H H') : Rd X H b off vs := fun w m => h w (m.ent e)

theorem cell_of_row {w : World} {r : Nat} {cs : List Value} {T} (h : w.heap[r]? = some (.cells cs.toArray T (0, 0))) (k : Nat) : w.cell? ⟨r, k, none⟩ = cs[k]? := by
  simp [World.cell?, h]

theorem rd_row {r T cs off vs} (p : Pick H (.row r T cs) H') (h : ∀ j v, vs[j]? = some v → cs[off + j]? = some v) : Rd X H r off vs := by
  intro w m j v hv
  rw [cell_of_row (m.get p)]
  exact h j v hv
theorem rd_row1 {r T cs off v} (p : Pick H (.row r T cs) H') (h : cs[off]? = some v) : Rd X H r off [v] :=
  rd_row p fun j u hu => by
    cases j with
    | zero => simp at hu; subst hu; simpa using h
    | succ j => simp at hu
theorem rd_rowAll {r T cs} (p : Pick H (.row r T cs) H') : Rd X H r 0 cs := rd_row p fun j u hu => by simpa using hu

def bOf : Option Addr → Nat
  | some a => a.block
  | none => 0
def oOf : Option Addr → Nat
  | some a => a.off
  | none => 0

/-- The slice's base A: behind it lie vs. -/
def Sl (w : World) (A : Option Addr) (vs : List Value) : Prop :=
  vs = [] ∨ ∃ b off, A = some ⟨b, off, none⟩ ∧ b < w.heap.size ∧ ∀ j v, vs[j]? = some v → w.cell? ⟨b, off + j, none⟩ = some v
def SlX (X : Cx) (H : List Hp) (A : Option Addr) (vs : List Value) : Prop := ∀ w, Mem X.w0 X.S H w → Sl w A vs

theorem SlX.ent {A vs} (h : SlX X H' A vs) (e : Ent H H') : SlX X H A vs := fun w m => h w (m.ent e)
theorem Sl.upd {w w' : World} {A vs} (h : Sl w A vs) (u : Upd [] w w') : Sl w' A vs := by
  rcases h with h | ⟨b, off, e, hb, hc⟩
  · exact .inl h
  · exact .inr ⟨b, off, e, Nat.lt_of_lt_of_le hb u.size, fun j v hv => by rw [World.cell?_of_block (w := w) (u.block b hb (by simp))]; exact hc j v hv⟩
theorem Sl.updS {w w' : World} {A vs S} (h : Sl w A vs) (u : Upd S w w') (hS : ∀ b off, A = some ⟨b, off, none⟩ → b ∉ S) : Sl w' A vs := by
  rcases h with h | ⟨b, off, e, hb, hc⟩
  · exact .inl h
  · exact .inr ⟨b, off, e, Nat.lt_of_lt_of_le hb u.size, fun j v hv => by rw [World.cell?_of_block (w := w) (u.block b hb (hS b off e))]; exact hc j v hv⟩
theorem sl_arg {A vs} (h : Sl X.w0 A vs) (hS : X.S = []) : SlX X H A vs := fun _ m => h.upd (by have := m.upd; rwa [hS] at this)
theorem sl_argS {A vs} (h : Sl X.w0 A vs) (hS : ∀ b off, A = some ⟨b, off, none⟩ → b ∉ X.S) : SlX X H A vs := fun _ m => h.updS m.upd hS
theorem sl_row {r T cs k vs} (p : Pick H (.row r T cs) H') (h : ∀ j v, vs[j]? = some v → cs[k + j]? = some v) : SlX X H (some ⟨r, k, none⟩) vs := fun w m =>
  .inr ⟨r, k, rfl, (m.get p).lt rfl, fun j v hv => by rw [cell_of_row (m.get p)]; exact h j v hv⟩
theorem own_sl {w : World} {A n cap T sz xs} (h : (Hp.own A n cap T sz xs).Holds w) : Sl w A xs := by
  obtain ⟨h1, h2, h3, ⟨h4, h5, h6⟩ | ⟨r, rfl, rst, hr, hl⟩⟩ := h
  · subst h5; exact .inl (List.eq_nil_of_length_eq_zero (by simpa using h1))
  · refine .inr ⟨r, 0, rfl, (Array.getElem?_eq_some_iff.1 hr).1, fun j v hv => ?_⟩
    rw [cell_of_row hr]
    have := (List.getElem?_eq_some_iff.1 hv).1
    simp [List.getElem?_append_left this, hv]
theorem sl_own {A n cap T sz xs} (p : Pick H (.own A n cap T sz xs) H') : SlX X H A xs := fun _ m => own_sl (m.get p)
theorem Sl.drop {w : World} {A vs} (h : Sl w A vs) (k : Nat) : Sl w (A.map (·.add k)) (vs.drop k) := by
  rcases h with h | ⟨b, off, e, hb, hc⟩
  · exact .inl (by simp [h])
  · subst e
    refine .inr ⟨b, off + k, by simp [addr_add], hb, fun j v hv => ?_⟩
    rw [Nat.add_assoc]; exact hc (k + j) v (by simpa using hv)
theorem Sl.take {w : World} {A vs} (h : Sl w A vs) (k : Nat) : Sl w A (vs.take k) := by
  rcases h with h | ⟨b, off, e, hb, hc⟩
  · exact .inl (by simp [h])
  · refine .inr ⟨b, off, e, hb, fun j v hv => hc j v ?_⟩
    have hl := (List.getElem?_eq_some_iff.1 hv).1
    simp only [List.length_take] at hl
    rw [List.getElem?_take] at hv
    split at hv
    · exact hv
    · cases hv
theorem Sl.nil (w : World) (A) : Sl w A [] := .inl rfl

theorem rd_sl {A vs k v} (h : SlX X H A vs) (hk : vs[k]? = some v) : Rd X H (bOf A) (oOf A + k) [v] := by
  intro w m j u hu
  cases j with
  | succ j => simp at hu
  | zero =>
    simp at hu; subst hu
    rcases h w m with hn | ⟨b, off, e, hb, hc⟩
    · subst hn; simp at hk
    · subst e; simpa [bOf, oOf] using hc k v hk
theorem rd_sls {A vs k us} (h : SlX X H A vs) (hk : ∀ j u, us[j]? = some u → vs[k + j]? = some u) : Rd X H (bOf A) (oOf A + k) us := by
  intro w m j u hu
  have hk' := hk j u hu
  rcases h w m with hn | ⟨b, off, e, hb, hc⟩
  · subst hn; simp at hk'
  · subst e; simpa [bOf, oOf, Nat.add_assoc] using hc _ _ hk'

/-! Lists of elements, each of so many cells. -/
def encs {α : Type} (enc : α → List Value) (l : List α) : List Value := l.flatMap enc
theorem encs_length {α : Type} {enc : α → List Value} {sz : Nat} (hz : ∀ x, (enc x).length = sz) (l : List α) : (encs enc l).length = l.length * sz := by
  induction l with
  | nil => simp [encs]
  | cons x l ih => simp only [encs, List.flatMap_cons, List.length_append, hz, List.length_cons, Nat.succ_mul] at *; omega
theorem encs_get {α : Type} {enc : α → List Value} {sz : Nat} (hz : ∀ x, (enc x).length = sz) : ∀ {l : List α} {i : Nat} {x : α}, l[i]? = some x → ∀ {j : Nat} {v : Value}, (enc x)[j]? = some v → (encs enc l)[i * sz + j]? = some v
  | [], i, x, h, _, _, _ => by simp at h
  | y :: l, 0, x, h, j, v, hv => by
    simp at h; subst h
    have hj := (List.getElem?_eq_some_iff.1 hv).1
    simp [encs, List.flatMap_cons, List.getElem?_append_left hj, hv]
  | y :: l, i + 1, x, h, j, v, hv => by
    have := encs_get hz (l := l) (i := i) (x := x) (by simpa using h) hv
    simp only [encs, List.flatMap_cons]
    rw [List.getElem?_append_right (by rw [hz, Nat.succ_mul]; omega), hz]
    rw [show (i + 1) * sz + j - sz = i * sz + j by rw [Nat.succ_mul]; omega]
    exact this
theorem rd_enc {α : Type} {enc : α → List Value} {sz : Nat} {A : Option Addr} {l : List α} {i j : Nat} {x : α} {v : Value} (hz : ∀ x, (enc x).length = sz) (h : SlX X H A (encs enc l)) (hi : l[i]? = some x) (hj : (enc x)[j]? = some v) :
    Rd X H (bOf A) (oOf A + i * sz + j) [v] := by
  rw [Nat.add_assoc]; exact rd_sl h (encs_get hz hi hj)
theorem rd_encs {α : Type} {enc : α → List Value} {sz : Nat} {A : Option Addr} {l : List α} {i : Nat} {x : α} (hz : ∀ x, (enc x).length = sz) (h : SlX X H A (encs enc l)) (hi : l[i]? = some x) :
    Rd X H (bOf A) (oOf A + i * sz) (enc x) := rd_sls h fun _ _ hj => encs_get hz hi hj

def encI (n : Int) : List Value := [.int .i64 n]
theorem encI_len (n : Int) : (encI n).length = 1 := rfl
theorem rd_int {A : Option Addr} {l : List Int} {i : Nat} {x : Int} (h : SlX X H A (encs encI l)) (hi : l[i]? = some x) : Rd X H (bOf A) (oOf A + i * 1) [.int .i64 x] := rd_encs (enc := encI) encI_len h hi

/-! ### Addresses -/
theorem run_fieldPlace {P : Program} {w : World} {b off : Nat} {f : Field} {n : Nat} (h : szT P f.type = some n) (hn : n ≠ 0) :
    (fieldPlace ⟨b, off, none⟩ f).run P w = .ok ⟨b, off + f.offset, none⟩ w := by
  simp [fieldPlace, run_szT h, hn, addr_add]

theorem ex_fieldAddr {o : Operand} {T i ty b off n} {fs : Array Field} {f : Field} (ho : ev L o = some (.pointer (some ⟨b, off, none⟩)))
    (hT : X.P.underlying T = some (.struct fs)) (hf : fs[i]? = some f) (hs : szT X.P f.type = some n) (hn : Nat.blt 0 n = true) {off' : Nat} (he : off' = off + f.offset) :
    Ex X L H (.fieldAddr T o i) ty (.pointer (some ⟨b, off', none⟩)) := by
  intro a w ha hm _ _ _ _
  have hn' : n ≠ 0 := by have := nblt hn; omega
  simp [execOp, Instr.fieldAt, run_underlying hT, hf, Instr.sureAddr, ha.eval ho, run_fieldPlace hs hn', he]

/-- The address of an element of a slice. -/
theorem ex_indexAddr {o o' : Operand} {T E ty A n cap i sz vs k} (ho : ev L o = some (.slice A n cap)) (ho' : ev L o' = some (.int k i))
    (hT : X.P.underlying T = some (.slice E)) (hs : szT X.P E = some sz) (h : SlX X H A vs) (h0 : 0 ≤ i) (hi : i < n) (hv : 0 < vs.length) :
    Ex X L H (.indexAddr T o o') ty (.pointer (some ⟨bOf A, oOf A + i.toNat * sz, none⟩)) := by
  intro a w ha hm _ _ _ _
  rcases h w hm with hn | ⟨b, off, e, hb, hc⟩
  · subst hn; simp at hv
  · subst e
    simp [execOp, Instr.indexAt, ha.eval ho, ha.eval ho', asIntOf, run_underlying hT, h0, hi, run_szT hs, addr_add, bOf, oOf]
theorem ex_indexAddrN {o o' : Operand} {T E ty A n cap i sz k b off} (hA : A = some ⟨b, off, none⟩) (ho : ev L o = some (.slice A n cap)) (ho' : ev L o' = some (.int k i))
    (hT : X.P.underlying T = some (.slice E)) (hs : szT X.P E = some sz) (h0 : 0 ≤ i) (hi : i < n) :
    Ex X L H (.indexAddr T o o') ty (.pointer (some ⟨bOf A, oOf A + i.toNat * sz, none⟩)) := by
  subst hA
  intro a w ha hm _ _ _ _
  simp [execOp, Instr.indexAt, ha.eval ho, ha.eval ho', asIntOf, run_underlying hT, h0, hi, run_szT hs, addr_add, bOf, oOf]
/-- The address of an element of an array in memory. -/
theorem ex_indexAddrA {o o' : Operand} {T E ty b off n i sz k} (ho : ev L o = some (.pointer (some ⟨b, off, none⟩))) (ho' : ev L o' = some (.int k i))
    (hT : X.P.underlying T = some (.array n E)) (hs : szT X.P E = some sz) (h0 : 0 ≤ i) (hi : i < n) {off' : Nat} (he : off' = off + i.toNat * sz) :
    Ex X L H (.indexAddr T o o') ty (.pointer (some ⟨b, off', none⟩)) := by
  intro a w ha hm _ _ _ _
  simp [execOp, Instr.indexAt, ha.eval ho, ha.eval ho', asIntOf, run_underlying hT, h0, hi, run_szT hs, addr_add, Instr.sureAddr, he]

/-! ### Loads -/
theorem ex_load {o : Operand} {T ty b off v} (ho : ev L o = some (.pointer (some ⟨b, off, none⟩))) (hT : isAggT X.P T = some false) (h : Rd X H b off [v]) :
    Ex X L H (.load T o) ty v := by
  intro a w ha hm _ _ _ _
  have hc := h w hm 0 v rfl
  simp only [Nat.add_zero] at hc
  simp [execOp, Instr.loadAt, ha.eval ho, Instr.sureAddr, loadVar, run_isAggT hT, load, Sem.run, hc]
theorem ex_loadS {o : Operand} {T ty b off vs n} (ho : ev L o = some (.pointer (some ⟨b, off, none⟩))) (hT : isAggT X.P T = some true) (hs : szT X.P T = some n) (hl : vs.length = n) (h : Rd X H b off vs) :
    Ex X L H (.load T o) ty (.agg vs.toArray) := by
  subst hl
  intro a w ha hm _ _ _ _
  have hc : ∀ j v, vs[j]? = some v → w.cell? ((⟨b, off, none⟩ : Addr).add j) = some v := fun j v hv => by rw [addr_add]; exact h w hm j v hv
  simp [execOp, Instr.loadAt, ha.eval ho, Instr.sureAddr, loadVar, run_isAggT hT, run_szT hs, run_loadCells_list (P := X.P) w _ vs hc]

/-! ### Steps that turn memory -/
theorem wl_val {d op ty pos after} (hd : Nat.blt d X.N = true) (hc : calmOp op = true)
    (h : ∀ a w, Env X.N X.ds a L → Mem X.w0 X.S H w → ∃ v w' H1, (∀ dst pos after guard, (execOp a.eval ⟨dst, op, ty, pos, after, guard⟩).run X.P w = .ok (.value v) w') ∧ Mem X.w0 X.S H1 w' ∧ WL X ops Q rest ((d, v) :: L) H1) :
    WL X ops Q (⟨some d, op, ty, pos, after, none⟩ :: rest) L H := by
  intro a w ha hm
  obtain ⟨v, w', H1, hr, hm', hk⟩ := h a w ha hm
  unfold wpListIn
  have hw : Region.wanted ⟨some d, op, ty, pos, after, none⟩ (yielded ops a.tmps) = true := rfl
  rw [if_pos hw]
  refine ⟨fun _ _ => trivial, ?_⟩
  rw [Oper.semAt_eq _ _ _ (calm_defer hc), hr]
  exact hk _ _ (ha.put v (nblt hd)) hm'
theorem wl_unit {op ty pos after} (hc : calmOp op = true)
    (h : ∀ a w, Env X.N X.ds a L → Mem X.w0 X.S H w → ∃ w' H1, (∀ dst pos after guard, (execOp a.eval ⟨dst, op, ty, pos, after, guard⟩).run X.P w = .ok .skip w') ∧ Mem X.w0 X.S H1 w' ∧ WL X ops Q rest L H1) :
    WL X ops Q (⟨none, op, ty, pos, after, none⟩ :: rest) L H := by
  intro a w ha hm
  obtain ⟨w', H1, hr, hm', hk⟩ := h a w ha hm
  unfold wpListIn
  have hw : Region.wanted ⟨none, op, ty, pos, after, none⟩ (yielded ops a.tmps) = true := rfl
  rw [if_pos hw]
  refine ⟨fun _ _ => trivial, ?_⟩
  rw [Oper.semAt_eq _ _ _ (calm_defer hc), hr]
  exact hk _ _ ha hm'

theorem run_newVar {P : Program} {w : World} (T : TypeId) (v : Value) : (newVar T v).run P w = .ok ⟨w.heap.size, 0, none⟩ (w.alloc (.cells v.cells T)) := by
  simp only [newVar, newRow, newObj, Sem.run_bind, Sem.run, Result.andThen_ok, Sem.run_pure]; rfl

theorem wl_alloc {d T ty pos after z cs} (hz : zeT X.P T = some z) (hcs : z.cells = List.toArray cs) (hd : Nat.blt d X.N = true)
    (k : ∀ r, WL X ops Q rest ((d, .pointer (some ⟨r, 0, none⟩)) :: L) (.row r T cs :: H)) : WL X ops Q (⟨some d, .alloc T, ty, pos, after, none⟩ :: rest) L H := by
  refine wl_val hd rfl fun a w ha hm => ⟨_, _, _, fun _ _ _ _ => ?_, hm.alloc T cs, k w.heap.size⟩
  simp [execOp, Instr.alloc, run_zeT hz, run_newVar, hcs]
theorem wl_box {d T ty pos after o v cs} (ho : ev L o = some v) (hcs : v.cells = List.toArray cs) (hd : Nat.blt d X.N = true)
    (k : ∀ r, WL X ops Q rest ((d, .pointer (some ⟨r, 0, none⟩)) :: L) (.row r T cs :: H)) : WL X ops Q (⟨some d, .box T o, ty, pos, after, none⟩ :: rest) L H := by
  refine wl_val hd rfl fun a w ha hm => ⟨_, _, _, fun _ _ _ _ => ?_, hm.alloc T cs, k w.heap.size⟩
  simp [execOp, Instr.box, ha.eval ho, run_newVar, hcs]

def ovr (cs : List Value) (k : Nat) (vs : List Value) : List Value := cs.take k ++ vs ++ cs.drop (k + vs.length)

theorem upd_setRow (w : World) (r : Nat) (cs : Array Value) : Upd [r] w (w.setRow r cs) :=
  ⟨rfl, rfl, rfl, by simp, fun k _ hn => setRow_other w r k _ (by simpa using hn)⟩

theorem Mem.ovrRow {w0 S H w r T cs H'} (m : Mem w0 S H w) (p : Pick H (.row r T cs) H') (cs' : List Value) :
    Mem w0 S (.row r T cs' :: H') (w.setRow r cs'.toArray) := by
  have m' := m.perm p.perm
  have := Mem.step (H1 := [.row r T cs]) (S' := [r]) (Hn := [.row r T cs']) (w := w) (w' := w.setRow r cs'.toArray) (by simpa using m') (upd_setRow w r _)
    (by simp [Hp.blk]) (by
      have h := m.get p
      simp only [Hp.Holds] at h
      simp only [List.mem_singleton, forall_eq, Hp.Holds]
      exact setRow_heap w r _ _ T _ h) (by simp [Hp.blk]) (by simp)
  simpa using this

theorem cells_one {v : Value} (h : v.oneCell' = true) : v.cells = #[v] := by cases v <;> simp_all [Value.cells, Value.oneCell']

/-- One cell of a variable. -/
theorem wl_store {T ty pos after o o' r k v T' cs} (ho : ev L o = some (.pointer (some ⟨r, k, none⟩))) (hv : ev L o' = some v) (h1 : v.oneCell' = true) (hs : szT X.P T = some 1)
    (p : Pick H (.row r T' cs) H') (hk : k < cs.length) (kk : WL X ops Q rest L (.row r T' (cs.set k v) :: H')) : WL X ops Q (⟨none, .store T o o', ty, pos, after, none⟩ :: rest) L H := by
  refine wl_unit rfl fun a w ha hm => ⟨_, _, fun _ _ _ _ => ?_, hm.setRow p k v, kk⟩
  have hh := hm.get p
  have hc : w.cell? ⟨r, k, none⟩ = some cs[k] := by rw [cell_of_row hh]; simp [hk]
  have hf : w.frozen? ⟨r, k, none⟩ = false := by simp only [Hp.Holds] at hh; simp [World.frozen?, hh]
  simp [execOp, Instr.storeAt, Instr.sureAddr, storeVar, ha.eval ho, ha.eval hv, cells_one h1, run_szT hs, storeCells, addr_add, run_store X.P w _ v _ h1, hc, hf]
/-- Several cells of a variable. -/
theorem wl_storeS {T ty pos after o o' r k T' cs n} {vs : List Value} (ho : ev L o = some (.pointer (some ⟨r, k, none⟩))) (hv : ev L o' = some (.agg vs.toArray)) (h1 : ∀ v ∈ vs, v.oneCell' = true) (hs : szT X.P T = some n) (hn : vs.length = n)
    (p : Pick H (.row r T' cs) H') (hk : k + vs.length ≤ cs.length) (kk : WL X ops Q rest L (.row r T' (ovr cs k vs) :: H')) : WL X ops Q (⟨none, .store T o o', ty, pos, after, none⟩ :: rest) L H := by
  refine wl_unit rfl fun a w ha hm => ⟨_, _, fun _ _ _ _ => ?_, hm.ovrRow p (ovr cs k vs), kk⟩
  have hh := hm.get p
  have hst := run_storeCells_at X.P r k T' vs 0 cs.toArray w hh (by simpa using hk) h1
  simp only [Nat.add_zero] at hst
  simp [execOp, Instr.storeAt, Instr.sureAddr, storeVar, ha.eval ho, ha.eval hv, run_szT hs, hn, Value.cells]
  rw [hst]; simp [ovr]
/-- One cell of a slice of the call's own. -/
theorem wl_storeO {T ty pos after o o' A k v n cap T' sz xs b off} (ho : ev L o = some (.pointer (some ⟨b, off, none⟩))) (hb : b = bOf A) (hoff : off = oOf A + k) (hv : ev L o' = some v) (h1 : v.oneCell' = true) (hs : szT X.P T = some 1)
    (p : Pick H (.own A n cap T' sz xs) H') (hk : k < xs.length) (kk : WL X ops Q rest L (.own A n cap T' sz (xs.set k v) :: H')) : WL X ops Q (⟨none, .store T o o', ty, pos, after, none⟩ :: rest) L H := by
  subst hb; subst hoff
  intro a w ha hm
  have hh := hm.get p
  obtain ⟨g1, g2, g3, ⟨h4, h5, h6⟩ | ⟨r, rfl, rst, hr, hl⟩⟩ := hh
  · subst h5; simp at g1; simp [g1] at hk
  · refine wl_unit rfl (fun a w ha hm => ⟨_, _, fun _ _ _ _ => ?_, hm.setOwn p k hk v, kk⟩) a w ha hm
    obtain ⟨g1, g2, g3, ⟨h4, h5, h6⟩ | ⟨r', e, rst, hr, hl⟩⟩ := hm.get p
    · cases h4
    · simp at e; subst e
      have hc : w.cell? ⟨r, k, none⟩ = some xs[k] := by rw [cell_of_row hr]; simp [List.getElem?_append_left hk, hk]
      have hf : w.frozen? ⟨r, k, none⟩ = false := by simp [World.frozen?, hr]
      simp [execOp, Instr.storeAt, Instr.sureAddr, storeVar, ha.eval ho, ha.eval hv, cells_one h1, run_szT hs, storeCells, bOf, oOf, addr_add, run_store X.P w _ v _ h1, hc, hf]

/-! ### Slices made -/
theorem Mem.allocOwn {w0 S H w} (m : Mem w0 S H w) (T : TypeId) (sz n : Nat) (xs : List Value) (hx : xs.length = n * sz) (hn : n ≤ maxLen) :
    Mem w0 S (.own (some ⟨w.heap.size, 0, none⟩) n n T sz xs :: H) (w.alloc (.cells xs.toArray T)) := by
  have := Mem.step (H1 := []) (S' := []) (Hn := [.own (some ⟨w.heap.size, 0, none⟩) n n T sz xs]) (w := w) (w' := w.alloc (.cells xs.toArray T)) (by simpa using m)
    ⟨rfl, rfl, rfl, by simp, fun k hk _ => Below.heap_alloc _ _ _ hk⟩ (by simp) (by
      intro h hh; simp only [List.mem_singleton] at hh; subst hh
      exact ⟨hx, Nat.le_refl _, hn, .inr ⟨w.heap.size, rfl, [], by simpa using World.alloc_heap_new w _, by simpa using hx⟩⟩) (by simp [Hp.blk]) (by simp)
  simpa using this

theorem wl_make {d T E ty pos after o o' n z by'} (ho : ev L o = some (.int .i64 (n : Nat))) (ho' : ev L o' = some (.int .i64 (n : Nat))) (hT : X.P.underlying T = some (.slice E)) (hs : szT X.P E = some 1) (hz : zeT X.P E = some z) (hz1 : z.cells = #[z]) (hby : byT X.P E = some by')
    (hn : n * by' ≤ 140737488355328) (hm' : n ≤ 1000000000000) (hd : Nat.blt d X.N = true)
    (k : ∀ r, WL X ops Q rest ((d, .slice (some ⟨r, 0, none⟩) n n) :: L) (.own (some ⟨r, 0, none⟩) n n E 1 (List.replicate n z) :: H)) : WL X ops Q (⟨some d, .makeSlice T o o', ty, pos, after, none⟩ :: rest) L H := by
  obtain ⟨i, hi⟩ : ∃ i, X.P.info? E = some i := by
    unfold szT at hs
    cases hi : X.P.info? E with
    | none => simp [hi] at hs
    | some i => exact ⟨i, rfl⟩
  have hs' : i.size = 1 := by simpa [szT, hi] using hs
  have hz' : i.zero = some z := by simpa [zeT, hi] using hz
  have hb' : i.bytes = by' := by simpa [byT, hi] using hby
  refine wl_val hd rfl fun a w ha hm => ?_
  obtain ⟨w', hr, hown, hg⟩ := run_make_full (P := X.P) w w.heap.size T E i z 1 hT hi hz' hs' .i64 .i64 n (by rw [hb', Nat.mul_comm]; omega) (by simp only [maxLen]; omega) (Nat.le_refl _)
  obtain ⟨hl, ⟨hv, _⟩ | ⟨g, cap, cur, hv, hbg, hgr, hnc, hcm, hcs, htk⟩⟩ := hown
  · cases hv
  · simp at hv
    obtain ⟨rfl, rfl⟩ := hv
    have hxs : (madeCells z.cells (n * 1)).toList = List.replicate n z := by rw [hz1, Nat.mul_one, toList_madeCells_one]
    rw [hxs] at hl htk
    have hrow : cur = (List.replicate n z).toArray := by
      have : cur.toList = List.replicate n z := by
        rw [← htk, Nat.mul_one, List.take_of_length_le]
        simp [hcs]
      rw [← this]
    refine ⟨_, w', _, fun _ _ _ _ => ?_, ?_, k w.heap.size⟩
    · simp only [execOp, Sem.run_bind, ha.eval ho, ha.eval ho', hr, Result.andThen_ok, Sem.run_pure]
    · have := Mem.step (H1 := []) (S' := []) (Hn := [.own (some ⟨w.heap.size, 0, none⟩) n n E 1 (List.replicate n z)]) (w := w) (w' := w') (by simpa using hm)
        ⟨hg.os, hg.tape, hg.output, hg.size, fun k hk _ => hg.block k hk (by simp)⟩ (by simp) (by
          intro h hh; simp only [List.mem_singleton] at hh; subst hh
          exact ⟨by simp, Nat.le_refl _, by simp only [maxLen]; omega, .inr ⟨w.heap.size, rfl, [], by simpa [hrow] using hgr, by simp⟩⟩) (by simp [Hp.blk]) (by simp)
      simpa using this

end Go.Proofs.Yteglbaidaekccaa
