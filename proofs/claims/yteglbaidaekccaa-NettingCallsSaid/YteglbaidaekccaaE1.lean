/- The walk's own layer: slots as a list, memory as a list of blocks. No condition: laws about the machine's steps. -/
import Derived.CallsIn
import Derived.OrdersIn
import Derived.TacticsIn
import Derived.RangeFuncRecord
import Derived.RangeFuncIn
import Derived.Laws.AppendOwn
import Derived.Laws.OwnMore
import Derived.Laws.MakeOwn
import Derived.Laws.World
import Derived.Laws.NewFold
import Derived.Below
import Derived.KernelRfl
namespace Go.Proofs.Yteglbaidaekccaa
open Go Go.RowKit

theorem nbeq {a b : Nat} (h : a ≠ b) : Nat.beq a b = false := by
  cases h' : Nat.beq a b with
  | true => exact absurd (Nat.eq_of_beq_eq_true h') h
  | false => rfl

/-! ### Slots -/
def lk : List (Nat × Value) → Nat → Option Value
  | [], _ => none
  | (k, v) :: r, t => bif Nat.beq k t then some v else lk r t

def ev (L : List (Nat × Value)) : Operand → Option Value
  | .tmp t => lk L t
  | .const v => some v
  | .global g => some (.pointer (some ⟨g, 0, none⟩))
  | .func f => some (.func (.func f) #[] #[])

structure Env (N : Nat) (ds : List Deferred) (a : Act) (L : List (Nat × Value)) : Prop where
  size : a.tmps.size = N
  dfr : a.defers = ds
  get : ∀ t v, lk L t = some v → a.tmps[t]? = some v

theorem Env.eval {N ds a L} (h : Env N ds a L) {x : Operand} {v : Value} (hx : ev L x = some v) : a.eval x = v := by
  cases x with
  | tmp t => have := h.get t v hx; simp [Act.eval, this]
  | const u => simpa [ev, Act.eval] using hx
  | global g => simpa [ev, Act.eval] using hx
  | func f => simpa [ev, Act.eval] using hx

theorem Env.put {N ds a L} (h : Env N ds a L) {d : Nat} (v : Value) (hd : d < N) : Env N ds (a.put (some d) v) ((d, v) :: L) := by
  refine ⟨by simp [Act.put, h.size], by simp [Act.put, h.dfr], fun t u hl => ?_⟩
  simp only [lk] at hl
  by_cases e : d = t
  · subst e
    simp at hl
    subst hl
    simp [Act.put, h.size, hd]
  · have : Nat.beq d t = false := nbeq e
    simp only [this, cond_false] at hl
    have := h.get t u hl
    simp only [Act.put, Array.getElem?_setIfInBounds_ne e]
    exact this

/-- L says at least what L' says. -/
def Sub (L L' : List (Nat × Value)) : Prop := ∀ t v, lk L' t = some v → lk L t = some v
theorem Sub.refl (L) : Sub L L := fun _ _ h => h
theorem Sub.nil (L) : Sub L [] := fun _ _ h => by simp [lk] at h
theorem Sub.cons {L L' : List (Nat × Value)} {t : Nat} {v v' : Value} (h : lk L t = some v') (e : v' = v) (hs : Sub L L') : Sub L ((t, v) :: L') := by
  intro u x hx
  simp only [lk] at hx
  by_cases hb : Nat.beq t u = true
  · rw [hb] at hx
    simp at hx
    have : t = u := by simpa using hb
    subst this; subst hx; rw [h, e]
  · have : Nat.beq t u = false := by cases h' : Nat.beq t u with
      | true => exact absurd h' hb
      | false => rfl
    rw [this] at hx
    exact hs u x hx
theorem Env.sub {N ds a L L'} (h : Env N ds a L) (s : Sub L L') : Env N ds a L' := ⟨h.size, h.dfr, fun t v hl => h.get t v (s t v hl)⟩

def argL : List Value → Nat → List (Nat × Value)
  | [], _ => []
  | v :: r, k => (k, v) :: argL r (k + 1)

theorem lk_argL : ∀ (l : List Value) (k t : Nat) (v : Value), lk (argL l k) t = some v → k ≤ t ∧ l[t - k]? = some v
  | [], _, _, _, h => by simp [argL, lk] at h
  | x :: r, k, t, v, h => by
    simp only [argL, lk] at h
    by_cases hb : k = t
    · subst hb; simp at h; subst h; simp
    · have : Nat.beq k t = false := nbeq hb
      rw [this] at h
      obtain ⟨h1, h2⟩ := lk_argL r (k + 1) t v h
      refine ⟨by omega, ?_⟩
      have : t - k = (t - (k + 1)) + 1 := by omega
      rw [this]; simpa using h2

theorem Env.args {N : Nat} (l : List Value) (hN : l.length ≤ N) :
    Env N [] { tmps := l.toArray ++ Array.replicate (N - l.toArray.size) undef, defers := [] } (argL l 0) := by
  refine ⟨by simp; omega, rfl, fun t v h => ?_⟩
  obtain ⟨_, h2⟩ := lk_argL l 0 t v h
  simp only [Nat.sub_zero] at h2
  have hlt : t < l.length := (List.getElem?_eq_some_iff.1 h2).1
  rw [Array.getElem?_append_left (by simpa using hlt)]
  simpa using h2

/-! ### Memory -/
structure Upd (S : List Nat) (w w' : World) : Prop where
  os : w'.os = w.os
  tape : w'.tape = w.tape
  output : w'.output = w.output
  size : w.heap.size ≤ w'.heap.size
  block : ∀ k, k < w.heap.size → k ∉ S → w'.heap[k]? = w.heap[k]?
theorem Upd.refl (S w) : Upd S w w := ⟨rfl, rfl, rfl, Nat.le_refl _, fun _ _ _ => rfl⟩
theorem Upd.trans {S a b c} (h : Upd S a b) (k : Upd S b c) : Upd S a c :=
  ⟨k.os.trans h.os, k.tape.trans h.tape, k.output.trans h.output, Nat.le_trans h.size k.size,
   fun i hi hn => (k.block i (Nat.lt_of_lt_of_le hi h.size) hn).trans (h.block i hi hn)⟩

theorem Upd.below {w w'} (h : Upd [] w w') : Below w.heap.size w w' := ⟨h.os, h.tape, h.output, h.size, fun k hk => h.block k hk (by simp)⟩

inductive Hp where
  | row (r : Nat) (T : TypeId) (cs : List Value)
  | own (A : Option Addr) (n cap : Nat) (T : TypeId) (sz : Nat) (xs : List Value)
  | obj (r : Nat) (o : Obj)

def Hp.blk : Hp → Option Nat
  | .row r _ _ => some r
  | .own A _ _ _ _ _ => A.map (·.block)
  | .obj r _ => some r

def OwnAt (w : World) (r : Nat) (cap : Nat) (T : TypeId) (sz : Nat) (xs : List Value) : Prop :=
  ∃ rest : List Value, w.heap[r]? = some (.cells (xs ++ rest).toArray T (0, 0)) ∧ (xs ++ rest).length = cap * sz

def Hp.Holds : Hp → World → Prop
  | .row r T cs, w => w.heap[r]? = some (.cells cs.toArray T (0, 0))
  | .own A n cap T sz xs, w => xs.length = n * sz ∧ n ≤ cap ∧ cap ≤ maxLen ∧ ((A = none ∧ n = 0 ∧ cap = 0) ∨ ∃ r, A = some ⟨r, 0, none⟩ ∧ OwnAt w r cap T sz xs)
  | .obj r o, w => w.heap[r]? = some o

theorem Hp.Holds.congr {h : Hp} {w w' : World} (hh : h.Holds w) (e : ∀ r, h.blk = some r → w'.heap[r]? = w.heap[r]?) : h.Holds w' := by
  cases h with
  | row r T cs => simp only [Hp.Holds] at *; rw [e r rfl]; exact hh
  | obj r o => simp only [Hp.Holds] at *; rw [e r rfl]; exact hh
  | own A n cap T sz xs =>
    obtain ⟨h1, h2, h3, h4⟩ := hh
    refine ⟨h1, h2, h3, h4.imp id ?_⟩
    rintro ⟨r, rfl, rest, hr, hl⟩
    exact ⟨r, rfl, rest, by rw [e r rfl]; exact hr, hl⟩

theorem Hp.Holds.lt {h : Hp} {w : World} (hh : h.Holds w) {r : Nat} (e : h.blk = some r) : r < w.heap.size := by
  cases h with
  | row r' T cs => simp [Hp.blk] at e; subst e; exact (Array.getElem?_eq_some_iff.1 hh).1
  | obj r' o => simp [Hp.blk] at e; subst e; exact (Array.getElem?_eq_some_iff.1 hh).1
  | own A n cap T sz xs =>
    obtain ⟨h1, h2, h3, h4 | ⟨r', rfl, rest, hr, hl⟩⟩ := hh
    · simp [Hp.blk, h4.1] at e
    · simp [Hp.blk] at e; subst e; exact (Array.getElem?_eq_some_iff.1 hr).1

def Hp.apart (h h' : Hp) : Prop := ∀ r, h.blk = some r → h'.blk ≠ some r
theorem Hp.apart.symm {h h' : Hp} (a : h.apart h') : h'.apart h := fun r e e' => a r e' e

structure Mem (w0 : World) (S : List Nat) (H : List Hp) (w : World) : Prop where
  upd : Upd S w0 w
  holds : ∀ h ∈ H, h.Holds w
  fresh : ∀ h ∈ H, ∀ r, h.blk = some r → r ∈ S ∨ w0.heap.size ≤ r
  sep : H.Pairwise Hp.apart

theorem Mem.refl (w : World) : Mem w [] [] w := ⟨Upd.refl _ _, by simp, by simp, by simp⟩

/-- One of a list, the rest of it. -/
inductive Pick : List Hp → Hp → List Hp → Prop
  | head (h H) : Pick (h :: H) h H
  | tail {x H h H'} (p : Pick H h H') : Pick (x :: H) h (x :: H')

theorem Pick.perm {H h H'} (p : Pick H h H') : H.Perm (h :: H') := by
  induction p with
  | head => exact .refl _
  | tail p ih => exact (ih.cons _).trans (.swap _ _ _)

theorem pairwise_perm {H H' : List Hp} (p : H.Perm H') (h : H.Pairwise Hp.apart) : H'.Pairwise Hp.apart :=
  p.pairwise h (fun a => a.symm)

theorem Mem.perm {w0 S H H' w} (m : Mem w0 S H w) (p : H.Perm H') : Mem w0 S H' w :=
  ⟨m.upd, fun h hh => m.holds h (p.mem_iff.2 hh), fun h hh => m.fresh h (p.mem_iff.2 hh), pairwise_perm p m.sep⟩

theorem Mem.drop {w0 S h H w} (m : Mem w0 S (h :: H) w) : Mem w0 S H w :=
  ⟨m.upd, fun x hx => m.holds x (List.mem_cons_of_mem _ hx), fun x hx => m.fresh x (List.mem_cons_of_mem _ hx), (List.pairwise_cons.1 m.sep).2⟩

/-- H has all of H' (at other places perhaps; what is over is left). -/
inductive Ent : List Hp → List Hp → Prop
  | nil (H) : Ent H []
  | cons {H h h' H1 H'} (p : Pick H h H1) (e : h = h') (t : Ent H1 H') : Ent H (h' :: H')

theorem Mem.ent_aux {w0 S w} : ∀ {H H' : List Hp}, Ent H H' → ∀ {K : List Hp}, Mem w0 S (K ++ H) w → Mem w0 S (K ++ H') w
  | _, _, .nil H, K, m => by
    induction H with
    | nil => simpa using m
    | cons h H ih =>
      refine ih ?_
      have p : (K ++ h :: H).Perm (h :: (K ++ H)) := List.perm_middle
      exact (m.perm p).drop
  | _, _, .cons (H := H) (h := h) (H1 := H1) (H' := H') p e t, K, m => by
    subst e
    have m1 : Mem w0 S ((K ++ [h]) ++ H1) w := by
      refine m.perm ?_
      have := List.Perm.append_left K p.perm
      simpa using this
    have m2 := Mem.ent_aux t m1
    simpa using m2
theorem Mem.ent {w0 S w H H'} (m : Mem w0 S H w) (e : Ent H H') : Mem w0 S H' w := by
  have := Mem.ent_aux (K := []) e (by simpa using m)
  simpa using this

theorem Mem.get {w0 S H w h H'} (m : Mem w0 S H w) (p : Pick H h H') : h.Holds w := m.holds h (p.perm.mem_iff.2 (by simp))

theorem Mem.lt {w0 S H w} (m : Mem w0 S H w) {h : Hp} (hh : h ∈ H) {r} (e : h.blk = some r) : r < w.heap.size := (m.holds h hh).lt e

/-- The one step of memory: some blocks that H' has (and no other one of H) may have turned, others may have come. -/
theorem Mem.step {w0 S H H1 w w'} (m : Mem w0 S (H1 ++ H) w) {S' : List Nat} (u : Upd S' w w')
    (hS : ∀ r ∈ S', ∃ h ∈ H1, h.blk = some r)
    {Hn : List Hp} (hn : ∀ h ∈ Hn, h.Holds w') (hf : ∀ h ∈ Hn, ∀ r, h.blk = some r → r ∈ S' ∨ w.heap.size ≤ r) (hp : Hn.Pairwise Hp.apart) :
    Mem w0 S (Hn ++ H) w' := by
  have sepS : ∀ r ∈ S', ∀ h ∈ H, h.blk ≠ some r := by
    intro r hr h hh e
    obtain ⟨h1, hm, he⟩ := hS r hr
    have := (List.pairwise_append.1 m.sep).2.2 h1 hm h hh
    exact this r he e
  refine ⟨⟨u.os.trans m.upd.os, u.tape.trans m.upd.tape, u.output.trans m.upd.output, Nat.le_trans m.upd.size u.size, fun k hk hn' => ?_⟩, ?_, ?_, ?_⟩
  · have hk' : k < w.heap.size := Nat.lt_of_lt_of_le hk m.upd.size
    have : k ∉ S' := by
      intro hs
      obtain ⟨h1, hm, he⟩ := hS k hs
      rcases m.fresh h1 (by simp [hm]) k he with h | h
      · exact hn' h
      · omega
    exact (u.block k hk' this).trans (m.upd.block k hk hn')
  · intro h hh
    rcases List.mem_append.1 hh with hh | hh
    · exact hn h hh
    · refine (m.holds h (by simp [hh])).congr fun r e => ?_
      exact u.block r (m.lt (by simp [hh]) e) (fun hs => sepS r hs h hh e)
  · intro h hh r e
    rcases List.mem_append.1 hh with hh | hh
    · rcases hf h hh r e with hs | hs
      · obtain ⟨h1, hm, he⟩ := hS r hs
        exact m.fresh h1 (by simp [hm]) r he
      · exact .inr (Nat.le_trans m.upd.size hs)
    · exact m.fresh h (by simp [hh]) r e
  · refine List.pairwise_append.2 ⟨hp, (List.pairwise_append.1 m.sep).2.1, fun h hh h' hh' r e e' => ?_⟩
    rcases hf h hh r e with hs | hs
    · exact sepS r hs h' hh' e'
    · have := m.lt (h := h') (by simp [hh']) e'
      omega

/-- A call that leaves all that is there, and makes Hn. -/
theorem Mem.call {w0 S H w w'} (m : Mem w0 S H w) {Hn : List Hp} (c : Mem w [] Hn w') : Mem w0 S (Hn ++ H) w' :=
  Mem.step (H1 := []) (by simpa using m) c.upd (by simp) c.holds (fun h hh r e => (c.fresh h hh r e).imp (by simp) id) c.sep

/-- A call that may turn the blocks of H1. -/
theorem Mem.callS {w0 S H H1 w w'} (m : Mem w0 S (H1 ++ H) w) {S' : List Nat} {Hn : List Hp} (c : Mem w S' Hn w') (hS : ∀ r ∈ S', ∃ h ∈ H1, h.blk = some r) : Mem w0 S (Hn ++ H) w' :=
  Mem.step m c.upd hS c.holds c.fresh c.sep

theorem Mem.alloc {w0 S H w} (m : Mem w0 S H w) (T : TypeId) (cs : List Value) : Mem w0 S (.row w.heap.size T cs :: H) (w.alloc (.cells cs.toArray T)) := by
  have := Mem.step (H1 := []) (S' := []) (Hn := [.row w.heap.size T cs]) (w := w) (w' := w.alloc (.cells cs.toArray T)) (by simpa using m)
    ⟨rfl, rfl, rfl, by simp, fun k hk _ => Below.heap_alloc _ _ _ hk⟩ (by simp) (by intro h hh; simp only [List.mem_singleton] at hh; subst hh; exact World.alloc_heap_new _ _) (by simp [Hp.blk]) (by simp)
  simpa using this

theorem Mem.allocObj {w0 S H w} (m : Mem w0 S H w) (o : Obj) : Mem w0 S (.obj w.heap.size o :: H) (w.alloc o) := by
  have := Mem.step (H1 := []) (S' := []) (Hn := [.obj w.heap.size o]) (w := w) (w' := w.alloc o) (by simpa using m)
    ⟨rfl, rfl, rfl, by simp, fun k hk _ => Below.heap_alloc _ _ _ hk⟩ (by simp) (by intro h hh; simp only [List.mem_singleton] at hh; subst hh; exact World.alloc_heap_new _ _) (by simp [Hp.blk]) (by simp)
  simpa using this

theorem Mem.drew {w0 S H w} (m : Mem w0 S H w) (n : Nat) : Mem w0 S H { w with drawn := n } := by
  have := Mem.step (H1 := []) (S' := []) (Hn := []) (w := w) (w' := { w with drawn := n }) (by simpa using m) ⟨rfl, rfl, rfl, Nat.le_refl _, fun k hk _ => rfl⟩ (by simp) (by simp) (by simp) (by simp)
  simpa using this

theorem upd_setCell (w : World) (p : Addr) (v : Value) : Upd [p.block] w (w.setCell p v) :=
  ⟨rfl, rfl, rfl, by simp [World.setCell], fun k _ hn => Below.heap_setCell _ _ _ _ (by simpa using hn)⟩

theorem heap_setCell_at (w : World) (r j : Nat) (v : Value) {cs : Array Value} {T : TypeId} {fr} (h : w.heap[r]? = some (.cells cs T fr)) :
    (w.setCell ⟨r, j, none⟩ v).heap[r]? = some (.cells (cs.setIfInBounds j v) T fr) := by
  simp [World.setCell, Array.getElem?_modify, h]

theorem Mem.setRow {w0 S H w r T cs H'} (m : Mem w0 S H w) (p : Pick H (.row r T cs) H') (j : Nat) (v : Value) :
    Mem w0 S (.row r T (cs.set j v) :: H') (w.setCell ⟨r, j, none⟩ v) := by
  have m' := m.perm p.perm
  have := Mem.step (H1 := [.row r T cs]) (S' := [r]) (Hn := [.row r T (cs.set j v)]) (w := w) (w' := w.setCell ⟨r, j, none⟩ v) (by simpa using m') (upd_setCell w ⟨r, j, none⟩ v)
    (by simp [Hp.blk]) (by
      have h := m.get p
      simp only [Hp.Holds] at h
      simp only [List.mem_singleton, forall_eq, Hp.Holds]
      rw [heap_setCell_at _ _ _ _ h]
      simp) (by simp [Hp.blk]) (by simp)
  simpa using this

theorem Mem.setOwn {w0 S H w r n cap T sz xs H'} (m : Mem w0 S H w) (p : Pick H (.own (some ⟨r, 0, none⟩) n cap T sz xs) H') (j : Nat) (hj : j < xs.length) (v : Value) :
    Mem w0 S (.own (some ⟨r, 0, none⟩) n cap T sz (xs.set j v) :: H') (w.setCell ⟨r, j, none⟩ v) := by
  have m' := m.perm p.perm
  have := Mem.step (H1 := [.own (some ⟨r, 0, none⟩) n cap T sz xs]) (S' := [r]) (Hn := [.own (some ⟨r, 0, none⟩) n cap T sz (xs.set j v)]) (w := w) (w' := w.setCell ⟨r, j, none⟩ v) (by simpa using m') (upd_setCell w ⟨r, j, none⟩ v)
    (by simp [Hp.blk]) (by
      obtain ⟨h1, h2, h3, h4 | ⟨r', e, rest, hr, hl⟩⟩ := m.get p
      · simp at h4
      · simp at e; subst e
        simp only [List.mem_singleton, forall_eq, Hp.Holds]
        refine ⟨by simpa using h1, h2, h3, .inr ⟨r, rfl, rest, ?_, by simpa using hl⟩⟩
        rw [heap_setCell_at _ _ _ _ hr]
        simp [List.set_append_left _ _ hj]) (by simp [Hp.blk]) (by simp)
  simpa using this

theorem heap_putObj (w : World) (r : Nat) (o : Obj) (h : r < w.heap.size) : (w.putObj r o).heap[r]? = some o := by simp [World.putObj, h]

theorem Mem.setObj {w0 S H w r o H'} (m : Mem w0 S H w) (p : Pick H (.obj r o) H') (o' : Obj) :
    Mem w0 S (.obj r o' :: H') (w.putObj r o') := by
  have m' := m.perm p.perm
  have hlt : r < w.heap.size := (m.get p).lt rfl
  have := Mem.step (H1 := [.obj r o]) (S' := [r]) (Hn := [.obj r o']) (w := w) (w' := w.putObj r o') (by simpa using m')
    ⟨rfl, rfl, rfl, by simp, fun k _ hn => World.putObj_heap_other (by simpa using hn)⟩
    (by simp [Hp.blk]) (by simpa [Hp.Holds] using heap_putObj w r o' hlt) (by simp [Hp.blk]) (by simp)
  simpa using this

/-! ### Context, code -/
def FW (ro : Option Nat) : Fence := { fn := fun _ => True, depth := none, alive := false, round := ro }
theorem FW_none : FW none = Fence.wide := rfl
theorem FW_inRound (l : Nat) (ro) : (FW ro).inRound l = FW (some l) := rfl

structure Cx where
  P : Program
  ro : Option Nat
  N : Nat
  ds : List Deferred
  w0 : World
  S : List Nat

abbrev Qt := Exit → Act → World → Prop

def PE (X : Cx) (Q : Qt) (e : Exit) (L : List (Nat × Value)) (H : List Hp) : Prop :=
  ∀ a w, Env X.N X.ds a L → Mem X.w0 X.S H w → Q e a w
def WC (X : Cx) (c : Code) (Q : Qt) (L : List (Nat × Value)) (H : List Hp) : Prop :=
  ∀ a w, Env X.N X.ds a L → Mem X.w0 X.S H w → c.wpIn (FW X.ro) 0 X.P Q a w
def WL (X : Cx) (ops : Array Oper) (Q : Qt) (l : List Oper) (L : List (Nat × Value)) (H : List Hp) : Prop :=
  ∀ a w, Env X.N X.ds a L → Mem X.w0 X.S H w → wpListIn (FW X.ro) 0 X.P ops Q l a w

def seqQ (X : Cx) (y : Code) (Q : Qt) : Qt := Exit.then (fun a w => y.wpIn (FW X.ro) 0 X.P Q a w) Q

variable {X : Cx} {Q : Qt} {L L' : List (Nat × Value)} {H H' : List Hp} {c x y : Code}

theorem WC.sub (h : WC X c Q L' H') (s : Sub L L') (e : Ent H H') : WC X c Q L H := fun a w ha hm => h a w (ha.sub s) (hm.ent e)
theorem WL.sub {ops l} (h : WL X ops Q l L' H') (s : Sub L L') (e : Ent H H') : WL X ops Q l L H := fun a w ha hm => h a w (ha.sub s) (hm.ent e)

theorem wc_seq (h : WC X x (seqQ X y Q) L H) : WC X (.seq x y) Q L H := fun a w ha hm => wpIn_seq (h a w ha hm)
theorem wc_skip (h : PE X Q .normal L H) : WC X .skip Q L H := fun a w ha hm => wpIn_skip (h a w ha hm)
theorem wc_label {l} (h : PE X Q .normal L H) : WC X (.label l) Q L H := fun a w ha hm => wpIn_label (h a w ha hm)
theorem wc_exit {id} (h : PE X Q (.exit id) L H) : WC X (.exit id) Q L H := fun a w ha hm => wpIn_exit (h a w ha hm)
theorem wc_ret (h : PE X Q .ret L H) : WC X .ret Q L H := fun a w ha hm => wpIn_ret (h a w ha hm)
theorem wc_block {id} (h : WC X c (Exit.inBlock id Q) L H) : WC X (.block id c) Q L H := fun a w ha hm => wpIn_block (h a w ha hm)

theorem wc_ite {o : Operand} {p : Prop} [Decidable p] (ho : ev L o = some (.bool (decide p))) (ht : p → WC X x Q L H) (hf : ¬ p → WC X y Q L H) : WC X (.cond o x y) Q L H := by
  intro a w ha hm
  have he := ha.eval ho
  by_cases h : p
  · exact wpIn_cond_true (by simpa [h] using he) (ht h a w ha hm)
  · exact wpIn_cond_false (by simpa [h] using he) (hf h a w ha hm)
theorem wc_if {o : Operand} {b : Bool} (ho : ev L o = some (.bool b)) (ht : b = true → WC X x Q L H) (hf : b = false → WC X y Q L H) : WC X (.cond o x y) Q L H := by
  intro a w ha hm
  have he := ha.eval ho
  cases b with
  | true => exact wpIn_cond_true he (ht rfl a w ha hm)
  | false => exact wpIn_cond_false he (hf rfl a w ha hm)
theorem wc_ift {o : Operand} (ho : ev L o = some (.bool true)) (ht : WC X x Q L H) : WC X (.cond o x y) Q L H := wc_if ho (fun _ => ht) (by simp)
theorem wc_iff {o : Operand} (ho : ev L o = some (.bool false)) (hf : WC X y Q L H) : WC X (.cond o x y) Q L H := wc_if ho (by simp) (fun _ => hf)

theorem wc_region {id : Nat} {l : List Oper} (h : WL X l.toArray Q l L H) : WC X (.region id l.toArray false) Q L H := by
  intro a w ha hm
  refine wpIn_region ?_
  have := wpOpsIn_eq_wpListIn (F := FW X.ro) (n := 0) (P := X.P) (ops := l.toArray) (Q := Q) l 0 (by simp)
  rw [show List.range l.toArray.size = List.range' 0 l.length by simp [List.range_eq_range']]
  rw [this]
  exact h a w ha hm
theorem wl_nil {ops} (h : PE X Q .normal L H) : WL X ops Q [] L H := fun a w ha hm => h a w ha hm

/-! ### The ways out -/
theorem pe_seq (h : WC X y Q L H) : PE X (seqQ X y Q) .normal L H := h
theorem pe_seq_ret (h : PE X Q .ret L H) : PE X (seqQ X y Q) .ret L H := h
theorem pe_seq_exit {id} (h : PE X Q (.exit id) L H) : PE X (seqQ X y Q) (.exit id) L H := h
theorem pe_block (id : Nat) (h : PE X Q .normal L H) : PE X (Exit.inBlock id Q) .normal L H := h
theorem pe_block_ret (id : Nat) (h : PE X Q .ret L H) : PE X (Exit.inBlock id Q) .ret L H := h
theorem pe_block_exit {id : Nat} (h : PE X Q .normal L H) : PE X (Exit.inBlock id Q) (.exit id) L H := fun a w ha hm => by simp [Exit.inBlock]; exact h a w ha hm
theorem pe_block_other {id id' : Nat} (hne : id' ≠ id) (h : PE X Q (.exit id') L H) : PE X (Exit.inBlock id Q) (.exit id') L H := fun a w ha hm => by simp [Exit.inBlock, hne]; exact h a w ha hm

/-- A loop's relation: for some state s the slots are Ls s, the memory Hs s. -/
def loopQ {σ : Type} (X : Cx) (Ls : σ → List (Nat × Value)) (Hs : σ → List Hp) (G : σ → Prop) (μ : σ → Nat) (s : σ) (Q : Qt) : Qt :=
  Exit.then (fun a w => ∃ s', (Env X.N X.ds a (Ls s') ∧ Mem X.w0 X.S (Hs s') w ∧ G s') ∧ μ s' < μ s) Q

theorem wc_loop {σ : Type} (Ls : σ → List (Nat × Value)) (Hs : σ → List Hp) (G : σ → Prop) (μ : σ → Nat) (s0 : σ)
    (hs : Sub L (Ls s0)) (hh : Ent H (Hs s0)) (hg : G s0)
    (round : ∀ s, G s → WC X c (loopQ X Ls Hs G μ s Q) (Ls s) (Hs s)) : WC X (.loop c) Q L H := by
  intro a w ha hm
  -- the state is carried beside the frame
  intro b k cs hro hb hr
  have key : ∀ j s a w, μ s = j → Env X.N X.ds a (Ls s) → Mem X.w0 X.S (Hs s) w → G s →
      ∃ e a' w', Q e a' w' ∧ ArrivesIn (Machine.fenced X.P (FW X.ro)) X.P (lone (b.atR a (.code c :: .inLoop c :: k)) cs w) b k cs e a' w' := by
    intro j
    induction j using Nat.strongRecOn with
    | _ j ih =>
      intro s a w hn hE hM hG
      obtain ⟨e, a₁, w₁, hq, harr⟩ := round s hG a w hE hM b (.inLoop c :: k) cs hro hb hr
      cases e with
      | normal =>
        obtain ⟨s', ⟨hE', hM', hG'⟩, hlt⟩ := hq
        obtain ⟨e₂, a₂, w₂, hq₂, harr₂⟩ := ih (μ s') (hn ▸ hlt) s' a₁ w₁ rfl hE' hM' hG'
        exact ⟨e₂, a₂, w₂, hq₂, .of_steps (StepsIn.trans harr (.one (fenced_calm hb hr rfl) stepR_inLoop)) harr₂⟩
      | exit id => exact ⟨_, a₁, w₁, hq, .pass (x := .inLoop c) rfl (fun _ _ => .inl (by simp)) harr⟩
      | goto l => exact ⟨_, a₁, w₁, hq, .pass (x := .inLoop c) rfl (fun _ _ => .inl (by simp)) harr⟩
      | ret => exact ⟨_, a₁, w₁, hq, .pass (x := .inLoop c) rfl (fun _ _ => .inl (by simp)) harr⟩
      | panic ch => exact ⟨_, a₁, w₁, hq, .pass (x := .inLoop c) rfl (fun _ _ => .inl (by simp)) harr⟩
      | outgrown => exact ⟨_, a₁, w₁, hq, .pass (x := .inLoop c) rfl (fun _ _ => .inl (by simp)) harr⟩
  obtain ⟨e, a', w', hq, harr⟩ := key _ s0 a w rfl (ha.sub hs) (hm.ent hh) hg
  exact ⟨e, a', w', hq, .of_steps (.one (fenced_calm hb hr rfl) stepR_loop) harr⟩

theorem pe_again {σ : Type} {Ls : σ → List (Nat × Value)} {Hs : σ → List Hp} {G : σ → Prop} {μ : σ → Nat} {s : σ} (s' : σ)
    (hs : Sub L (Ls s')) (hh : Ent H (Hs s')) (hg : G s') (hm : μ s' < μ s) : PE X (loopQ X Ls Hs G μ s Q) .normal L H :=
  fun _ _ ha hm' => ⟨s', ⟨ha.sub hs, hm'.ent hh, hg⟩, hm⟩
theorem pe_loop_ret {σ : Type} {Ls : σ → List (Nat × Value)} {Hs : σ → List Hp} {G : σ → Prop} {μ : σ → Nat} {s : σ} (h : PE X Q .ret L H) : PE X (loopQ X Ls Hs G μ s Q) .ret L H := h
theorem pe_loop_exit {σ : Type} {Ls : σ → List (Nat × Value)} {Hs : σ → List Hp} {G : σ → Prop} {μ : σ → Nat} {s : σ} {id} (h : PE X Q (.exit id) L H) : PE X (loopQ X Ls Hs G μ s Q) (.exit id) L H := h

/-- The ways meet again: some state s. -/
def cutQ {σ : Type} (X : Cx) (Ls : σ → List (Nat × Value)) (Hs : σ → List Hp) (G : σ → Prop) (Q : Qt) : Qt :=
  Exit.then (fun a w => ∃ s, Env X.N X.ds a (Ls s) ∧ Mem X.w0 X.S (Hs s) w ∧ G s) Q
theorem wc_cut {σ : Type} (Ls : σ → List (Nat × Value)) (Hs : σ → List Hp) (G : σ → Prop)
    (h1 : WC X x (cutQ X Ls Hs G Q) L H) (h2 : ∀ s, G s → WC X y Q (Ls s) (Hs s)) : WC X (.seq x y) Q L H := by
  refine wc_seq fun a w ha hm => wpIn_mono (h1 a w ha hm) ?_
  intro e a w hq
  cases e <;> first
    | exact hq
    | (obtain ⟨s, hE, hM, hG⟩ := hq; exact h2 s hG a w hE hM)
theorem pe_cut {σ : Type} {Ls : σ → List (Nat × Value)} {Hs : σ → List Hp} {G : σ → Prop} (s : σ)
    (hs : Sub L (Ls s)) (hh : Ent H (Hs s)) (hg : G s) : PE X (cutQ X Ls Hs G Q) .normal L H :=
  fun _ _ ha hm' => ⟨s, ha.sub hs, hm'.ent hh, hg⟩
theorem pe_cut_ret {σ : Type} {Ls : σ → List (Nat × Value)} {Hs : σ → List Hp} {G : σ → Prop} (h : PE X Q .ret L H) : PE X (cutQ X Ls Hs G Q) .ret L H := h
theorem pe_cut_exit {σ : Type} {Ls : σ → List (Nat × Value)} {Hs : σ → List Hp} {G : σ → Prop} {id} (h : PE X Q (.exit id) L H) : PE X (cutQ X Ls Hs G Q) (.exit id) L H := h

/-! ### Functions -/
def Cl (P : Program) (f : FuncId) (args : List Value) (w : World) (R : Value → World → Prop) : Prop :=
  Calls P f args.toArray w fun e w' => ∃ v, e = .returned v ∧ R v w'
theorem Cl.mono {P f args w} {R R' : Value → World → Prop} (h : Cl P f args w R) (hr : ∀ v w', R v w' → R' v w') : Cl P f args w R' :=
  Calls.mono h fun _ _ ⟨v, e, r⟩ => ⟨v, e, hr _ _ r⟩

def bodyQ (P : Program) (fn : Func) (R : Value → World → Prop) : Qt := bodyPost P fn fun e w' => ∃ v, e = .returned v ∧ R v w'

theorem cl_of {P : Program} {f : FuncId} {fn : Func} {c : Code} {args : List Value} {w : World} {R : Value → World → Prop} {S : List Nat} {H : List Hp}
    {N : Nat} (hf : P.funcs[f]? = some fn) (hb : fn.body = some c) (hn : fn.ntmps = N) (hN : Nat.ble args.length N = true) (hm : Mem w S H w)
    (h : WC ⟨P, none, N, [], w, S⟩ c (bodyQ P fn R) (argL args 0) H) : Cl P f args w R := by
  subst hn
  have hN := Nat.le_of_ble_eq_true hN
  have := callsIn_of_wp (F := Fence.wide) (n := 0) hf hb trivial (args := args.toArray) (w := w) (R := fun e w' => ∃ v, e = .returned v ∧ R v w')
    (h _ w (Env.args args hN) hm)
  exact callsIn_wide.1 this

theorem pe_ret1 {fn : Func} {R : Value → World → Prop} {t : Nat} {v : Value} (hr : fn.results = #[.tmp t]) (hds : X.ds = []) (hl : lk L t = some v)
    (h : ∀ w, Mem X.w0 X.S H w → R v w) : PE X (bodyQ X.P fn R) .ret L H := by
  intro a w ha hm
  refine ⟨ha.dfr.trans hds, v, ?_, v, rfl, h w hm⟩
  have := ha.get t v hl
  simp [results, hr, this]
theorem pe_ret1n {fn : Func} {R : Value → World → Prop} {t : Nat} {v : Value} (hr : fn.results = #[.tmp t]) (hds : X.ds = []) (hl : lk L t = some v)
    (h : ∀ w, Mem X.w0 X.S H w → R v w) : PE X (bodyQ X.P fn R) .normal L H := pe_ret1 hr hds hl h
theorem pe_ret2 {fn : Func} {R : Value → World → Prop} {t u : Nat} {v v' : Value} (hr : fn.results = #[.tmp t, .tmp u]) (hds : X.ds = []) (hl : lk L t = some v) (hl' : lk L u = some v')
    (h : ∀ w, Mem X.w0 X.S H w → R (.tuple #[v, v']) w) : PE X (bodyQ X.P fn R) .ret L H := by
  intro a w ha hm
  refine ⟨ha.dfr.trans hds, _, ?_, _, rfl, h w hm⟩
  have := ha.get t v hl
  have h2 := ha.get u v' hl'
  simp [results, hr, this, h2]
theorem pe_ret3 {fn : Func} {R : Value → World → Prop} {t u s : Nat} {v v' v'' : Value} (hr : fn.results = #[.tmp t, .tmp u, .tmp s]) (hds : X.ds = []) (hl : lk L t = some v) (hl' : lk L u = some v') (hl'' : lk L s = some v'')
    (h : ∀ w, Mem X.w0 X.S H w → R (.tuple #[v, v', v'']) w) : PE X (bodyQ X.P fn R) .ret L H := by
  intro a w ha hm
  refine ⟨ha.dfr.trans hds, _, ?_, _, rfl, h w hm⟩
  have := ha.get t v hl
  have h2 := ha.get u v' hl'
  have h3 := ha.get s v'' hl''
  simp [results, hr, this, h2, h3]
theorem pe_ret0 {fn : Func} {R : Value → World → Prop} (hr : fn.results = #[]) (hds : X.ds = [])
    (h : ∀ w, Mem X.w0 X.S H w → R (.tuple #[]) w) : PE X (bodyQ X.P fn R) .ret L H := by
  intro a w ha hm
  refine ⟨ha.dfr.trans hds, _, ?_, _, rfl, h w hm⟩
  simp [results, hr]
theorem pe_ret0n {fn : Func} {R : Value → World → Prop} (hr : fn.results = #[]) (hds : X.ds = [])
    (h : ∀ w, Mem X.w0 X.S H w → R (.tuple #[]) w) : PE X (bodyQ X.P fn R) .normal L H := pe_ret0 hr hds h
end Go.Proofs.Yteglbaidaekccaa
