/- Walks that begin anew at some world; maps with int keys; ranges over functions. Conditions: each law's own hypotheses. -/
import Derived.Test.YteglbaidaekccaaE8
namespace Go.Proofs.Yteglbaidaekccaa
open Go Go.RowKit
variable {X : Cx} {Q : Qt} {L L' : List (Nat × Value)} {H H' H'' H1 K : List Hp} {c x y : Code} {ops : Array Oper} {rest : List Oper} {w0 w w1 w' : World} {S : List Nat} {e : Exit}

/-! ### A new begin -/
def Cx.to (X : Cx) (w : World) (H : List Hp) : Cx := { X with w0 := w, S := blks H }
theorem Mem.hold1 (m : Mem w0 S H w) : Hold H w := ⟨m.holds, m.sep⟩
theorem Mem.self (m : Mem w0 S H w) : Mem w (blks H) H w := m.hold1.mem
theorem Mem.un (m1 : Mem w0 S H1 w1) (m : Mem w1 (blks H1) H w) : Mem w0 S H w := by
  have := Mem.callT (K := H1) (H := []) (by simpa using m1) m
  simpa using this
theorem Mem.nil (m : Mem w0 S H w) : Mem w0 S (H ++ []) w := by simpa using m
theorem wc_to (h : ∀ w1, Mem X.w0 X.S H w1 → WC (X.to w1 H) c Q L H) : WC X c Q L H := fun a w ha hm => h w hm a w ha hm.self
theorem wl_to (h : ∀ w1, Mem X.w0 X.S H w1 → WL (X.to w1 H) ops Q rest L H) : WL X ops Q rest L H := fun a w ha hm => h w hm a w ha hm.self
theorem pe_to (h : ∀ w1, Mem X.w0 X.S H w1 → PE (X.to w1 H) Q e L H) : PE X Q e L H := fun a w ha hm => h w hm a w ha hm.self
theorem pe_un (m1 : Mem X.w0 X.S H1 w1) (h : PE X Q e L H) : PE (X.to w1 H1) Q e L H := fun a w ha hm => h a w ha (m1.un hm)
theorem SlB.at1 {A vs} (h : SlB w0 S A vs) (m : Mem w0 S H w) : SlB w (blks H) A vs := h.atB m.nil
theorem RowB.at1 {r T cs} (h : RowB w0 S r T cs) (m : Mem w0 S H w) : RowB w (blks H) r T cs := h.atB m.nil

/-- A call whose contract says more of the world behind it than blocks do: the walk begins anew there. -/
theorem wl_callW {d f ty pos after ts} (os : List Operand) {vs : List Value} {R : World → Value → World → Prop} {as : Array Operand} (has : as = os.toArray) (hf : callOK X.P f = true) (ho : evs L os = some vs)
    (hc : ∀ w, Mem X.w0 X.S H w → Cl X.P f vs w (R w)) (hd : Nat.blt d X.N = true)
    (k : ∀ w v w', Mem X.w0 X.S H w → R w v w' → ∃ H1, Mem X.w0 X.S H1 w' ∧ WL (X.to w' H1) ops Q rest ((d, v) :: L) H1) :
    WL X ops Q (⟨some d, .call { callee := .value (.func f), args := as, argTypes := ts }, ty, pos, after, none⟩ :: rest) L H := by
  subst has
  intro a w ha hm
  unfold wpListIn
  have hw : Region.wanted ⟨some d, .call { callee := .value (.func f), args := os.toArray, argTypes := ts }, ty, pos, after, none⟩ (yielded ops a.tmps) = true := rfl
  rw [if_pos hw]
  refine ⟨fun _ _ => trivial, ?_⟩
  rw [Oper.semAt_eq _ _ _ (calm_defer rfl)]
  have hr : (execOp a.eval ⟨some d, .call { callee := .value (.func f), args := os.toArray, argTypes := ts }, ty, pos, after, none⟩).run X.P w = .ok (.enter f vs.toArray) w := by
    simp [execOp, resolve, Act.eval, Deferred.ofValue, invoke, run_callFunc hf, ha.evals ho]
  rw [hr]
  refine ⟨by simp [FW], ?_⟩
  refine (show CallsIn (FW X.ro) 0 X.P f vs.toArray w _ from ?_)
  have := (callsIn_wide (n := 0)).2 (hc w hm)
  refine CallsIn.mono (F := FW X.ro) ⟨trivial, fun cs hr => this.2 cs (room_wide _)⟩ ?_
  rintro e w' ⟨v, rfl, hR⟩
  obtain ⟨H1, hm', hk⟩ := k w v w' hm hR
  exact hk _ w' (ha.put v (nblt hd)) hm'.self

/-! ### Loops whose relation speaks of the world -/
def loopWQ {σ : Type} (X : Cx) (Ls : σ → List (Nat × Value)) (Hs : σ → List Hp) (G : σ → World → Prop) (μ : σ → Nat) (s : σ) (Q : Qt) : Qt :=
  Exit.then (fun a w => ∃ s', (Env X.N X.ds a (Ls s') ∧ Mem X.w0 X.S (Hs s') w ∧ G s' w) ∧ μ s' < μ s) Q
theorem wc_loopW {σ : Type} (Ls : σ → List (Nat × Value)) (Hs : σ → List Hp) (G : σ → World → Prop) (μ : σ → Nat) (s0 : σ)
    (hs : Sub L (Ls s0)) (hh : Ent H (Hs s0)) (hg : ∀ w, Mem X.w0 X.S H w → G s0 w)
    (round : ∀ s w1, Mem X.w0 X.S (Hs s) w1 → G s w1 → WC (X.to w1 (Hs s)) c (loopWQ X Ls Hs G μ s Q) (Ls s) (Hs s)) : WC X (.loop c) Q L H := by
  intro a w ha hm
  intro b k cs hro hb hr
  have key : ∀ j s a w, μ s = j → Env X.N X.ds a (Ls s) → Mem X.w0 X.S (Hs s) w → G s w →
      ∃ e a' w', Q e a' w' ∧ ArrivesIn (Machine.fenced X.P (FW X.ro)) X.P (lone (b.atR a (.code c :: .inLoop c :: k)) cs w) b k cs e a' w' := by
    intro j
    induction j using Nat.strongRecOn with
    | _ j ih =>
      intro s a w hn hE hM hG
      obtain ⟨e, a₁, w₁, hq, harr⟩ := round s w hM hG a w hE hM.self b (.inLoop c :: k) cs hro hb hr
      cases e with
      | normal =>
        obtain ⟨s', ⟨hE', hM', hG'⟩, hlt⟩ := hq
        obtain ⟨e₂, a₂, w₂, hq₂, harr₂⟩ := ih (μ s') (hn ▸ hlt) s' a₁ w₁ rfl hE' hM' hG'
        exact ⟨e₂, a₂, w₂, hq₂, .of_steps (StepsIn.trans harr (.one (fenced_calm hb hr rfl) stepR_inLoop)) harr₂⟩
      | exit id => exact ⟨_, a₁, w₁, hq, .pass (x := .inLoop c) rfl (fun _ _ => .inl (by simp)) harr⟩
      | goto l => exact ⟨_, a₁, w₁, hq, .pass (x := .inLoop c) rfl (fun _ _ => .inl (by simp)) harr⟩
      | ret => exact ⟨_, a₁, w₁, hq, .pass (x := .inLoop c) rfl (fun _ _ => .inl (by simp)) harr⟩
      | panic ch => exact ⟨_, a₁, w₁, hq, .pass (x := .inLoop c) rfl (fun _ _ => .inl (by simp)) harr⟩
      | outgrown => exact ⟨_, a₁, w₁, hq, .pass (x := .inLoop c) rfl (fun _ _ => .inl (by simp)) harr⟩
  obtain ⟨e, a', w', hq, harr⟩ := key _ s0 a w rfl (ha.sub hs) (hm.ent hh) (hg w hm)
  exact ⟨e, a', w', hq, .of_steps (.one (fenced_calm hb hr rfl) stepR_loop) harr⟩
theorem pe_againW {Y : Cx} {σ : Type} {Ls : σ → List (Nat × Value)} {Hs : σ → List Hp} {G : σ → World → Prop} {μ : σ → Nat} {s : σ} (hY : ∀ w, Mem Y.w0 Y.S H w → Mem X.w0 X.S H w) (hN : Y.N = X.N) (hds : Y.ds = X.ds) (s' : σ)
    (hs : Sub L (Ls s')) (hh : Ent H (Hs s')) (hg : ∀ w, Mem Y.w0 Y.S H w → G s' w) (hm : μ s' < μ s) : PE Y (loopWQ X Ls Hs G μ s Q) .normal L H :=
  fun _ w ha hm' => ⟨s', ⟨by rw [hN, hds] at ha; exact ha.sub hs, (hY w hm').ent hh, hg w hm'⟩, hm⟩
theorem pe_loopW_ret {Y : Cx} {σ : Type} {Ls : σ → List (Nat × Value)} {Hs : σ → List Hp} {G : σ → World → Prop} {μ : σ → Nat} {s : σ} (h : PE Y Q .ret L H) : PE Y (loopWQ X Ls Hs G μ s Q) .ret L H := h
theorem pe_loopW_exit {Y : Cx} {σ : Type} {Ls : σ → List (Nat × Value)} {Hs : σ → List Hp} {G : σ → World → Prop} {μ : σ → Nat} {s : σ} {id} (h : PE Y Q (.exit id) L H) : PE Y (loopWQ X Ls Hs G μ s Q) (.exit id) L H := h

/-! ### Maps with int keys -/
def KeysI (es : Array MapEntry) : Prop := ∀ e ∈ es.toList, ∃ a, e.key = .int .i64 a
theorem findNow_int (k : Int) : ∀ (es : List MapEntry) (i : Nat), (∀ e ∈ es, ∃ a, e.key = .int .i64 a) →
    (∃ j e, es[j]? = some e ∧ e.key = .int .i64 k ∧ Instr.findNow (.int .i64) (.int .i64 k) es i = some (some (i + j, e.val))) ∨ ((∀ e ∈ es, e.key ≠ .int .i64 k) ∧ Instr.findNow (.int .i64) (.int .i64 k) es i = some none)
  | [], i, _ => .inr ⟨by simp, rfl⟩
  | e :: es, i, h => by
    obtain ⟨a, ha⟩ := h e (by simp)
    by_cases hk : k = a
    · subst hk
      exact .inl ⟨0, e, rfl, ha, by simp [Instr.findNow, Instr.sameNow, ha]⟩
    · have hn : Instr.findNow (.int .i64) (.int .i64 k) (e :: es) i = Instr.findNow (.int .i64) (.int .i64 k) es (i + 1) := by
        have hb : (k == a) = false := by simpa using hk
        simp [Instr.findNow, Instr.sameNow, ha, hb]
      rw [hn]
      rcases findNow_int k es (i + 1) (fun x hx => h x (List.mem_cons_of_mem _ hx)) with ⟨j, x, hj, hx, hf⟩ | ⟨hne, hf⟩
      · exact .inl ⟨j + 1, x, by simpa using hj, hx, by rw [hf, show i + 1 + j = i + (j + 1) by omega]⟩
      · refine .inr ⟨fun x hx => ?_, hf⟩
        rcases List.mem_cons.1 hx with rfl | hx
        · rw [ha]; intro e; cases e; exact hk rfl
        · exact hne x hx
theorem run_checkKey_int {P : Program} {K : TypeId} (hK : P.underlying K = some (.int .i64)) (em : Bool) (n : Nat) (k : Int) (w : World) : (Instr.checkKey em (n + 1) K (.int .i64 k)).run P w = .ok () w := by
  simp [Instr.checkKey, run_underlying hK]
theorem run_getObj_map' {P : Program} {r : Nat} {es : Array MapEntry} {clock : Nat} (h : w.heap[r]? = some (.map es clock)) : (getObj r).run P w = .ok (.map es clock) w := by simp [getObj, Sem.run, h]
theorem run_setObj_map' {P : Program} {r : Nat} {es : Array MapEntry} {clock : Nat} (o : Obj) (h : w.heap[r]? = some (.map es clock)) : (setObj r o).run P w = .ok () (w.putObj r o) := by simp [setObj, Sem.run, h, World.putObj]
theorem run_lookupI {P : Program} {T K E : TypeId} {b : Nat} {es : Array MapEntry} {clock : Nat} {z : Value} (hT : P.underlying T = some (.map K E)) (hK : P.underlying K = some (.int .i64)) (hz : zeT P E = some z) (hb : w.heap[b]? = some (.map es clock)) (hk : KeysI es) (k : Int) :
    (∃ e ∈ es.toList, e.key = .int .i64 k ∧ (Instr.lookup T (.map (some b)) (.int .i64 k) true).run P w = .ok (.tuple #[e.val, .bool true]) w) ∨
    ((∀ e ∈ es.toList, e.key ≠ .int .i64 k) ∧ (Instr.lookup T (.map (some b)) (.int .i64 k) true).run P w = .ok (.tuple #[z, .bool false]) w) := by
  rcases findNow_int k es.toList 0 hk with ⟨j, e, hj, he, hf⟩ | ⟨hne, hf⟩
  · refine .inl ⟨e, List.mem_of_getElem? hj, he, ?_⟩
    simp [Instr.lookup, run_underlying hT, run_getObj_map' hb, run_checkKey_int hK, Instr.findKey, run_underlying hK, hf]
  · refine .inr ⟨hne, ?_⟩
    simp [Instr.lookup, run_underlying hT, run_getObj_map' hb, run_checkKey_int hK, Instr.findKey, run_underlying hK, hf, run_zeT hz]
theorem run_mapUpdateI {P : Program} {T K E : TypeId} {b : Nat} {es : Array MapEntry} {clock : Nat} (hT : P.underlying T = some (.map K E)) (hK : P.underlying K = some (.int .i64)) (hb : w.heap[b]? = some (.map es clock)) (hk : KeysI es) (k : Int) (v : Value) :
    ∃ es' clock', (Instr.mapUpdate T (.map (some b)) (.int .i64 k) v).run P w = .ok () (w.putObj b (.map es' clock')) ∧ KeysI es' ∧ ∀ e ∈ es'.toList, e ∈ es.toList ∨ (e.key = .int .i64 k ∧ e.val = v) := by
  rcases findNow_int k es.toList 0 hk with ⟨j, e, hj, he, hf⟩ | ⟨hne, hf⟩
  · have hje : es[j]? = some e := by simpa using hj
    have hmem : ∀ x ∈ (es.modify j fun x => { x with key := .int .i64 k, val := v }).toList, x ∈ es.toList ∨ (x.key = .int .i64 k ∧ x.val = v) := by
      intro x hx
      rw [Array.toList_modify] at hx
      obtain ⟨i, hi⟩ := List.mem_iff_getElem?.1 hx
      rw [List.getElem?_modify] at hi
      cases hx' : es.toList[i]? with
      | none => rw [hx'] at hi; simp at hi
      | some u =>
        rw [hx'] at hi
        simp only [Option.map_eq_map, Option.map_some, Option.some.injEq] at hi
        split at hi
        · right; rw [← hi]; exact ⟨rfl, rfl⟩
        · left; rw [← hi]; exact List.mem_of_getElem? hx'
    refine ⟨_, clock, ?_, ?_, hmem⟩
    · simp [Instr.mapUpdate, run_underlying hT, run_getObj_map' hb, run_checkKey_int hK, Instr.findKey, run_underlying hK, hf, hje, Instr.keyThatStays, he, Instr.sameBits, run_setObj_map' _ hb]
    · intro x hx
      rcases hmem x hx with h | h
      · exact hk x h
      · exact ⟨k, h.1⟩
  · refine ⟨es.push { key := .int .i64 k, val := v, born := clock }, clock + 1, ?_, ?_, ?_⟩
    · simp [Instr.mapUpdate, run_underlying hT, run_getObj_map' hb, run_checkKey_int hK, Instr.findKey, run_underlying hK, hf, run_setObj_map' _ hb]
    · intro x hx
      simp only [Array.toList_push, List.mem_append, List.mem_singleton] at hx
      rcases hx with h | rfl
      · exact hk x h
      · exact ⟨k, rfl⟩
    · intro x hx
      simp only [Array.toList_push, List.mem_append, List.mem_singleton] at hx
      rcases hx with h | rfl
      · exact .inl h
      · exact .inr ⟨rfl, rfl⟩
/-- m[k], with ok. -/
theorem wl_lookupI {d T K E ty pos after o o' b es clock k z} (ho : ev L o = some (.map (some b))) (ho' : ev L o' = some (.int .i64 k)) (hT : X.P.underlying T = some (.map K E)) (hK : X.P.underlying K = some (.int .i64)) (hz : zeT X.P E = some z)
    (p : Pick H (.obj b (.map es clock)) H') (hk : KeysI es) (hd : Nat.blt d X.N = true)
    (k1 : ∀ e ∈ es.toList, e.key = .int .i64 k → WL X ops Q rest ((d, .tuple #[e.val, .bool true]) :: L) H) (k2 : (∀ e ∈ es.toList, e.key ≠ .int .i64 k) → WL X ops Q rest ((d, .tuple #[z, .bool false]) :: L) H) :
    WL X ops Q (⟨some d, .lookup T o o' true, ty, pos, after, none⟩ :: rest) L H := by
  intro a w ha hm
  unfold wpListIn
  have hw : Region.wanted ⟨some d, .lookup T o o' true, ty, pos, after, none⟩ (yielded ops a.tmps) = true := rfl
  rw [if_pos hw]
  refine ⟨fun _ _ => trivial, ?_⟩
  rw [Oper.semAt_eq _ _ _ (calm_defer rfl)]
  have hb : w.heap[b]? = some (.map es clock) := hm.get p
  rcases run_lookupI (w := w) hT hK hz hb hk k with ⟨e, he, hke, hr⟩ | ⟨hne, hr⟩
  · have : (execOp a.eval ⟨some d, .lookup T o o' true, ty, pos, after, none⟩).run X.P w = .ok (.value (.tuple #[e.val, .bool true])) w := by
      simp [execOp, ha.eval ho, ha.eval ho', hr]
    rw [this]
    exact k1 e he hke _ _ (ha.put _ (nblt hd)) hm
  · have : (execOp a.eval ⟨some d, .lookup T o o' true, ty, pos, after, none⟩).run X.P w = .ok (.value (.tuple #[z, .bool false])) w := by
      simp [execOp, ha.eval ho, ha.eval ho', hr]
    rw [this]
    exact k2 hne _ _ (ha.put _ (nblt hd)) hm
/-- m[k] = v. -/
theorem wl_mapUpdateI {T K E ty pos after o o' o'' b es clock k v} (ho : ev L o = some (.map (some b))) (ho' : ev L o' = some (.int .i64 k)) (hv : ev L o'' = some v) (hT : X.P.underlying T = some (.map K E)) (hK : X.P.underlying K = some (.int .i64))
    (p : Pick H (.obj b (.map es clock)) H') (hk : KeysI es)
    (k1 : ∀ es' clock', KeysI es' → (∀ e ∈ es'.toList, e ∈ es.toList ∨ (e.key = .int .i64 k ∧ e.val = v)) → WL X ops Q rest L (.obj b (.map es' clock') :: H')) :
    WL X ops Q (⟨none, .mapUpdate T o o' o'', ty, pos, after, none⟩ :: rest) L H := by
  refine wl_unit rfl fun a w ha hm => ?_
  have hb : w.heap[b]? = some (.map es clock) := hm.get p
  obtain ⟨es', clock', hr, h1, h2⟩ := run_mapUpdateI (w := w) hT hK hb hk k v
  exact ⟨_, _, fun _ _ _ _ => by simp [execOp, ha.eval ho, ha.eval ho', ha.eval hv, hr], hm.setObj p _, k1 es' clock' h1 h2⟩
theorem wl_makeMap {d T ty pos after} (hd : Nat.blt d X.N = true) (k : ∀ b, WL X ops Q rest ((d, .map (some b)) :: L) (.obj b (.map #[] 0) :: H)) :
    WL X ops Q (⟨some d, .makeMap T none, ty, pos, after, none⟩ :: rest) L H := by
  intro a w ha hm
  unfold wpListIn
  have hw : Region.wanted ⟨some d, .makeMap T none, ty, pos, after, none⟩ (yielded ops a.tmps) = true := rfl
  rw [if_pos hw]
  refine ⟨fun _ _ => trivial, ?_⟩
  rw [Oper.semAt_eq _ _ _ (calm_defer rfl)]
  have : (execOp a.eval ⟨some d, .makeMap T none, ty, pos, after, none⟩).run X.P w = .ok (.value (.map (some w.heap.size))) (w.alloc (.map #[] 0)) := by
    simp [execOp, Instr.makeMap, run_newObj_alloc]
  rw [this]
  exact k _ _ _ (ha.put _ (nblt hd)) (hm.allocObj _)

/-! ### Ranges over a function -/
def Rok (R : Value → World → Prop) : Ending → World → Prop := fun e w' => ∃ u, e = .returned u ∧ R u w'
/-- A call of yield with one argument. -/
def YCl (P : Program) (l : Nat) (v : Value) (w : World) (R : Value → World → Prop) : Prop :=
  ∃ (r : Loop) (t : Tmp), w.heap[l]? = some (.loop r) ∧ r.params = #[t] ∧ RoundIn (FW none) 0 P l r.fn (r.tmps.setIfInBounds t v) r.assign r.body w (Rok R)

theorem wl_callY {d g ty pos after ts l o v} {R : World → Value → World → Prop} (hro : X.ro = none) (hg : ev L g = some (.func (.yield l) #[] #[])) (ho : ev L o = some v)
    (hc : ∀ w, Mem X.w0 X.S H w → YCl X.P l v w (R w)) (hd : Nat.blt d X.N = true)
    (k : ∀ w u w', Mem X.w0 X.S H w → R w u w' → ∃ H1, Mem X.w0 X.S H1 w' ∧ WL (X.to w' H1) ops Q rest ((d, u) :: L) H1) :
    WL X ops Q (⟨some d, .call { callee := .value g, args := #[o], argTypes := ts }, ty, pos, after, none⟩ :: rest) L H := by
  intro a w ha hm
  unfold wpListIn
  have hw : Region.wanted ⟨some d, .call { callee := .value g, args := #[o], argTypes := ts }, ty, pos, after, none⟩ (yielded ops a.tmps) = true := rfl
  rw [if_pos hw]
  refine ⟨fun _ _ => trivial, ?_⟩
  rw [Oper.semAt_eq _ _ _ (calm_defer rfl)]
  obtain ⟨r, t, hl, hp, hround⟩ := hc w hm
  have hy := run_yield (P := X.P) (w := w) (args := #[v]) hl (by simp [hp])
  have hr : (execOp a.eval ⟨some d, .call { callee := .value g, args := #[o], argTypes := ts }, ty, pos, after, none⟩).run X.P w = .ok (.round l r.fn (r.tmps.setIfInBounds t v) r.assign r.body) w := by
    rw [hp] at hy
    simp [execOp, resolve, ha.eval hg, Deferred.ofValue, invoke, ha.eval ho, hy]
  rw [hr, Oper.uponIn_round, hro]
  refine ⟨by simp [FW], ?_⟩
  refine RoundIn.mono hround ?_
  rintro e w' ⟨u, rfl, hR⟩
  obtain ⟨H1, hm', hk⟩ := k w u w' hm hR
  have := hk _ w' (ha.put u (nblt hd)) hm'.self
  rw [show (X.to w' H1).ro = none from hro] at this
  exact this

/-- The end of the assignments to the loop's left sides. -/
def asgQ (P : Program) (l : Nat) (body : Code) (R : Value → World → Prop) : Qt :=
  Exit.then (fun a₁ w₁ => ∃ w₂, (Instr.beginRound l).run P w₁ = .ok () w₂ ∧ body.wpIn (FW (some l)) 0 P (roundPost P l (Rok R)) a₁ w₂) (fun _ _ _ => False)
theorem ycl_of {l N : Nat} {P : Program} {r : Loop} {t : Tmp} {v : Value} {R : Value → World → Prop} (m : Mem w0 S H w) (p : Pick H (.obj l (.loop r)) H') (hp : r.params = #[t]) (hE : Env N [] { tmps := r.tmps, defers := [] } L) (ht : Nat.blt t N = true)
    (h : WC ⟨P, some l, N, [], w0, S⟩ r.assign (asgQ P l r.body R) ((t, v) :: L) H) : YCl P l v w R := by
  refine ⟨r, t, m.get p, hp, roundIn_of_wpIn trivial ?_⟩
  exact h _ w (hE.put (d := t) v (nblt ht)) m
theorem pe_asg {l : Nat} {r : Loop} {body : Code} {R : Value → World → Prop} (hro : X.ro = some l) (p : Pick H (.obj l (.loop r)) H') (hr : r.state = .ready)
    (h : WC X body (roundPost X.P l (Rok R)) L (.obj l (.loop { r with state := .busy }) :: H')) : PE X (asgQ X.P l body R) .normal L H := by
  intro a w ha hm
  refine ⟨_, run_beginRound (hm.get p) hr, ?_⟩
  have := h a _ ha (hm.setObj p _)
  rwa [hro] at this
theorem pe_round {Y : Cx} {l : Nat} {r : Loop} {R : Value → World → Prop} {P : Program} (p : Pick H (.obj l (.loop r)) H')
    (h : ∀ w, Mem Y.w0 Y.S (.obj l (.loop { r with state := .ready, pending := none }) :: H') w → R (.bool true) w) : PE Y (roundPost P l (Rok R)) .normal L H := by
  intro a w ha hm
  exact ⟨_, _, run_endRound none (hm.get p), _, rfl, h _ (hm.setObj p _)⟩

/-- The statement: the function ranged over, from the world with the loop's record; the walk begins anew behind it. -/
theorem wc_rangeFunc {g : Operand} {ps : Array Tmp} {assign body : Code} {f : FuncId} {fs cs : List Value} (hro : X.ro = none) (hg : ev L g = some (.func (.func f) fs.toArray cs.toArray)) (hf : callOK X.P f = true)
    (Post : Nat → List Hp → World → Prop)
    (hcall : ∀ (fn : FuncId) tmps w1 b, Env X.N [] { tmps := tmps, defers := [] } L → Mem X.w0 X.S (.obj (b + 1) (.loop { state := .ready, pending := none, fn, tmps, params := ps, assign, body, defers := b }) :: .obj b (.deferred (some [])) :: H) w1 →
      Cl X.P f (fs ++ [.func (.yield (b + 1)) #[] #[]] ++ cs) w1 (fun _ w3 => ∃ H3 r3, r3.state ≠ .busy ∧ r3.pending = none ∧ Mem X.w0 X.S (.obj (b + 1) (.loop r3) :: .obj b (.deferred (some [])) :: H3) w3 ∧ Post b H3 w3))
    (k : ∀ b H3 w3 w4, Post b H3 w3 → Upd [b + 1] w3 w4 → Mem X.w0 X.S (.obj b (.deferred (some [])) :: H3) w4 →
      PE (({ X with ds := { target := .collected b, args := #[] } :: X.ds } : Cx).to w4 (.obj b (.deferred (some [])) :: H3)) Q .normal L (.obj b (.deferred (some [])) :: H3)) :
    WC X (.rangeFunc g ps assign body) Q L H := by
  intro a w ha hm
  refine wpIn_rangeFunc fun fn _ => ?_
  have he := run_enterLoop_outer (P := X.P) (w := w) fn a.tmps ps assign body
  have m1 := (hm.allocObj (.deferred (some []))).allocObj (.loop { state := .ready, pending := none, fn, tmps := a.tmps, params := ps, assign, body, defers := w.heap.size })
  simp only [World.size_alloc] at m1
  have hE : Env X.N [] { tmps := a.tmps, defers := [] } L := ⟨ha.size, rfl, ha.get⟩
  have hc := hcall fn a.tmps _ w.heap.size hE m1
  have heq : (FW X.ro).round = none := hro
  generalize hW : (w.alloc (.deferred (some []))).alloc (.loop { state := .ready, pending := none, fn, tmps := a.tmps, params := ps, assign := assign, body := body, defers := w.heap.size }) = W at he m1 hc
  refine ⟨w.heap.size + 1, _, W, { target := .fn (.func f) cs.toArray, args := fs.toArray ++ #[Value.func (.yield (w.heap.size + 1)) #[] #[]] }, W, f, (fs ++ [Value.func (.yield (w.heap.size + 1)) #[] #[]] ++ cs).toArray, W, heq ▸ he, ?_, fun _ _ => trivial, ?_, by simp [FW], ?_⟩
  · have h2 : ∀ v, a.eval (.const v) = v := fun _ => rfl
    simp [resolve, ha.eval hg, Deferred.ofValue, h2]
  · simp [invoke, run_callFunc hf]
  · have := (callsIn_wide (n := 0)).2 hc
    refine CallsIn.mono (F := FW X.ro) ⟨trivial, fun cs hr => this.2 cs (room_wide _)⟩ ?_
    rintro e w3 ⟨v, rfl, H3, r3, hb, hp, hM, hPost⟩
    have hl : w3.heap[w.heap.size + 1]? = some (.loop r3) := hM.get (.head _ _)
    refine ⟨r3.pending, _, run_endLoop hl hb, ?_⟩
    rw [hp]
    have hM4 := hM.setObj (.head _ _) (.loop { r3 with state := .exhausted })
    have hU : Upd [w.heap.size + 1] w3 (w3.putObj (w.heap.size + 1) (.loop { r3 with state := .exhausted })) := ⟨rfl, rfl, rfl, by simp, fun k _ hn => World.putObj_heap_other (by simpa using hn)⟩
    have hE2 : Env X.N ({ target := .collected w.heap.size, args := #[] } :: X.ds) { a with defers := [{ target := .collected w.heap.size, args := #[] }] ++ a.defers } L := ⟨ha.size, by simp [ha.dfr], ha.get⟩
    have := k w.heap.size H3 w3 _ hPost hU hM4.drop
    rw [hp] at hM4 this
    exact this _ _ hE2 hM4.drop.self
/-- Functions that hold such a range. -/
def bodyQM (P : Program) (fn : Func) (R : Value → World → Prop) : Qt := bodyPostM Fence.wide 0 P fn (Rok R)
theorem cl_ofM {P : Program} {f : FuncId} {fn : Func} {c : Code} {args : List Value} {w : World} {R : Value → World → Prop} {S : List Nat} {H : List Hp}
    {N : Nat} (hf : P.funcs[f]? = some fn) (hb : fn.body = some c) (hn : fn.ntmps = N) (hN : Nat.ble args.length N = true) (hm : Mem w S H w)
    (h : WC ⟨P, none, N, [], w, S⟩ c (bodyQM P fn R) (argL args 0) H) : Cl P f args w R := by
  subst hn
  have hN := Nat.le_of_ble_eq_true hN
  have := callsIn_of_wp_marks (F := Fence.wide) (n := 0) hf hb trivial (args := args.toArray) (w := w) (R := Rok R) (h _ w (Env.args args hN) hm)
  exact callsIn_wide.1 this
theorem pe_retM1 {P : Program} {fn : Func} {R : Value → World → Prop} {t : Nat} {v : Value} (hr : fn.results = #[.tmp t]) (hds : X.ds = []) (hl : lk L t = some v)
    (h : ∀ w, Mem X.w0 X.S H w → R v w) : PE X (bodyQM P fn R) .ret L H := by
  intro a w ha hm
  have := ha.get t v hl
  show LeavesInM _ _ _ _ _ _ a.defers .returning w
  rw [ha.dfr, hds]
  exact ⟨v, by simp [results, hr, this], _, rfl, h w hm⟩
theorem pe_retM1m {P : Program} {fn : Func} {R : Value → World → Prop} {t b : Nat} {v : Value} (hr : fn.results = #[.tmp t]) (hds : X.ds = [{ target := .collected b, args := #[] }]) (hl : lk L t = some v) (p : Pick H (.obj b (.deferred (some []))) H')
    (h : ∀ w, Mem X.w0 X.S (.obj b (.deferred none) :: H') w → R v w) : PE X (bodyQM P fn R) .ret L H := by
  intro a w ha hm
  have := ha.get t v hl
  show LeavesInM _ _ _ _ _ _ a.defers .returning w
  rw [ha.dfr, hds]
  refine ⟨by simp, .inl ⟨b, _, rfl, run_takeDeferred (hm.get p), ?_⟩⟩
  exact ⟨v, by simp [results, hr, this], _, rfl, h _ (hm.setObj p _)⟩
end Go.Proofs.Yteglbaidaekccaa
