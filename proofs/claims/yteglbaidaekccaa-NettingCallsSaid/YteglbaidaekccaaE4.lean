/- Appends, slices of slices, literals, calls. Conditions: each law's own hypotheses. -/
import Derived.Test.YteglbaidaekccaaE3
namespace Go.Proofs.Yteglbaidaekccaa
open Go Go.RowKit
variable {X : Cx} {Q : Qt} {L L' : List (Nat × Value)} {H H' : List Hp} {c x y : Code} {ops : Array Oper} {rest : List Oper}

theorem own_ownsRow {w : World} {A n cap T sz xs} (h : (Hp.own A n cap T sz xs).Holds w) : w.ownsRow 0 T sz (.slice A n cap) n xs := by
  obtain ⟨h1, h2, h3, ⟨rfl, rfl, rfl⟩ | ⟨r, rfl, rst, hr, hl⟩⟩ := h
  · exact ⟨h1, .inl ⟨rfl, rfl⟩⟩
  · refine ⟨h1, .inr ⟨r, cap, _, rfl, Nat.zero_le _, hr, h2, h3, by simpa using hl, ?_⟩⟩
    simp [← h1]
theorem ownsRow_own {w : World} {base v n T sz xs} (h : w.ownsRow base T sz v n xs) : ∃ A cap, v = .slice A n cap ∧ (Hp.own A n cap T sz xs).Holds w := by
  obtain ⟨h1, ⟨rfl, rfl⟩ | ⟨g, cap, cur, rfl, hb, hg, hn, hc, hs, ht⟩⟩ := h
  · exact ⟨none, 0, rfl, h1, Nat.le_refl _, Nat.zero_le _, .inl ⟨rfl, rfl, rfl⟩⟩
  · refine ⟨some ⟨g, 0, none⟩, cap, rfl, h1, hn, hc, .inr ⟨g, rfl, cur.toList.drop (n * sz), ?_, ?_⟩⟩
    · rw [← ht, List.take_append_drop]; simpa using hg
    · rw [← ht, List.take_append_drop]; simpa using hs

theorem info_of {P : Program} {E sz z by'} (hs : szT P E = some sz) (hz : zeT P E = some z) (hby : byT P E = some by') : ∃ i, P.info? E = some i ∧ i.size = sz ∧ i.zero = some z ∧ i.bytes = by' := by
  unfold szT at hs
  cases hi : P.info? E with
  | none => simp [hi] at hs
  | some i => exact ⟨i, rfl, by simpa [hi] using hs, by simpa [zeT, hi] using hz, by simpa [byT, hi] using hby⟩

theorem Mem.grown {w0 S H w w' A n cap T sz xs H'} {v' : Value} {n' : Nat} {xs' : List Value} (m : Mem w0 S H w) (p : Pick H (.own A n cap T sz xs) H')
    (ho : w'.ownsRow w.heap.size T sz v' n' xs' ∨ (w'.ownsRow 0 T sz v' n' xs' ∧ v'.ownBlock = A.map (·.block))) (hg : w.grownBy w' (A.map (·.block))) :
    ∃ A' cap', v' = .slice A' n' cap' ∧ Mem w0 S (.own A' n' cap' T sz xs' :: H') w' := by
  have hh : ∃ A' cap', v' = .slice A' n' cap' ∧ (Hp.own A' n' cap' T sz xs').Holds w' := by
    rcases ho with h | ⟨h, _⟩
    · exact ownsRow_own h
    · exact ownsRow_own h
  obtain ⟨A', cap', rfl, hh⟩ := hh
  refine ⟨A', cap', rfl, ?_⟩
  have m' := m.perm p.perm
  have := Mem.step (H1 := [.own A n cap T sz xs]) (S' := (A.map (·.block)).toList) (Hn := [.own A' n' cap' T sz xs']) (w := w) (w' := w') (by simpa using m')
    ⟨hg.os, hg.tape, hg.output, hg.size, fun k hk hn => hg.block k hk (fun e => hn (by rw [← e]; simp))⟩
    (by intro r hr; simp at hr; exact ⟨.own A n cap T sz xs, List.mem_singleton.2 rfl, by simpa [Hp.blk] using hr⟩)
    (by intro h hh'; simp only [List.mem_singleton] at hh'; subst hh'; exact hh)
    (by
      intro h hh' r e; simp only [List.mem_singleton] at hh'; subst hh'
      rcases ho with ho | ⟨ho, hb⟩
      · obtain ⟨_, ⟨hv, _⟩ | ⟨g, c2, cur, hv, hb, _⟩⟩ := ho
        · simp at hv; simp [Hp.blk, hv.1] at e
        · simp at hv; obtain ⟨rfl, _⟩ := hv; simp [Hp.blk] at e; subst e; exact .inr hb
      · left
        cases A' with
        | none => simp [Hp.blk] at e
        | some a' => simp [Hp.blk] at e; simp [Value.ownBlock] at hb; subst e; simp [← hb])
    (by simp)
  simpa using this

/-- append(s, x...): s of the call's own; x has m elements, at B. -/
theorem wl_append {d T E ty pos after o o' A n cap sz xs B m c2 ys z by'} (ho : ev L o = some (.slice A n cap)) (ho' : ev L o' = some (.slice B m c2))
    (hT : X.P.underlying T = some (.slice E)) (hs : szT X.P E = some sz) (hz : zeT X.P E = some z) (hzs : z.cells.size = sz) (hby : byT X.P E = some by') (hsz : Nat.blt 0 sz = true)
    (p : Pick H (.own A n cap E sz xs) H') (hB : SlX X H B ys) (hy : ys.length = m * sz) (h1 : ∀ v ∈ ys, v.oneCell' = true)
    (hn : (n + m) * by' ≤ 140737488355328) (hn' : n + m ≤ 1000000000000) (hd : Nat.blt d X.N = true)
    (k : ∀ A' cap', WL X ops Q rest ((d, .slice A' (n + m) cap') :: L) (.own A' (n + m) cap' E sz (xs ++ ys) :: H')) :
    WL X ops Q (⟨some d, .call { callee := .builtin .append, args := #[o, o'], argTypes := #[T, T] }, ty, pos, after, none⟩ :: rest) L H := by
  obtain ⟨i, hi, hi1, hi2, hi3⟩ := info_of hs hz hby
  have hsz := nblt hsz
  refine wl_val hd rfl fun a w ha hm => ?_
  have hown := hm.get p
  by_cases hm0 : m = 0
  · subst hm0
    have hy0 : ys = [] := List.eq_nil_of_length_eq_zero (by simpa using hy)
    subst hy0
    refine ⟨.slice A (n + 0) cap, w, _, fun _ _ _ _ => ?_, ?_, k A cap⟩
    · have hle : n ≤ cap := hown.2.1
      have hf : ∀ B : Option Addr, (Builtin.firstCells sz 0 (.slice B 0 c2)).run X.P w = .ok #[] w := by
        intro B; cases B <;> simp [Builtin.firstCells, loadCells, loadCellsFrom]
      cases A <;> simp [execOp, resolve, invoke, builtin, ha.eval ho, ha.eval ho', Builtin.append_, run_underlying hT, run_szT hs, Builtin.lenOf, hle, hf, storeCells]
    · simpa using hm.perm p.perm
  · rcases hB w hm with hn0 | ⟨b, off, rfl, hb, hc⟩
    · subst hn0
      have hy2 : m * sz = 0 := by rw [← hy]; rfl
      rcases Nat.mul_eq_zero.1 hy2 with h | h <;> omega
    · obtain ⟨v', w', hr, h2, h3, h4⟩ := run_append_own (P := X.P) w 0 T ty E i z sz by' hT hi hi2 hi1 hi3 hzs hsz (.slice A n cap) n xs (own_ownsRow hown) ⟨b, off, none⟩ m c2 ys hy
        (fun j u hu => by rw [addr_add]; exact hc j u hu) h1 (by simp only [maxLen]; omega) hn (Nat.zero_le _)
      have hbk : (Value.slice A n cap).ownBlock = A.map (·.block) := by cases A <;> rfl
      rw [hbk] at h3
      -- where the new row lies: in the old block, or beyond
      have hwhere : w'.ownsRow w.heap.size E sz v' (n + m) (xs ++ ys) ∨ (w'.ownsRow 0 E sz v' (n + m) (xs ++ ys) ∧ v'.ownBlock = A.map (·.block)) := by
        by_cases hroom : n + m ≤ cap
        · right
          refine ⟨h2, ?_⟩
          obtain ⟨g1, g2, g3, ⟨h5, h6, h7⟩ | ⟨r, rfl, rst, hr', hl⟩⟩ := hown
          · omega
          · have hr2 := run_append_room (P := X.P) w T ty E i hT hi r n cap _ hr' ⟨b, off, none⟩ m c2 ys (by rw [hi1]; exact hy) (fun j u hu => by rw [addr_add]; exact hc j u hu) h1 hroom
              (by rw [hi1, hy, ← Nat.add_mul]; simp only [List.size_toArray, hl]; exact Nat.mul_le_mul_right _ hroom)
            rw [hr] at hr2
            injection hr2 with e1 e2
            subst e1; rfl
        · left
          rcases h2 with ⟨hx, ⟨hv, hv0⟩ | ⟨g, cp, cur, hv, hb', hg, hnc, hcm, hcs, htk⟩⟩
          · omega
          · refine ⟨hx, .inr ⟨g, cp, cur, hv, ?_, hg, hnc, hcm, hcs, htk⟩⟩
            -- a new block: run_append_grow / nil
            obtain ⟨g1, g2, g3, ⟨h5, h6, h7⟩ | ⟨r, rfl, rst, hr', hl⟩⟩ := hown
            · subst h5; subst h6; subst h7
              have hx0 : xs = [] := List.eq_nil_of_length_eq_zero (by simpa using g1)
              have hr2 := run_append_nil (P := X.P) w T ty E i z hT hi hi2 ⟨b, off, none⟩ m c2 ys (by rw [hi1]; exact hy) (fun j u hu => by rw [addr_add]; exact hc j u hu) (by omega) (by omega) (by rw [hi3]; have := hn; simp only [Nat.zero_add] at this; omega)
              rw [hr] at hr2
              injection hr2 with e1 e2
              rw [e1] at hv
              simp at hv
              have := hv.1; omega
            · have hr2 := run_append_grow (P := X.P) w T ty E i z hT hi hi2 ⟨r, 0, none⟩ n cap xs (by rw [hi1]; exact g1) (fun j u hu => by
                  rw [addr_add, cell_of_row hr']
                  have := (List.getElem?_eq_some_iff.1 hu).1
                  simp [List.getElem?_append_left this, hu]) ⟨b, off, none⟩ m c2 ys (by rw [hi1]; exact hy) (fun j u hu => by rw [addr_add]; exact hc j u hu) (by omega) (by omega) (growslice_fits (by omega) (by rw [hi3]; exact hn))
              rw [hr] at hr2
              injection hr2 with e1 e2
              rw [e1] at hv
              simp at hv
              have := hv.1; omega
      obtain ⟨A', cap', rfl, hm'⟩ := hm.grown p hwhere h3
      refine ⟨_, w', _, fun _ _ _ _ => ?_, hm', k A' cap'⟩
      simp only [execOp, resolve, invoke, builtin, Sem.run_bind, Sem.run_pure, Result.andThen_ok, List.map_toArray, List.map_cons, List.map_nil, ha.eval ho, ha.eval ho', hr]

/-! ### Slice expressions -/
def subA (A : Option Addr) (cap l sz : Nat) : Option Addr := if cap = l then A else A.map (·.add (l * sz))
theorem sl_sub {w : World} {A cap l sz vs} (h : Sl w A vs) (hl : cap = l → vs.drop (l * sz) = []) : Sl w (subA A cap l sz) (vs.drop (l * sz)) := by
  unfold subA
  split
  · rename_i e; rw [hl e]; exact Sl.nil _ _
  · exact h.drop _
theorem sl_subX {A cap l sz vs} (h : SlX X H A vs) (hl : cap = l → vs.drop (l * sz) = []) : SlX X H (subA A cap l sz) (vs.drop (l * sz)) := fun w m => sl_sub (h w m) hl
theorem sl_takeX {A vs} (h : SlX X H A vs) (k : Nat) : SlX X H A (vs.take k) := fun w m => (h w m).take k

/-- s[:hi] -/
theorem ex_sliceH {o oh : Operand} {T E ty A n cap sz k} {hi : Int} (ho : ev L o = some (.slice A n cap)) (hh : ev L oh = some (.int k hi)) (hT : X.P.underlying T = some (.slice E)) (hs : szT X.P E = some sz)
    (h0 : 0 ≤ hi) (h1 : hi ≤ cap) (hA : ∀ a, A = some a → a.spot = none) : Ex X L H (.slice T o none (some oh) none) ty (.slice A hi.toNat cap) := by
  intro a w ha hm _ _ _ _
  have hA' : (if cap = 0 then A else A.map (·.add (0 * sz))) = A := by
    split
    · rfl
    · cases A with
      | none => rfl
      | some a => simp [Addr.add]
  simp [execOp, Instr.sliceAt, Instr.slice, run_underlying hT, ha.eval ho, ha.eval hh, Instr.sliceBounds, Instr.sliceBound, asIntOf, h0, h1, run_szT hs]
  simpa using hA'
/-- s[lo:] -/
theorem ex_sliceL {o ol : Operand} {T E ty A n cap sz k} {lo : Int} (ho : ev L o = some (.slice A n cap)) (hh : ev L ol = some (.int k lo)) (hT : X.P.underlying T = some (.slice E)) (hs : szT X.P E = some sz)
    (h0 : 0 ≤ lo) (h1 : lo ≤ n) : Ex X L H (.slice T o (some ol) none none) ty (.slice (subA A cap lo.toNat sz) (n - lo.toNat) (cap - lo.toNat)) := by
  intro a w ha hm _ _ _ _
  simp [execOp, Instr.sliceAt, Instr.slice, run_underlying hT, ha.eval ho, ha.eval hh, Instr.sliceBounds, Instr.sliceBound, asIntOf, h0, h1, run_szT hs, subA]
/-- s[lo:hi] -/
theorem ex_sliceLH {o ol oh : Operand} {T E ty A n cap sz k k'} {lo hi : Int} (ho : ev L o = some (.slice A n cap)) (hl : ev L ol = some (.int k lo)) (hh : ev L oh = some (.int k' hi)) (hT : X.P.underlying T = some (.slice E)) (hs : szT X.P E = some sz)
    (h0 : 0 ≤ lo) (h1 : lo ≤ hi) (h2 : hi ≤ cap) : Ex X L H (.slice T o (some ol) (some oh) none) ty (.slice (subA A cap lo.toNat sz) (hi.toNat - lo.toNat) (cap - lo.toNat)) := by
  intro a w ha hm _ _ _ _
  have h3 : 0 ≤ hi := by omega
  have h6 : max hi 0 = hi := by omega
  simp [h6, execOp, Instr.sliceAt, Instr.slice, run_underlying hT, ha.eval ho, ha.eval hh, ha.eval hl, Instr.sliceBounds, Instr.sliceBound, asIntOf, h0, h2, h3, h1, run_szT hs, subA]
/-- s[lo:hi:max] -/
theorem ex_sliceLHM {o ol oh om : Operand} {T E ty A n cap sz k k' k''} {lo hi mx : Int} (ho : ev L o = some (.slice A n cap)) (hl : ev L ol = some (.int k lo)) (hh : ev L oh = some (.int k' hi)) (hx : ev L om = some (.int k'' mx)) (hT : X.P.underlying T = some (.slice E)) (hs : szT X.P E = some sz)
    (h0 : 0 ≤ lo) (h1 : lo ≤ hi) (h2 : hi ≤ mx) (h3 : mx ≤ cap) : Ex X L H (.slice T o (some ol) (some oh) (some om)) ty (.slice (subA A mx.toNat lo.toNat sz) (hi.toNat - lo.toNat) (mx.toNat - lo.toNat)) := by
  intro a w ha hm _ _ _ _
  have h4 : 0 ≤ hi := by omega
  have h5 : 0 ≤ mx := by omega
  have h6 : max hi 0 = hi := by omega
  have h7 : max mx 0 = mx := by omega
  simp [h6, h7, execOp, Instr.sliceAt, Instr.slice, run_underlying hT, ha.eval ho, ha.eval hh, ha.eval hl, ha.eval hx, Instr.sliceBounds, Instr.sliceBound, asIntOf, h0, h1, h2, h3, h4, h5, run_szT hs, subA]
/-- s[:hi:max] -/
theorem ex_sliceHM {o oh om : Operand} {T E ty A n cap sz k' k''} {hi mx : Int} (ho : ev L o = some (.slice A n cap)) (hh : ev L oh = some (.int k' hi)) (hx : ev L om = some (.int k'' mx)) (hT : X.P.underlying T = some (.slice E)) (hs : szT X.P E = some sz)
    (h1 : 0 ≤ hi) (h2 : hi ≤ mx) (h3 : mx ≤ cap) (hA : ∀ a, A = some a → a.spot = none) : Ex X L H (.slice T o none (some oh) (some om)) ty (.slice A hi.toNat mx.toNat) := by
  intro a w ha hm _ _ _ _
  have h5 : 0 ≤ mx := by omega
  have hA' : (if mx ≤ 0 then A else A.map (·.add 0)) = A := by
    split
    · rfl
    · cases A with
      | none => rfl
      | some a => simp [Addr.add]
  have h7 : max mx 0 = mx := by omega
  simp [h7, execOp, Instr.sliceAt, Instr.slice, run_underlying hT, ha.eval ho, ha.eval hh, ha.eval hx, Instr.sliceBounds, Instr.sliceBound, asIntOf, h1, h2, h3, h5, run_szT hs]
  simpa using hA'

/-! ### Literals -/
def idx : Nat → List Operand → List (Nat × Operand)
  | _, [] => []
  | k, o :: r => (k, o) :: idx (k + 1) r
def idv : Nat → List Value → List (Nat × Value)
  | _, [] => []
  | k, v :: r => (k, v) :: idv (k + 1) r
theorem idx_map {N ds a L} (h : Env N ds a L) : ∀ {os : List Operand} {vs : List Value} (k : Nat), evs L os = some vs → (idx k os).map (fun p => (p.1, a.eval p.2)) = idv k vs
  | [], vs, k, hx => by simp [evs] at hx; subst hx; rfl
  | o :: r, vs, k, hx => by
    simp only [evs] at hx
    cases h1 : ev L o with
    | none => simp [h1] at hx
    | some v =>
      cases h2 : evs L r with
      | none => simp [h1, h2] at hx
      | some vs' =>
        simp [h1, h2] at hx
        subst hx
        simp [idx, idv, h.eval h1, idx_map h (k + 1) h2]

theorem foldl_set (off : Nat) : ∀ (cs : List Value) (j : Nat) (acc : Array Value), off + j + cs.length ≤ acc.size →
    ((cs.zipIdx j).foldl (fun a (p : Value × Nat) => a.setIfInBounds (off + p.2) p.1) acc) = (acc.toList.take (off + j) ++ cs ++ acc.toList.drop (off + j + cs.length)).toArray
  | [], j, acc, h => by simp
  | c :: cs, j, acc, h => by
    simp only [List.zipIdx_cons, List.foldl_cons]
    rw [foldl_set off cs (j + 1) _ (by simp at h ⊢; omega)]
    have hl : off + j < acc.toList.length := by simp at h ⊢; omega
    have e1 : (acc.setIfInBounds (off + j) c).toList = acc.toList.set (off + j) c := by simp
    rw [e1]
    congr 1
    apply List.ext_getElem?
    intro i
    simp only [List.length_cons] at h ⊢
    simp only [List.getElem?_append, List.length_append, List.length_take, List.length_set, List.getElem?_take, List.getElem?_drop, List.length_cons]
    simp at hl
    grind

theorem fill_idv (sz : Nat) : ∀ (vs : List Value) (k : Nat) (acc : Array Value), (∀ v ∈ vs, v.cells.size = sz) → (k + vs.length) * sz ≤ acc.size →
    Instr.fill (fun i => some (i * sz, sz)) acc (idv k vs) = some (acc.toList.take (k * sz) ++ vs.flatMap (·.cells.toList) ++ acc.toList.drop ((k + vs.length) * sz)).toArray
  | [], k, acc, _, h => by simp [idv, Instr.fill]
  | v :: vs, k, acc, hv, h => by
    have hsz := hv v (by simp)
    have hlen : (k + 1 + vs.length) * sz ≤ acc.size := by simpa [Nat.add_assoc, Nat.add_comm 1] using h
    have hk : k * sz + sz ≤ acc.size := by
      have : (k + 1) * sz ≤ (k + 1 + vs.length) * sz := Nat.mul_le_mul_right _ (by omega)
      rw [Nat.succ_mul] at this; omega
    simp only [idv, Instr.fill]
    rw [if_neg (by simp [hsz]; omega)]
    have hf := foldl_set (k * sz) v.cells.toList 0 acc (by simp [hsz]; exact hk)
    have e : (v.cells.zipIdx.foldl (fun cs (p : Value × Nat) => cs.setIfInBounds (k * sz + p.2) p.1) acc) = (acc.toList.take (k * sz) ++ v.cells.toList ++ acc.toList.drop (k * sz + sz)).toArray := by
      rw [← Array.foldl_toList, Array.toList_zipIdx]
      simpa [hsz] using hf
    have e' : (v.cells.zipIdx.foldl (fun cs (x : Value × Nat) => match x with | (c, j) => cs.setIfInBounds (k * sz + j) c) acc) = (acc.toList.take (k * sz) ++ v.cells.toList ++ acc.toList.drop (k * sz + sz)).toArray := e
    rw [e', fill_idv sz vs (k + 1) _ (fun u hu => hv u (by simp [hu]))]
    · congr 2
      simp only [List.flatMap_cons, List.length_cons]
      have hl1 : (acc.toList.take (k * sz)).length = k * sz := by simp; omega
      have hl2 : (acc.toList.take (k * sz) ++ v.cells.toList).length = (k + 1) * sz := by simp [hsz, Nat.succ_mul]; omega
      have t1 : List.take ((k + 1) * sz) (acc.toList.take (k * sz) ++ v.cells.toList ++ acc.toList.drop (k * sz + sz)) = acc.toList.take (k * sz) ++ v.cells.toList := by
        rw [← hl2, List.take_left]
      have t2 : List.drop ((k + 1 + vs.length) * sz) (acc.toList.take (k * sz) ++ v.cells.toList ++ acc.toList.drop (k * sz + sz)) = acc.toList.drop ((k + (vs.length + 1)) * sz) := by
        have e0 : (k + 1 + vs.length) * sz = (acc.toList.take (k * sz) ++ v.cells.toList).length + vs.length * sz := by rw [hl2, ← Nat.add_mul]
        rw [e0, List.drop_length_add_append, List.drop_drop]
        congr 1
        have : k * sz + sz = (k + 1) * sz := by rw [Nat.succ_mul]
        rw [this, ← Nat.add_mul]; congr 1; omega
      rw [t1, t2]; simp
    · simp [hsz]; omega

theorem wl_buildSlice {d T E ty pos after n sz z} (os : List Operand) {vs : List Value} {ps : Array (Nat × Operand)} (hps : ps = (idx 0 os).toArray) (ho : evs L os = some vs) (hT : X.P.underlying T = some (.slice E)) (hs : szT X.P E = some sz) (hz : zeT X.P E = some z)
    (hn : vs.length = n) (hv : ∀ v ∈ vs, v.cells.size = sz) (hsm : n * sz ≤ 16777216) (hnm : n ≤ 16777216) (hd : Nat.blt d X.N = true)
    (k : ∀ r, WL X ops Q rest ((d, .slice (some ⟨r, 0, none⟩) n n) :: L) (.own (some ⟨r, 0, none⟩) n n E sz (vs.flatMap (·.cells.toList)) :: H)) : WL X ops Q (⟨some d, .buildSlice T n ps, ty, pos, after, none⟩ :: rest) L H := by
  subst hps
  have hlen : (vs.flatMap (·.cells.toList)).length = n * sz := by
    subst hn
    clear k ho hsm hnm
    induction vs with
    | nil => simp
    | cons v vs ih => simp only [List.flatMap_cons, List.length_append, List.length_cons, Nat.succ_mul]; rw [ih (fun u hu => hv u (by simp [hu]))]; simp [hv v (by simp)]; omega
  refine wl_val hd rfl fun a w ha hm => ⟨_, _, _, fun _ _ _ _ => ?_, hm.allocOwn E sz n _ hlen (by simp only [maxLen]; omega), k w.heap.size⟩
  have hp : ((idx 0 os).toArray.map fun (i, x) => (i, a.eval x)).toList = idv 0 vs := by
    have := idx_map ha 0 ho
    simpa using this
  have hfill : ∀ (acc : Array Value), acc.size = n * sz → Instr.fill (fun i => some (i * sz, sz)) acc (idv 0 vs) = some (vs.flatMap (·.cells.toList)).toArray := by
    intro acc hacc
    rw [fill_idv sz vs 0 acc hv (by rw [hacc, Nat.zero_add, hn]; exact Nat.le_refl _)]
    simp [hn]
    rw [← hacc]; simp
  have h24 : ¬ n * sz > 2 ^ 24 := by simp; omega
  simp only [execOp, Instr.buildSlice, Sem.run_bind, run_underlying hT, Result.andThen_ok, run_szT hs, if_neg h24]
  by_cases h0 : n * sz = 0
  · simp only [h0, if_true, Sem.run_pure, Result.andThen_ok]
    have := hfill (Array.map (fun x => default) (Array.range 0)) (by simp [h0])
    rw [hp]
    simp [this, newRow, newObj, Sem.run]
  · simp only [h0, if_false, Sem.run_bind, run_zeT hz, Sem.run_pure, Result.andThen_ok]
    rw [hp]
    have := hfill ((Array.range (n * sz)).map (z.cells[· % z.cells.size]!)) (by simp)
    simp [this, newRow, newObj, Sem.run]


def placesT (P : Program) (fs : Array Field) : Option (List (Nat × Nat)) := fs.toList.mapM fun f => (szT P f.type).map fun n => (f.offset, n)
theorem run_places {P : Program} {w : World} : ∀ {fs : List Field} {pl : List (Nat × Nat)}, (fs.mapM fun f => (szT P f.type).map fun n => (f.offset, n)) = some pl →
    (fs.mapM (m := Sem) fun f => do pure (f.offset, ← sizeOf f.type)).run P w = .ok pl w
  | [], pl, h => by simp at h; subst h; rfl
  | f :: fs, pl, h => by
    rw [List.mapM_cons] at h
    cases h1 : szT P f.type with
    | none => simp [h1] at h
    | some n =>
      cases h2 : (fs.mapM fun f => (szT P f.type).map fun n => (f.offset, n)) with
      | none => simp [h1, h2] at h
      | some pl' =>
        simp [h1, h2] at h
        subst h
        have ih := run_places (P := P) (w := w) h2
        rw [List.mapM_cons]
        simp only [Sem.run_bind, run_szT h1, Result.andThen_ok, Sem.run_pure, ih]
/-- A struct literal. -/
theorem ex_build {T ty z pl cells} {fs : Array Field} (ks : List Nat) (os : List Operand) {vs : List Value} {ps : Array (Nat × Operand)} (hps : ps = (ks.zip os).toArray) (ho : evs L os = some vs) (hT : X.P.underlying T = some (.struct fs))
    (hz : zeT X.P T = some z) (hpl : placesT X.P fs = some pl) (hf : Instr.fill (fun i => pl[i]?) z.cells (ks.zip vs) = some cells) : Ex X L H (.build T ps) ty (.agg cells) := by
  subst hps
  intro a w ha hm _ _ _ _
  have hp : ∀ (ks : List Nat) (os : List Operand) (vs : List Value), os.map a.eval = vs → ((ks.zip os).map fun p => (p.1, a.eval p.2)) = ks.zip vs := by
    intro ks os vs h; subst h
    rw [List.zip_map_right]
    rfl
  have h1 := run_places (P := X.P) (w := w) hpl
  have h2 : (fs.mapM (m := Sem) fun f => do pure (f.offset, ← sizeOf f.type)).run X.P w = .ok pl.toArray w := by
    rw [Array.mapM_eq_mapM_toList]
    simp only [Sem.run_map, h1, Result.andThen_ok]
  have h3 : (((ks.zip os).toArray.map fun (i, x) => (i, a.eval x)).toList) = ks.zip vs := by
    have := hp ks os vs (ha.evals ho)
    simpa using this
  have h4 : (fun i : Nat => pl.toArray[i]?) = fun i : Nat => pl[i]? := by funext i; simp
  rw [← h4] at hf
  simp only [execOp, Instr.build, Sem.run_bind, run_zeT hz, Result.andThen_ok, run_underlying hT, h2, h3, hf, Sem.run_pure]

theorem run_part {P : Program} {w : World} {t : TypeId} {cs : Array Value} {off : Nat} {v : Value} (h : isAggT P t = some false) (hc : cs[off]? = some v) : (part t cs off).run P w = .ok v w := by
  simp [part, run_isAggT h, hc]
theorem run_partS {P : Program} {w : World} {t : TypeId} {cs : Array Value} {off n : Nat} (h : isAggT P t = some true) (hs : szT P t = some n) : (part t cs off).run P w = .ok (.agg (cs.extract off (off + n))) w := by
  simp [part, run_isAggT h, run_szT hs]
/-- A field of a struct value. -/
theorem ex_field {o : Operand} {T i ty} {fs : Array Field} {f : Field} {cs : Array Value} {v : Value} (ho : ev L o = some (.agg cs)) (hT : X.P.underlying T = some (.struct fs)) (hf : fs[i]? = some f) (ha' : isAggT X.P f.type = some false) (hc : cs[f.offset]? = some v) :
    Ex X L H (.field T o i) ty v := by
  intro a w ha hm _ _ _ _
  simp [execOp, Instr.field, run_underlying hT, hf, ha.eval ho, asAgg, run_part ha' hc]
/-- An element of an array value. -/
theorem ex_index {o o' : Operand} {T E n i ty k} {cs : Array Value} {v : Value} (ho : ev L o = some (.agg cs)) (ho' : ev L o' = some (.int k i)) (hT : X.P.underlying T = some (.array n E)) (ha' : isAggT X.P E = some false) (hs : szT X.P E = some 1) (h0 : 0 ≤ i) (hi : i < n)
    (hc : cs[i.toNat]? = some v) : Ex X L H (.index T o o') ty v := by
  intro a w ha hm _ _ _ _
  have hc' : cs[i.toNat * 1]? = some v := by simpa using hc
  simp only [execOp, Instr.index, ha.eval ho, ha.eval ho', asIntOf, Sem.run_bind, Sem.run_pure, Result.andThen_ok, run_underlying hT, if_pos (And.intro h0 hi), run_szT hs, run_part ha' hc']

/-! ### Calls -/
def callOK (P : Program) (f : FuncId) : Bool :=
  match P.funcs[f]? with
  | some fn => fn.body.isSome && !(fn.name == "runtime.NumGoroutine")
  | none => false
theorem run_callFunc {P : Program} {f : FuncId} {args : Array Value} {w : World} (h : callOK P f = true) : (callFunc f args).run P w = .ok (.enter f args) w := by
  unfold callOK at h
  cases hf : P.funcs[f]? with
  | none => simp [hf] at h
  | some fn =>
    simp only [hf, Bool.and_eq_true, Bool.not_eq_true'] at h
    obtain ⟨h1, h2⟩ := h
    have hb : fn.body.isNone = false := by cases hx : fn.body <;> simp_all
    simp only [callFunc, program, Sem.run_bind, Sem.run, Result.andThen_ok, hf, h2, hb, Bool.false_eq_true, if_false, Sem.run_pure]

/-- A call of a function by its name: the callee's contract; what lies behind it. -/
theorem wl_call {d f ty pos after ts} (os : List Operand) {vs : List Value} {R : World → Value → World → Prop} {as : Array Operand} (has : as = os.toArray) (hf : callOK X.P f = true) (ho : evs L os = some vs)
    (hc : ∀ w, Mem X.w0 X.S H w → Cl X.P f vs w (R w)) (hd : Nat.blt d X.N = true)
    (k : ∀ w v w', Mem X.w0 X.S H w → R w v w' → ∃ H1, Mem X.w0 X.S H1 w' ∧ WL X ops Q rest ((d, v) :: L) H1) :
    WL X ops Q (⟨some d, .call { callee := .value (.func f), args := as, argTypes := ts }, ty, pos, after, none⟩ :: rest) L H := by
  subst has
  intro a w ha hm
  unfold wpListIn
  have hw : Region.wanted ⟨some d, .call { callee := .value (.func f), args := os.toArray, argTypes := ts }, ty, pos, after, none⟩ (yielded ops a.tmps) = true := rfl
  rw [if_pos hw]
  refine ⟨fun _ _ => trivial, ?_⟩
  rw [Oper.semAt_eq _ _ _ (calm_defer rfl)]
  have hr : (execOp a.eval ⟨some d, .call { callee := .value (.func f), args := os.toArray, argTypes := ts }, ty, pos, after, none⟩).run X.P w = .ok (.enter f vs.toArray) w := by
    simp [execOp, resolve, Act.eval, Deferred.ofValue, invoke, run_callFunc hf, ha.evals ho]
  rw [hr]
  refine ⟨by simp [FW], ?_⟩
  refine (show CallsIn (FW X.ro) 0 X.P f vs.toArray w _ from ?_)
  have := (callsIn_wide (n := 0)).2 (hc w hm)
  refine CallsIn.mono (F := FW X.ro) ⟨trivial, fun cs hr => this.2 cs (room_wide _)⟩ ?_
  rintro e w' ⟨v, rfl, hR⟩
  obtain ⟨H1, hm', hk⟩ := k w v w' hm hR
  exact hk _ _ (ha.put v (nblt hd)) hm'
/-- A call of a function value. -/
theorem wl_callc {d g f ty pos after ts} (os : List Operand) {fs cs vs : List Value} {R : World → Value → World → Prop} {as : Array Operand} (has : as = os.toArray) (hg : ev L g = some (.func (.func f) fs.toArray cs.toArray)) (hf : callOK X.P f = true) (ho : evs L os = some vs)
    (hc : ∀ w, Mem X.w0 X.S H w → Cl X.P f (fs ++ vs ++ cs) w (R w)) (hd : Nat.blt d X.N = true)
    (k : ∀ w v w', Mem X.w0 X.S H w → R w v w' → ∃ H1, Mem X.w0 X.S H1 w' ∧ WL X ops Q rest ((d, v) :: L) H1) :
    WL X ops Q (⟨some d, .call { callee := .value g, args := as, argTypes := ts }, ty, pos, after, none⟩ :: rest) L H := by
  subst has
  intro a w ha hm
  unfold wpListIn
  have hw : Region.wanted ⟨some d, .call { callee := .value g, args := os.toArray, argTypes := ts }, ty, pos, after, none⟩ (yielded ops a.tmps) = true := rfl
  rw [if_pos hw]
  refine ⟨fun _ _ => trivial, ?_⟩
  rw [Oper.semAt_eq _ _ _ (calm_defer rfl)]
  have hr : (execOp a.eval ⟨some d, .call { callee := .value g, args := os.toArray, argTypes := ts }, ty, pos, after, none⟩).run X.P w = .ok (.enter f (fs ++ vs ++ cs).toArray) w := by
    have he : (#[] : Array Value) = [].toArray := rfl
    simp [execOp, resolve, ha.eval hg, Deferred.ofValue, invoke, run_callFunc hf, ha.evals ho]
  rw [hr]
  refine ⟨by simp [FW], ?_⟩
  have := (callsIn_wide (n := 0)).2 (hc w hm)
  refine CallsIn.mono (F := FW X.ro) ⟨trivial, fun cs hr => this.2 cs (room_wide _)⟩ ?_
  rintro e w' ⟨v, rfl, hR⟩
  obtain ⟨H1, hm', hk⟩ := k w v w' hm hR
  exact hk _ _ (ha.put v (nblt hd)) hm'

/-! Contracts' usual forms. -/
/-- It returns v; what was there is there. -/
def IsV (v : Value) (w : World) : Value → World → Prop := fun u w' => u = v ∧ Mem w [] [] w'
/-- For some g: it returns V g, and makes Hn g. -/
def IsR {γ : Type} (G : γ → Prop) (V : γ → Value) (Hn : γ → List Hp) (w : World) : Value → World → Prop := fun u w' => ∃ g, G g ∧ u = V g ∧ Mem w [] (Hn g) w'

theorem wl_callV {d f ty pos after ts v} (os : List Operand) {vs : List Value} {as : Array Operand} (has : as = os.toArray) (hf : callOK X.P f = true) (ho : evs L os = some vs)
    (hc : ∀ w, Mem X.w0 X.S H w → Cl X.P f vs w (IsV v w)) (hd : Nat.blt d X.N = true) (k : WL X ops Q rest ((d, v) :: L) H) :
    WL X ops Q (⟨some d, .call { callee := .value (.func f), args := as, argTypes := ts }, ty, pos, after, none⟩ :: rest) L H :=
  wl_call os has hf ho hc hd fun _ _ _ hm hR => ⟨H, by simpa using hm.call hR.2, by rw [hR.1]; exact k⟩
theorem wl_callR {d f ty pos after ts} {γ : Type} {G : γ → Prop} {V : γ → Value} {Hn : γ → List Hp} (os : List Operand) {vs : List Value} {as : Array Operand} (has : as = os.toArray) (hf : callOK X.P f = true) (ho : evs L os = some vs)
    (hc : ∀ w, Mem X.w0 X.S H w → Cl X.P f vs w (IsR G V Hn w)) (hd : Nat.blt d X.N = true) (k : ∀ g, G g → WL X ops Q rest ((d, V g) :: L) (Hn g ++ H)) :
    WL X ops Q (⟨some d, .call { callee := .value (.func f), args := as, argTypes := ts }, ty, pos, after, none⟩ :: rest) L H :=
  wl_call os has hf ho hc hd fun _ _ _ hm ⟨g, hG, hv, hM⟩ => ⟨_, hm.call hM, by rw [hv]; exact k g hG⟩
theorem wl_callcV {d g f ty pos after ts v} (os : List Operand) {fs cs vs : List Value} {as : Array Operand} (has : as = os.toArray) (hg : ev L g = some (.func (.func f) fs.toArray cs.toArray)) (hf : callOK X.P f = true) (ho : evs L os = some vs)
    (hc : ∀ w, Mem X.w0 X.S H w → Cl X.P f (fs ++ vs ++ cs) w (IsV v w)) (hd : Nat.blt d X.N = true) (k : WL X ops Q rest ((d, v) :: L) H) :
    WL X ops Q (⟨some d, .call { callee := .value g, args := as, argTypes := ts }, ty, pos, after, none⟩ :: rest) L H :=
  wl_callc os has hg hf ho hc hd fun _ _ _ hm hR => ⟨H, by simpa using hm.call hR.2, by rw [hR.1]; exact k⟩

theorem SlX.at {A vs} (h : SlX X H A vs) {w : World} (m : Mem X.w0 X.S H w) : Sl w A vs := h w m

end Go.Proofs.Yteglbaidaekccaa
