/- Bit operations on small ints. Conditions: each law's own hypotheses. -/
import Derived.Test.YteglbaidaekccaaE9
namespace Go.Proofs.Yteglbaidaekccaa
open Go Go.RowKit
variable {X : Cx} {Q : Qt} {L L' : List (Nat × Value)} {H H' : List Hp}

def andI (x y : Int) : Int := ((x.toNat &&& y.toNat : Nat) : Int)
def orI (x y : Int) : Int := ((x.toNat ||| y.toNat : Nat) : Int)
def dropI (x y : Int) : Int := ((x.toNat ^^^ (x.toNat &&& y.toNat) : Nat) : Int)
def powI (c : Int) : Int := ((2 ^ c.toNat : Nat) : Int)
def shrI (x c : Int) : Int := ((x.toNat / 2 ^ c.toNat : Nat) : Int)

theorem wrap_nat {n : Nat} (h : n < 9223372036854775808) : IntKind.i64.wrap (n : Int) = n := by rw [IntKind.wrap_i64]; omega
theorem bv_nat {x : Int} (h0 : 0 ≤ x) (h1 : x < 9223372036854775808) : (BitVec.ofInt 64 x).toNat = x.toNat := by
  rw [BitVec.toNat_ofInt]
  have : x % ((2 ^ 64 : Nat) : Int) = x := Int.emod_eq_of_lt h0 (by omega)
  rw [this]
theorem bits_and_i64 {x y : Int} (h0 : 0 ≤ x) (h1 : x < 9223372036854775808) (h2 : 0 ≤ y) (h3 : y < 9223372036854775808) : bits .and .i64 x y = andI x y := by
  show IntKind.i64.wrap ((BitVec.ofInt 64 x &&& BitVec.ofInt 64 y).toNat : Int) = _
  rw [BitVec.toNat_and, bv_nat h0 h1, bv_nat h2 h3, wrap_nat (Nat.lt_of_le_of_lt Nat.and_le_left (by omega))]; rfl
theorem or_lt {x y k : Nat} (hx : x < 2 ^ k) (hy : y < 2 ^ k) : x ||| y < 2 ^ k := Nat.or_lt_two_pow hx hy
theorem bits_or_i64 {x y : Int} (h0 : 0 ≤ x) (h1 : x < 9223372036854775808) (h2 : 0 ≤ y) (h3 : y < 9223372036854775808) : bits .or .i64 x y = orI x y := by
  show IntKind.i64.wrap ((BitVec.ofInt 64 x ||| BitVec.ofInt 64 y).toNat : Int) = _
  rw [BitVec.toNat_or, bv_nat h0 h1, bv_nat h2 h3, wrap_nat (or_lt (k := 63) (by omega) (by omega))]; rfl
theorem andnot_xor (a b : BitVec 64) : a &&& ~~~b = a ^^^ (a &&& b) := by
  apply BitVec.eq_of_getLsbD_eq
  intro i hi
  simp only [BitVec.getLsbD_and, BitVec.getLsbD_not, BitVec.getLsbD_xor]
  cases a.getLsbD i <;> cases b.getLsbD i <;> simp [hi]
theorem bits_andNot_i64 {x y : Int} (h0 : 0 ≤ x) (h1 : x < 9223372036854775808) (h2 : 0 ≤ y) (h3 : y < 9223372036854775808) : bits .andNot .i64 x y = dropI x y := by
  show IntKind.i64.wrap ((BitVec.ofInt 64 x &&& ~~~(BitVec.ofInt 64 y)).toNat : Int) = _
  rw [andnot_xor, BitVec.toNat_xor, BitVec.toNat_and, bv_nat h0 h1, bv_nat h2 h3, wrap_nat (Nat.xor_lt_two_pow (n := 63) (by omega) (Nat.lt_of_le_of_lt Nat.and_le_left (by omega)))]; rfl

theorem ex_and {o o' : Operand} {T T' ty x y} (ho : ev L o = some (.int .i64 x)) (ho' : ev L o' = some (.int .i64 y)) (h0 : 0 ≤ x ∧ x < 9223372036854775808) (h1 : 0 ≤ y ∧ y < 9223372036854775808) : Ex X L H (.binOp .and T o o' T') ty (.int .i64 (andI x y)) := by
  intro a w ha hm _ _ _ _
  simp [execOp, ha.eval ho, ha.eval ho', eqGuard, binOp_and, intBits_and, bits_and_i64 h0.1 h0.2 h1.1 h1.2]
theorem ex_or {o o' : Operand} {T T' ty x y} (ho : ev L o = some (.int .i64 x)) (ho' : ev L o' = some (.int .i64 y)) (h0 : 0 ≤ x ∧ x < 9223372036854775808) (h1 : 0 ≤ y ∧ y < 9223372036854775808) : Ex X L H (.binOp .or T o o' T') ty (.int .i64 (orI x y)) := by
  intro a w ha hm _ _ _ _
  simp [execOp, ha.eval ho, ha.eval ho', eqGuard, binOp_or, intBits_or, bits_or_i64 h0.1 h0.2 h1.1 h1.2]
theorem ex_andNot {o o' : Operand} {T T' ty x y} (ho : ev L o = some (.int .i64 x)) (ho' : ev L o' = some (.int .i64 y)) (h0 : 0 ≤ x ∧ x < 9223372036854775808) (h1 : 0 ≤ y ∧ y < 9223372036854775808) : Ex X L H (.binOp .andNot T o o' T') ty (.int .i64 (dropI x y)) := by
  intro a w ha hm _ _ _ _
  have : binOp .andNot T (.int .i64 x) (.int .i64 y) = Op.intBits .andNot .i64 x y := by simp [binOp]
  simp [execOp, ha.eval ho, ha.eval ho', eqGuard, this, intBits_andNot, bits_andNot_i64 h0.1 h0.2 h1.1 h1.2]
theorem ex_shr {o o' : Operand} {T T' ty x c k} (ho : ev L o = some (.int .i64 x)) (ho' : ev L o' = some (.int k c)) (h0 : 0 ≤ x) (h1 : 0 ≤ c ∧ c ≤ 64) : Ex X L H (.binOp .shr T o o' T') ty (.int .i64 (shrI x c)) := by
  intro a w ha hm _ _ _ _
  have hp : ((2 : Int) ^ c.toNat) = ((2 ^ c.toNat : Nat) : Int) := by simp
  have : x / (2 : Int) ^ c.toNat = shrI x c := by
    unfold shrI
    rw [hp, Int.natCast_ediv, Int.toNat_of_nonneg h0]
  simp [execOp, ha.eval ho, ha.eval ho', eqGuard, binOp_shr, shift_shr .i64 k x c h1.1 h1.2, this]
theorem ex_shl1 {o o' : Operand} {T T' ty c k} (ho : ev L o = some (.int .i64 1)) (ho' : ev L o' = some (.int k c)) (h1 : 0 ≤ c ∧ c ≤ 62) : Ex X L H (.binOp .shl T o o' T') ty (.int .i64 (powI c)) := by
  intro a w ha hm _ _ _ _
  have hlt : 2 ^ c.toNat < 9223372036854775808 := Nat.lt_of_le_of_lt (Nat.pow_le_pow_right (n := 2) (by omega) (show c.toNat ≤ 62 by omega)) (by decide)
  have : IntKind.i64.wrap (1 * (2 : Int) ^ c.toNat) = powI c := by
    have hp : ((2 : Int) ^ c.toNat) = ((2 ^ c.toNat : Nat) : Int) := by simp
    rw [Int.one_mul, hp, wrap_nat hlt]; rfl
  rw [Int.one_mul] at this
  simp [execOp, ha.eval ho, ha.eval ho', eqGuard, binOp, shift_shl .i64 k 1 c h1.1 (show c ≤ (IntKind.i64.bits : Int) by show c ≤ 64; omega), this]
theorem powI_bd {c : Int} (h : c < 8) : 1 ≤ powI c ∧ powI c ≤ 128 := by
  unfold powI
  have h1 : 2 ^ c.toNat ≤ 2 ^ 7 := Nat.pow_le_pow_right (by omega) (by omega)
  have h2 : 1 ≤ 2 ^ c.toNat := Nat.one_le_two_pow
  omega

/-! ### Walks that hold no block, beside calls that turn what they will -/
def Cx.on (X : Cx) (w : World) : Cx := { X with w0 := w, S := [] }
variable {c : Code} {e : Exit} {ops : Array Oper} {rest : List Oper}
def loopSQ {σ : Type} (X : Cx) (Ls : σ → List (Nat × Value)) (G : σ → World → Prop) (μ : σ → Nat) (s : σ) (Q : Qt) : Qt :=
  Exit.then (fun a w => ∃ s', (Env X.N X.ds a (Ls s') ∧ G s' w) ∧ μ s' < μ s) Q
theorem wc_loopS {σ : Type} (Ls : σ → List (Nat × Value)) (G : σ → World → Prop) (μ : σ → Nat) (s0 : σ)
    (hs : Sub L (Ls s0)) (hg : ∀ w, Mem X.w0 X.S H w → G s0 w)
    (round : ∀ s w1, G s w1 → WC (X.on w1) c (loopSQ X Ls G μ s Q) (Ls s) []) : WC X (.loop c) Q L H := by
  intro a w ha hm
  intro b k cs hro hb hr
  have key : ∀ j s a w, μ s = j → Env X.N X.ds a (Ls s) → G s w →
      ∃ e a' w', Q e a' w' ∧ ArrivesIn (Machine.fenced X.P (FW X.ro)) X.P (lone (b.atR a (.code c :: .inLoop c :: k)) cs w) b k cs e a' w' := by
    intro j
    induction j using Nat.strongRecOn with
    | _ j ih =>
      intro s a w hn hE hG
      obtain ⟨e, a₁, w₁, hq, harr⟩ := round s w hG a w hE (Mem.refl w) b (.inLoop c :: k) cs hro hb hr
      cases e with
      | normal =>
        obtain ⟨s', ⟨hE', hG'⟩, hlt⟩ := hq
        obtain ⟨e₂, a₂, w₂, hq₂, harr₂⟩ := ih (μ s') (hn ▸ hlt) s' a₁ w₁ rfl hE' hG'
        exact ⟨e₂, a₂, w₂, hq₂, .of_steps (StepsIn.trans harr (.one (fenced_calm hb hr rfl) stepR_inLoop)) harr₂⟩
      | exit id => exact ⟨_, a₁, w₁, hq, .pass (x := .inLoop c) rfl (fun _ _ => .inl (by simp)) harr⟩
      | goto l => exact ⟨_, a₁, w₁, hq, .pass (x := .inLoop c) rfl (fun _ _ => .inl (by simp)) harr⟩
      | ret => exact ⟨_, a₁, w₁, hq, .pass (x := .inLoop c) rfl (fun _ _ => .inl (by simp)) harr⟩
      | panic ch => exact ⟨_, a₁, w₁, hq, .pass (x := .inLoop c) rfl (fun _ _ => .inl (by simp)) harr⟩
      | outgrown => exact ⟨_, a₁, w₁, hq, .pass (x := .inLoop c) rfl (fun _ _ => .inl (by simp)) harr⟩
  obtain ⟨e, a', w', hq, harr⟩ := key _ s0 a w rfl (ha.sub hs) (hg w hm)
  exact ⟨e, a', w', hq, .of_steps (.one (fenced_calm hb hr rfl) stepR_loop) harr⟩
theorem pe_againS {Y : Cx} {σ : Type} {Ls : σ → List (Nat × Value)} {G : σ → World → Prop} {μ : σ → Nat} {s : σ} (hN : Y.N = X.N) (hds : Y.ds = X.ds) (s' : σ)
    (hs : Sub L (Ls s')) (hg : ∀ w, Mem Y.w0 Y.S H w → G s' w) (hm : μ s' < μ s) : PE Y (loopSQ X Ls G μ s Q) .normal L H :=
  fun _ w ha hm' => ⟨s', ⟨by rw [hN, hds] at ha; exact ha.sub hs, hg w hm'⟩, hm⟩
theorem pe_loopS_ret {Y : Cx} {σ : Type} {Ls : σ → List (Nat × Value)} {G : σ → World → Prop} {μ : σ → Nat} {s : σ} (h : PE Y Q .ret L H) : PE Y (loopSQ X Ls G μ s Q) .ret L H := h
theorem pe_loopS_exit {Y : Cx} {σ : Type} {Ls : σ → List (Nat × Value)} {G : σ → World → Prop} {μ : σ → Nat} {s : σ} {id} (h : PE Y Q (.exit id) L H) : PE Y (loopSQ X Ls G μ s Q) (.exit id) L H := h
/-- a call of yield: the walk goes on from the world that it leaves -/
theorem wl_yield {d g ty pos after ts l o v} {R : Value → World → Prop} (hro : X.ro = none) (hg : ev L g = some (.func (.yield l) #[] #[])) (ho : ev L o = some v)
    (hc : ∀ w, Mem X.w0 X.S H w → YCl X.P l v w R) (hd : Nat.blt d X.N = true)
    (k : ∀ w' u, R u w' → WL (X.on w') ops Q rest ((d, u) :: L) []) :
    WL X ops Q (⟨some d, .call { callee := .value g, args := #[o], argTypes := ts }, ty, pos, after, none⟩ :: rest) L H := by
  intro a w ha hm
  unfold wpListIn
  have hw : Region.wanted ⟨some d, .call { callee := .value g, args := #[o], argTypes := ts }, ty, pos, after, none⟩ (yielded ops a.tmps) = true := rfl
  rw [if_pos hw]
  refine ⟨fun _ _ => trivial, ?_⟩
  rw [Oper.semAt_eq _ _ _ (calm_defer rfl)]
  obtain ⟨r, t, hl, hp, hround⟩ := hc w hm
  have hy := run_yield (P := X.P) (w := w) (args := #[v]) hl (by simp [hp])
  have hr : (execOp a.eval ⟨some d, .call { callee := .value g, args := #[o], argTypes := ts }, ty, pos, after, none⟩).run X.P w = .ok (.round l r.fn (r.tmps.setIfInBounds t v) r.assign r.body) w := by
    rw [hp] at hy
    simp [execOp, resolve, ha.eval hg, Deferred.ofValue, invoke, ha.eval ho, hy]
  rw [hr, Oper.uponIn_round, hro]
  refine ⟨by simp [FW], ?_⟩
  refine RoundIn.mono hround ?_
  rintro e w' ⟨u, rfl, hR⟩
  have := k w' u hR _ w' (ha.put u (nblt hd)) (Mem.refl w')
  rw [show (X.on w').ro = none from hro] at this
  exact this

/-! ### Slices that stay -/
theorem Mem.ext {w0 w w' : World} {S : List Nat} (m : Mem w0 S H w) (u : Upd [] w w') : Mem w0 S H w' := by
  have := Mem.step (H1 := []) (S' := []) (Hn := []) (by simpa using m) u (by simp) (by simp) (by simp) (by simp)
  simpa using this
theorem SlB.upd {w w' : World} {S T : List Nat} {A vs} (h : SlB w T A vs) (u : Upd S w w') (hS : ∀ r ∈ S, r ∈ T) : SlB w' T A vs := by
  rcases h with ⟨h, rfl | hT⟩
  · exact ⟨Sl.nil _ _, .inl rfl⟩
  · exact ⟨h.updS u fun b off e hb => hT b off e (hS b hb), .inr hT⟩
theorem SlB.widen {w0 w : World} {S T B : List Nat} {A vs} (h : SlB w0 T A vs) (u : Upd S w0 w) (hS : ∀ r ∈ S, r ∈ T) (hB : ∀ r ∈ B, r ∈ T ∨ w0.heap.size ≤ r) : SlB w (T ++ B) A vs := by
  have h2 := h.upd u hS
  by_cases hv : vs = []
  · exact ⟨h2.1, .inl hv⟩
  · refine ⟨h2.1, .inr fun b off e hb => ?_⟩
    have hT := h.2.resolve_left hv b off e
    rcases List.mem_append.1 hb with hb | hb
    · exact hT hb
    · rcases hB b hb with hb | hb
      · exact hT hb
      · have := h.1.size hv e; omega
theorem SlB.less {w : World} {T T' : List Nat} {A vs} (h : SlB w T A vs) (hT : ∀ r ∈ T', r ∈ T) : SlB w T' A vs := ⟨h.1, h.2.imp id fun f b off e hb => f b off e (hT b hb)⟩
theorem own_slB {w2 w' : World} {H1 : List Hp} {A n cap T sz xs} {T2 : List Nat} (m : Mem w2 (blks H1) H w') (p : Pick H (.own A n cap T sz xs) H') (hsub : ∀ r ∈ blks H1, r ∈ blks H') (hT : ∀ t ∈ T2, t < w2.heap.size) : SlB w' T2 A xs := by
  have m' := m.perm p.perm
  refine ⟨own_sl (m.get p), .inr fun b off e hb => ?_⟩
  have hbk : (Hp.own A n cap T sz xs).blk = some b := by rw [Hp.blk, e]; rfl
  rcases m'.fresh _ (List.mem_cons_self ..) b hbk with h | h
  · obtain ⟨k, hk, e'⟩ := List.mem_filterMap.1 (hsub b h)
    exact (List.pairwise_cons.1 m'.sep).1 k hk b hbk e'
  · have := hT b hb; omega
theorem Mem.blks_lt {w0 w : World} {S : List Nat} (m : Mem w0 S H w) : ∀ r ∈ blks H, r < w.heap.size := fun r hr => by
  obtain ⟨h, hh, e⟩ := List.mem_filterMap.1 hr
  exact m.lt hh e
theorem Mem.blks_new {w0 w : World} {S : List Nat} (m : Mem w0 S H w) : ∀ r ∈ blks H, r ∈ S ∨ w0.heap.size ≤ r := fun r hr => by
  obtain ⟨h, hh, e⟩ := List.mem_filterMap.1 hr
  exact m.fresh h hh r e
theorem RowB.upd {w w' : World} {S T : List Nat} {r U cs} (h : RowB w T r U cs) (u : Upd S w w') (hS : ∀ r ∈ S, r ∈ T) : RowB w' T r U cs := ⟨h.1.upd u fun hr => h.2 (hS _ hr), h.2⟩
theorem RowB.widen {w0 w : World} {S T B : List Nat} {r U cs} (h : RowB w0 T r U cs) (u : Upd S w0 w) (hS : ∀ r ∈ S, r ∈ T) (hB : ∀ r ∈ B, r ∈ T ∨ w0.heap.size ≤ r) : RowB w (T ++ B) r U cs := by
  refine ⟨(h.upd u hS).1, fun hr => ?_⟩
  have hlt := (Array.getElem?_eq_some_iff.1 h.1).1
  rcases List.mem_append.1 hr with hr | hr
  · exact h.2 hr
  · rcases hB r hr with hb | hb
    · exact h.2 hb
    · omega
theorem RowB.less {w : World} {T T' : List Nat} {r U cs} (h : RowB w T r U cs) (hT : ∀ r ∈ T', r ∈ T) : RowB w T' r U cs := ⟨h.1, fun hr => h.2 (hT _ hr)⟩
end Go.Proofs.Yteglbaidaekccaa
