/- What lies beside the blocks that turn. Conditions: each law's own hypotheses. -/
import Derived.Test.YteglbaidaekccaaE7
namespace Go.Proofs.Yteglbaidaekccaa
open Go Go.RowKit
variable {X : Cx} {Q : Qt} {L L' : List (Nat × Value)} {H H' H'' K : List Hp} {c x y : Code} {ops : Array Oper} {rest : List Oper} {w0 w w' : World} {S : List Nat}

theorem Mem.out (m : Mem w0 S (K ++ H) w) {b : Nat} (hb : b < w0.heap.size) (hS : b ∉ S) : b ∉ blks K := by
  intro h
  obtain ⟨k, hk, e⟩ := List.mem_filterMap.1 h
  rcases m.fresh k (by simp [hk]) b e with h | h
  · exact hS h
  · omega
theorem Mem.outP (m : Mem w0 S (K ++ H) w) {h : Hp} (p : Pick H h H') {b : Nat} (e : h.blk = some b) : b ∉ blks K := by
  intro hb
  obtain ⟨k, hk, e'⟩ := List.mem_filterMap.1 hb
  exact (List.pairwise_append.1 m.sep).2.2 k hk h (p.perm.mem_iff.2 (by simp)) b e' e

def SlB (w : World) (S : List Nat) (A : Option Addr) (vs : List Value) : Prop := Sl w A vs ∧ (vs = [] ∨ ∀ b off, A = some ⟨b, off, none⟩ → b ∉ S)
def RowB (w : World) (S : List Nat) (r : Nat) (T : TypeId) (cs : List Value) : Prop := RowAt w r T cs ∧ r ∉ S

theorem sl_argB {A vs} (h : SlB X.w0 X.S A vs) : SlX X H A vs := by
  rcases h with ⟨h, rfl | hS⟩
  · exact fun _ _ => Sl.nil _ _
  · exact sl_argS h hS
theorem Sl.size {A vs b off} (h : Sl w A vs) (hv : vs ≠ []) (e : A = some ⟨b, off, none⟩) : b < w.heap.size := by
  rcases h with h | ⟨b', off', e', hb, _⟩
  · exact absurd h hv
  · rw [e] at e'; cases e'; exact hb
theorem SlB.atB {A vs} (h : SlB w0 S A vs) (m : Mem w0 S (K ++ H) w) : SlB w (blks K) A vs := by
  rcases h with ⟨h, rfl | hS⟩
  · exact ⟨Sl.nil _ _, .inl rfl⟩
  · refine ⟨h.updS m.upd hS, ?_⟩
    by_cases hv : vs = []
    · exact .inl hv
    · exact .inr fun b off e => m.out (h.size hv e) (hS b off e)
theorem sl_atB {A vs} (h : Sl w0 A vs) (m : Mem w0 [] (K ++ H) w) : SlB w (blks K) A vs := SlB.atB ⟨h, .inr fun _ _ _ => by simp⟩ m
theorem sl_ownB {A n cap T sz vs} (m : Mem w0 S (K ++ H) w) (p : Pick H (.own A n cap T sz vs) H') : SlB w (blks K) A vs := by
  have hh := m.holds _ (List.mem_append.2 (.inr (p.perm.mem_iff.2 (List.mem_cons_self ..))))
  exact ⟨own_sl hh, .inr fun b off e => m.outP p (by rw [Hp.blk, e]; rfl)⟩
theorem RowB.atB {r T cs} (h : RowB w0 S r T cs) (m : Mem w0 S (K ++ H) w) : RowB w (blks K) r T cs :=
  ⟨h.1.upd m.upd h.2, m.out (Array.getElem?_eq_some_iff.1 h.1).1 h.2⟩
theorem row_atB {r T cs} (h : RowAt w0 r T cs) (m : Mem w0 [] (K ++ H) w) : RowB w (blks K) r T cs := RowB.atB ⟨h, by simp⟩ m
theorem row_pickB {r T cs} (m : Mem w0 S (K ++ H) w) (p : Pick H (.row r T cs) H') : RowB w (blks K) r T cs :=
  ⟨m.holds _ (List.mem_append.2 (.inr (p.perm.mem_iff.2 (List.mem_cons_self ..)))), m.outP p rfl⟩
theorem RowB.row_at {r T cs} (h : RowB X.w0 X.S r T cs) (m : Mem X.w0 X.S H w) : RowAt w r T cs := h.1.upd m.upd h.2
theorem SlB.sl {A vs} (h : SlB w S A vs) : Sl w A vs := h.1

/-- fewer of the block's cells are the slice's -/
theorem Mem.shrink {A n cap T sz xs} (m : Mem w0 S H w) (p : Pick H (.own A n cap T sz xs) H') (n' : Nat) (hn : n' ≤ n) : Mem w0 S (.own A n' cap T sz (xs.take (n' * sz)) :: H') w := by
  have m' := m.perm p.perm
  refine ⟨m'.upd, ?_, ?_, ?_⟩
  · intro h hh
    rcases List.mem_cons.1 hh with rfl | hh
    · obtain ⟨h1, h2, h3, h4⟩ := m.get p
      have hle : n' * sz ≤ xs.length := by rw [h1]; exact Nat.mul_le_mul_right _ hn
      refine ⟨by rw [List.length_take]; omega, by omega, h3, ?_⟩
      rcases h4 with ⟨e1, e2, e3⟩ | ⟨r, e, rs, hr, hl⟩
      · exact .inl ⟨e1, by omega, e3⟩
      · refine .inr ⟨r, e, xs.drop (n' * sz) ++ rs, ?_, ?_⟩
        · rw [← List.append_assoc, List.take_append_drop]; exact hr
        · rw [← List.append_assoc, List.take_append_drop]; exact hl
    · exact m'.holds h (List.mem_cons_of_mem _ hh)
  · intro h hh r e
    rcases List.mem_cons.1 hh with rfl | hh
    · exact m'.fresh _ (List.mem_cons_self ..) r e
    · exact m'.fresh h (List.mem_cons_of_mem _ hh) r e
  · have := m'.sep
    rw [List.pairwise_cons] at this ⊢
    exact ⟨fun h hh r e => this.1 h hh r e, this.2⟩
theorem wl_shrink {A n cap T sz xs} (p : Pick H (.own A n cap T sz xs) H') (n' : Nat) (hn : n' ≤ n) {ys : List Value} (hy : xs.take (n' * sz) = ys) (h : WL X ops Q rest L (.own A n' cap T sz ys :: H')) : WL X ops Q rest L H := by
  subst hy; exact fun a w ha hm => h a w ha (hm.shrink p n' hn)
theorem wl_own {A n cap T sz xs} (p : Pick H (.own A n cap T sz xs) H') (k : n ≤ cap → cap ≤ maxLen → (∀ a, A = some a → a.spot = none) → WL X ops Q rest L H) : WL X ops Q rest L H := by
  intro a w ha hm
  obtain ⟨h1, h2, h3, h4⟩ := hm.get p
  refine k h2 h3 (fun b e => ?_) a w ha hm
  rcases h4 with ⟨e1, _, _⟩ | ⟨r, e1, _⟩
  · rw [e1] at e; cases e
  · rw [e1] at e; cases e; rfl
theorem take_snoc {α : Type} {enc : α → List Value} {sz : Nat} (hz : ∀ x, (enc x).length = sz) (p : List α) (c : α) : (encs enc (p ++ [c])).take (p.length * sz) = encs enc p := by
  rw [← encs_take hz]; simp
end Go.Proofs.Yteglbaidaekccaa
