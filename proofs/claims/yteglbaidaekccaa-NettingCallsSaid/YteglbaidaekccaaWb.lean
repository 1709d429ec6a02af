/- Walks. -/
import Derived.Test.YteglbaidaekccaaWa
set_option linter.unusedVariables false
set_option linter.unusedSimpArgs false
set_option maxRecDepth 10000
namespace Go.Proofs.Yteglbaidaekccaa
open Go Go.RowKit
theorem eq_of_get {α : Type} {l m : List α} (h : l.length = m.length) (he : ∀ k x y, k < l.length → l[k]? = some x → m[k]? = some y → x = y) : l = m := by
  apply List.ext_getElem? 
  intro k
  by_cases hk : k < l.length
  · have h1 : l[k]? = some l[k] := by simp [hk]
    have hk2 : k < m.length := by omega
    have h2 : m[k]? = some m[k] := by simp [hk2]
    rw [h1, h2, he k _ _ hk h1 h2]
  · rw [List.getElem?_eq_none (by omega), List.getElem?_eq_none (by omega)]
theorem take_eq_snoc {α : Type} {l m : List α} {k : Nat} {x y : α} (h1 : l[k]? = some x) (h2 : m[k]? = some y) (h : l.take k = m.take k) (e : x = y) : l.take (k + 1) = m.take (k + 1) := by
  rw [List.take_add_one, List.take_add_one, h, h1, h2, e]
theorem ag_3 : isAggT Try.prog 3 = some false := by kernel_rfl
theorem ag_39 : isAggT Try.prog 39 = some true := by kernel_rfl
theorem eqok_39 : eqOK Try.prog 39 3 = true := by kernel_rfl
theorem sz_3 : szT Try.prog 3 = some 1 := by kernel_rfl
theorem sz_39 : szT Try.prog 39 = some 3 := by kernel_rfl
theorem ok_42 : callOK Try.prog 42 = true := by kernel_rfl

theorem c_Ints (Al : Option Addr) (cl : Nat) (l : List Int) (Am : Option Addr) (cm : Nat) (m : List Int) (w : World) (hl : Sl w Al (encs encI l)) (hm : Sl w Am (encs encI m)) (hlen : l.length ≤ 1000) :
    Cl Try.prog 12 [.slice Al l.length cl, .slice Am m.length cm] w (IsV (.bool (decide (l = m))) w) := by
  refine cl_of Try.func12 rfl Try.ntmps12 rfl (Mem.refl w) ?_
  refine wc_seq ?_
  refine wc_region ?_
  refine wl_ex (ex_assign rfl) rfl rfl ?_
  refine wl_nil ?_
  refine pe_seq ?_
  refine wc_seq ?_
  refine wc_seq ?_
  refine wc_region ?_
  refine wl_ex (ex_move rfl) rfl rfl ?_
  refine wl_ex (ex_len Try.underlying41 rfl) rfl rfl ?_
  refine wl_ex (ex_move rfl) rfl rfl ?_
  refine wl_ex (ex_len Try.underlying41 rfl) rfl rfl ?_
  refine wl_ex (ex_neq rfl rfl) rfl rfl ?_
  refine wl_nil ?_
  refine pe_seq ?_
  refine wc_ite rfl (fun c10 => ?_) (fun c10 => ?_)
  · refine wc_seq ?_
    refine wc_region ?_
    refine wl_ex (ex_assign rfl) rfl rfl ?_
    refine wl_nil ?_
    refine pe_seq ?_
    refine wc_ret ?_
    refine pe_seq_ret ?_
    refine pe_ret1 rfl rfl rfl (fun w' hm => ⟨?_, hm.ent (.nil _)⟩)
    refine congrArg Value.bool (Eq.symm (decide_eq_false ?_))
    intro e
    rw [e] at c10
    exact c10 rfl
  · refine wc_skip ?_
    refine pe_seq ?_
    refine wc_seq ?_
    refine wc_seq ?_
    refine wc_region ?_
    refine wl_ex (ex_assign rfl) rfl rfl ?_
    refine wl_nil ?_
    refine pe_seq ?_
    refine wc_block ?_
    refine wc_loop (σ := Int) (fun s => [(5, .int .i64 s), (0, .slice Al l.length cl), (1, .slice Am m.length cm)]) (fun s => []) (fun s => 0 ≤ s ∧ s ≤ (l.length : Int) ∧ l.take s.toNat = m.take s.toNat) (fun s => ((l.length : Int) - s).toNat) _ (Sub.cons rfl rfl (Sub.cons rfl rfl (Sub.cons rfl rfl (Sub.nil _)))) (.nil _) (by simp) ?_
    rintro i hG
    show WC _ _ _ [(5, .int .i64 i), (0, .slice Al l.length cl), (1, .slice Am m.length cm)] []
    replace hG : 0 ≤ i ∧ i ≤ (l.length : Int) ∧ l.take i.toNat = m.take i.toNat := hG
    obtain ⟨h1, h2, h3⟩ := hG
    have hlm : l.length = m.length := by omega
    refine wc_seq ?_
    refine wc_seq ?_
    refine wc_region ?_
    refine wl_ex (ex_move rfl) rfl rfl ?_
    refine wl_ex (ex_move rfl) rfl rfl ?_
    refine wl_ex (ex_len Try.underlying41 rfl) rfl rfl ?_
    refine wl_ex (ex_lss rfl rfl) rfl rfl ?_
    refine wl_nil ?_
    refine pe_seq ?_
    refine wc_ite rfl (fun c14 => ?_) (fun c14 => ?_)
    · refine wc_skip ?_
      refine pe_seq ?_
      refine wc_seq ?_
      refine wc_block ?_
      refine wc_seq ?_
      refine wc_draw [] [(0, true), (1, true), (2, true), (3, true), (4, true), (5, true), (6, true), (7, true), (8, true)] mixed (by kernel_rfl) (.nil _) ?_
      refine cn_ex rfl (ex_move rfl) rfl rfl ?_
      refine cn_ex rfl (ex_move rfl) rfl rfl ?_
      refine cn_ex rfl (ex_indexAddr rfl rfl Try.underlying41 sz_3 (sl_arg hl rfl) (by omega) (by omega) (enc_pos encI_len (by omega))) rfl rfl ?_
      obtain ⟨d_l_i, hd_l_i⟩ := get_if l i
      refine cn_ex rfl (ex_load rfl ag_3 (rd_int (sl_arg hl rfl) (hd_l_i (by omega) (by omega)))) rfl rfl ?_
      refine cn_ex rfl (ex_move rfl) rfl rfl ?_
      refine cn_ex rfl (ex_move rfl) rfl rfl ?_
      refine cn_ex rfl (ex_indexAddr rfl rfl Try.underlying41 sz_3 (sl_arg hm rfl) (by omega) (by omega) (enc_pos encI_len (by omega))) rfl rfl ?_
      obtain ⟨d_m_i, hd_m_i⟩ := get_if m i
      refine cn_ex rfl (ex_load rfl ag_3 (rd_int (sl_arg hm rfl) (hd_m_i (by omega) (by omega)))) rfl rfl ?_
      refine cn_ex rfl (ex_neq rfl rfl) rfl rfl ?_
      refine cn_nil ?_
      refine pe_seq ?_
      refine wc_ite rfl (fun c25 => ?_) (fun c25 => ?_)
      · refine wc_seq ?_
        refine wc_region ?_
        refine wl_ex (ex_assign rfl) rfl rfl ?_
        refine wl_nil ?_
        refine pe_seq ?_
        refine wc_ret ?_
        refine pe_block_ret _ ?_
        refine pe_seq_ret ?_
        refine pe_loop_ret ?_
        refine pe_block_ret _ ?_
        refine pe_seq_ret ?_
        refine pe_ret1 rfl rfl rfl (fun w' hm => ⟨?_, hm.ent (.nil _)⟩)
        refine congrArg Value.bool (Eq.symm (decide_eq_false ?_))
        intro e
        apply c25
        have e1 := hd_l_i (by omega) (by omega)
        have e2 := hd_m_i (by omega) (by omega)
        rw [e] at e1
        rw [e1] at e2
        exact Option.some.inj e2
      · refine wc_skip ?_
        refine pe_block _ ?_
        refine pe_seq ?_
        refine wc_region ?_
        refine wl_ex (ex_move rfl) rfl rfl ?_
        refine wl_ex (ex_add rfl rfl (by omega) (by omega)) rfl rfl ?_
        refine wl_ex (ex_assign rfl) rfl rfl ?_
        refine wl_nil ?_
        refine pe_again (i + 1) (Sub.cons rfl rfl (Sub.cons rfl rfl (Sub.cons rfl rfl (Sub.nil _)))) (.nil _) ?_ ?_
        · show 0 ≤ (i + 1) ∧ (i + 1) ≤ (l.length : Int) ∧ l.take (i + 1).toNat = m.take (i + 1).toNat
          have hi : (i + 1).toNat = i.toNat + 1 := by omega
          refine ⟨by omega, by omega, ?_⟩
          rw [hi]
          exact take_eq_snoc (hd_l_i (by omega) (by omega)) (hd_m_i (by omega) (by omega)) h3 (Decidable.not_not.1 c25)
        · first | omega | (simp only []; omega)
    · refine wc_exit ?_
      refine pe_seq_exit ?_
      refine pe_loop_exit ?_
      refine pe_block_exit ?_
      refine pe_seq ?_
      refine wc_seq ?_
      refine wc_region ?_
      refine wl_ex (ex_assign rfl) rfl rfl ?_
      refine wl_nil ?_
      refine pe_seq ?_
      refine wc_ret ?_
      refine pe_ret1 rfl rfl rfl (fun w' hm => ⟨?_, hm.ent (.nil _)⟩)
      refine congrArg Value.bool (Eq.symm (decide_eq_true ?_))
      rwa [List.take_of_length_le (by omega), List.take_of_length_le (by omega)] at h3

theorem c_Same (Al : Option Addr) (cl : Nat) (l : List Debt) (Am : Option Addr) (cm : Nat) (m : List Debt) (w : World) (hl : Sl w Al (encs encD l)) (hm : Sl w Am (encs encD m)) (hlen : l.length ≤ 1000) :
    Cl Try.prog 13 [.slice Al l.length cl, .slice Am m.length cm] w (IsV (.bool (decide (l = m))) w) := by
  refine cl_of Try.func13 rfl Try.ntmps13 rfl (Mem.refl w) ?_
  refine wc_seq ?_
  refine wc_region ?_
  refine wl_ex (ex_assign rfl) rfl rfl ?_
  refine wl_nil ?_
  refine pe_seq ?_
  refine wc_seq ?_
  refine wc_seq ?_
  refine wc_region ?_
  refine wl_ex (ex_move rfl) rfl rfl ?_
  refine wl_ex (ex_len Try.underlying29 rfl) rfl rfl ?_
  refine wl_ex (ex_move rfl) rfl rfl ?_
  refine wl_ex (ex_len Try.underlying29 rfl) rfl rfl ?_
  refine wl_ex (ex_neq rfl rfl) rfl rfl ?_
  refine wl_nil ?_
  refine pe_seq ?_
  refine wc_ite rfl (fun c10 => ?_) (fun c10 => ?_)
  · refine wc_seq ?_
    refine wc_region ?_
    refine wl_ex (ex_assign rfl) rfl rfl ?_
    refine wl_nil ?_
    refine pe_seq ?_
    refine wc_ret ?_
    refine pe_seq_ret ?_
    refine pe_ret1 rfl rfl rfl (fun w' hm => ⟨?_, hm.ent (.nil _)⟩)
    refine congrArg Value.bool (Eq.symm (decide_eq_false ?_))
    intro e
    rw [e] at c10
    exact c10 rfl
  · refine wc_skip ?_
    refine pe_seq ?_
    refine wc_seq ?_
    refine wc_seq ?_
    refine wc_region ?_
    refine wl_ex (ex_assign rfl) rfl rfl ?_
    refine wl_nil ?_
    refine pe_seq ?_
    refine wc_block ?_
    refine wc_loop (σ := Int) (fun s => [(5, .int .i64 s), (0, .slice Al l.length cl), (1, .slice Am m.length cm)]) (fun s => []) (fun s => 0 ≤ s ∧ s ≤ (l.length : Int) ∧ l.take s.toNat = m.take s.toNat) (fun s => ((l.length : Int) - s).toNat) _ (Sub.cons rfl rfl (Sub.cons rfl rfl (Sub.cons rfl rfl (Sub.nil _)))) (.nil _) (by simp) ?_
    rintro i hG
    show WC _ _ _ [(5, .int .i64 i), (0, .slice Al l.length cl), (1, .slice Am m.length cm)] []
    replace hG : 0 ≤ i ∧ i ≤ (l.length : Int) ∧ l.take i.toNat = m.take i.toNat := hG
    obtain ⟨h1, h2, h3⟩ := hG
    have hlm : l.length = m.length := by omega
    refine wc_seq ?_
    refine wc_seq ?_
    refine wc_region ?_
    refine wl_ex (ex_move rfl) rfl rfl ?_
    refine wl_ex (ex_move rfl) rfl rfl ?_
    refine wl_ex (ex_len Try.underlying29 rfl) rfl rfl ?_
    refine wl_ex (ex_lss rfl rfl) rfl rfl ?_
    refine wl_nil ?_
    refine pe_seq ?_
    refine wc_ite rfl (fun c14 => ?_) (fun c14 => ?_)
    · refine wc_skip ?_
      refine pe_seq ?_
      refine wc_seq ?_
      refine wc_block ?_
      refine wc_seq ?_
      refine wc_draw [] [(0, true), (1, true), (2, true), (3, true), (4, true), (5, true), (6, true), (7, true), (8, true)] mixed (by kernel_rfl) (.nil _) ?_
      refine cn_ex rfl (ex_move rfl) rfl rfl ?_
      refine cn_ex rfl (ex_move rfl) rfl rfl ?_
      refine cn_ex rfl (ex_indexAddr rfl rfl Try.underlying29 sz_39 (sl_arg hl rfl) (by omega) (by omega) (enc_pos encD_len (by omega))) rfl rfl ?_
      obtain ⟨d_l_i, hd_l_i⟩ := get_if l i
      refine cn_ex rfl (ex_loadS rfl ag_39 sz_39 (encD_len _) (rd_encs encD_len (sl_arg hl rfl) (hd_l_i (by omega) (by omega)))) rfl rfl ?_
      refine cn_ex rfl (ex_move rfl) rfl rfl ?_
      refine cn_ex rfl (ex_move rfl) rfl rfl ?_
      refine cn_ex rfl (ex_indexAddr rfl rfl Try.underlying29 sz_39 (sl_arg hm rfl) (by omega) (by omega) (enc_pos encD_len (by omega))) rfl rfl ?_
      obtain ⟨d_m_i, hd_m_i⟩ := get_if m i
      refine cn_ex rfl (ex_loadS rfl ag_39 sz_39 (encD_len _) (rd_encs encD_len (sl_arg hm rfl) (hd_m_i (by omega) (by omega)))) rfl rfl ?_
      refine cn_ex rfl (ex_neqS (xs := toID d_l_i) (ys := toID d_m_i) eqok_39 rfl rfl rfl rfl (not_congr toID_inj)) rfl rfl ?_
      refine cn_nil ?_
      refine pe_seq ?_
      refine wc_ite rfl (fun c25 => ?_) (fun c25 => ?_)
      · refine wc_seq ?_
        refine wc_region ?_
        refine wl_ex (ex_assign rfl) rfl rfl ?_
        refine wl_nil ?_
        refine pe_seq ?_
        refine wc_ret ?_
        refine pe_block_ret _ ?_
        refine pe_seq_ret ?_
        refine pe_loop_ret ?_
        refine pe_block_ret _ ?_
        refine pe_seq_ret ?_
        refine pe_ret1 rfl rfl rfl (fun w' hm => ⟨?_, hm.ent (.nil _)⟩)
        refine congrArg Value.bool (Eq.symm (decide_eq_false ?_))
        intro e
        apply c25
        have e1 := hd_l_i (by omega) (by omega)
        have e2 := hd_m_i (by omega) (by omega)
        rw [e] at e1
        rw [e1] at e2
        exact Option.some.inj e2
      · refine wc_skip ?_
        refine pe_block _ ?_
        refine pe_seq ?_
        refine wc_region ?_
        refine wl_ex (ex_move rfl) rfl rfl ?_
        refine wl_ex (ex_add rfl rfl (by omega) (by omega)) rfl rfl ?_
        refine wl_ex (ex_assign rfl) rfl rfl ?_
        refine wl_nil ?_
        refine pe_again (i + 1) (Sub.cons rfl rfl (Sub.cons rfl rfl (Sub.cons rfl rfl (Sub.nil _)))) (.nil _) ?_ ?_
        · show 0 ≤ (i + 1) ∧ (i + 1) ≤ (l.length : Int) ∧ l.take (i + 1).toNat = m.take (i + 1).toNat
          have hi : (i + 1).toNat = i.toNat + 1 := by omega
          refine ⟨by omega, by omega, ?_⟩
          rw [hi]
          exact take_eq_snoc (hd_l_i (by omega) (by omega)) (hd_m_i (by omega) (by omega)) h3 (Decidable.not_not.1 c25)
        · first | omega | (simp only []; omega)
    · refine wc_exit ?_
      refine pe_seq_exit ?_
      refine pe_loop_exit ?_
      refine pe_block_exit ?_
      refine pe_seq ?_
      refine wc_seq ?_
      refine wc_region ?_
      refine wl_ex (ex_assign rfl) rfl rfl ?_
      refine wl_nil ?_
      refine pe_seq ?_
      refine wc_ret ?_
      refine pe_ret1 rfl rfl rfl (fun w' hm => ⟨?_, hm.ent (.nil _)⟩)
      refine congrArg Value.bool (Eq.symm (decide_eq_true ?_))
      rwa [List.take_of_length_le (by omega), List.take_of_length_le (by omega)] at h3

theorem c_isGood (Al : Option Addr) (cl : Nat) (l : List Int) (w : World) (hl : Sl w Al (encs encI l)) (hlen : l.length ≤ 1000) :
    Cl Try.prog 27 [.slice Al l.length cl] w (IsV (.bool (decide (goodI l))) w) := by
  refine cl_of Try.func27 rfl Try.ntmps27 rfl (Mem.refl w) ?_
  refine wc_seq ?_
  refine wc_region ?_
  refine wl_ex (ex_assign rfl) rfl rfl ?_
  refine wl_nil ?_
  refine pe_seq ?_
  refine wc_seq ?_
  refine wc_region ?_
  refine wl_ex (ex_assign rfl) rfl rfl ?_
  refine wl_nil ?_
  refine pe_seq ?_
  refine wc_seq ?_
  refine wc_seq ?_
  refine wc_region ?_
  refine wl_ex (ex_move rfl) rfl rfl ?_
  refine wl_ex (ex_len Try.underlying41 rfl) rfl rfl ?_
  refine wl_ex (ex_move rfl) rfl rfl ?_
  refine wl_nil ?_
  refine pe_seq ?_
  refine wc_block ?_
  refine wc_loop (σ := Int × Int) (fun s => [(3, .int .i64 s.2), (8, .int .i64 s.1), (0, .slice Al l.length cl), (6, .slice Al l.length cl), (7, .int .i64 (l.length : Int))]) (fun s => []) (fun s => 0 ≤ s.1 ∧ s.1 ≤ (l.length : Int) ∧ s.2 = (l.take s.1.toNat).sum ∧ ∀ x ∈ l.take s.1.toNat, -1000000000000 ≤ x ∧ x ≤ 1000000000000) (fun s => ((l.length : Int) - s.1).toNat) (_, _) (Sub.cons rfl rfl (Sub.cons rfl rfl (Sub.cons rfl rfl (Sub.cons rfl rfl (Sub.cons rfl rfl (Sub.nil _)))))) (.nil _) (by simp) ?_
  rintro ⟨i, n⟩ hG
  show WC _ _ _ [(3, .int .i64 n), (8, .int .i64 i), (0, .slice Al l.length cl), (6, .slice Al l.length cl), (7, .int .i64 (l.length : Int))] []
  replace hG : 0 ≤ i ∧ i ≤ (l.length : Int) ∧ n = (l.take i.toNat).sum ∧ ∀ x ∈ l.take i.toNat, -1000000000000 ≤ x ∧ x ≤ 1000000000000 := hG
  obtain ⟨h1, h2, h3, h4⟩ := hG
  have hs := sum_within (m := 1000000000000) (by omega) (l.take i.toNat) h4
  have hl1 : (l.take i.toNat).length ≤ 1000 := by simp; omega
  refine wc_seq ?_
  refine wc_region ?_
  refine wl_ex (ex_lss rfl rfl) rfl rfl ?_
  refine wl_nil ?_
  refine pe_seq ?_
  refine wc_seq ?_
  refine wc_ite rfl (fun c9 => ?_) (fun c9 => ?_)
  · refine wc_skip ?_
    refine pe_seq ?_
    refine wc_seq ?_
    refine wc_block ?_
    refine wc_seq ?_
    refine wc_region ?_
    refine wl_ex (ex_indexAddr rfl rfl Try.underlying41 sz_3 (sl_arg hl rfl) (by omega) (by omega) (enc_pos encI_len (by omega))) rfl rfl ?_
    obtain ⟨d_l_i, hd_l_i⟩ := get_if l i
    refine wl_ex (ex_load rfl ag_3 (rd_int (sl_arg hl rfl) (hd_l_i (by omega) (by omega)))) rfl rfl ?_
    refine wl_ex (ex_assign rfl) rfl rfl ?_
    refine wl_nil ?_
    refine pe_seq ?_
    refine wc_seq ?_
    refine wc_seq ?_
    refine wc_region ?_
    refine wl_ex (ex_move rfl) rfl rfl ?_
    refine wl_callV [.tmp 12, .const (.int .i64 (-1000000000000)), .const (.int .i64 1000000000000)] rfl ok_42 rfl (fun w hm => c_isIn d_l_i (-1000000000000) 1000000000000 w   ) rfl ?_
    refine wl_ex (ex_not rfl) rfl rfl ?_
    refine wl_nil ?_
    refine pe_seq ?_
    refine wc_ite rfl (fun c14 => ?_) (fun c14 => ?_)
    · refine wc_seq ?_
      refine wc_region ?_
      refine wl_ex (ex_assign rfl) rfl rfl ?_
      refine wl_nil ?_
      refine pe_seq ?_
      refine wc_ret ?_
      refine pe_seq_ret ?_
      refine pe_block_ret _ ?_
      refine pe_seq_ret ?_
      refine pe_loop_ret ?_
      refine pe_block_ret _ ?_
      refine pe_seq_ret ?_
      refine pe_ret1 rfl rfl rfl (fun w' hm => ⟨?_, hm.ent (.nil _)⟩)
      refine congrArg Value.bool (Eq.symm (decide_eq_false ?_))
      intro hh
      exact c14 (hh.1 _ (mem_at (hd_l_i (by omega) (by omega))))
    · have hgg := Decidable.not_not.1 c14
      refine wc_skip ?_
      refine pe_seq ?_
      refine wc_region ?_
      refine wl_ex (ex_move rfl) rfl rfl ?_
      refine wl_ex (ex_move rfl) rfl rfl ?_
      refine wl_ex (ex_add rfl rfl (by omega) (by omega)) rfl rfl ?_
      refine wl_ex (ex_assign rfl) rfl rfl ?_
      refine wl_nil ?_
      refine pe_block _ ?_
      refine pe_seq ?_
      refine wc_region ?_
      refine wl_ex (ex_add rfl rfl (by omega) (by omega)) rfl rfl ?_
      refine wl_ex (ex_move rfl) rfl rfl ?_
      refine wl_nil ?_
      refine pe_again ⟨i + 1, n + d_l_i⟩ (Sub.cons rfl rfl (Sub.cons rfl rfl (Sub.cons rfl rfl (Sub.cons rfl rfl (Sub.cons rfl rfl (Sub.nil _)))))) (.nil _) ?_ ?_
      · show 0 ≤ (i + 1) ∧ (i + 1) ≤ (l.length : Int) ∧ (n + d_l_i) = (l.take (i + 1).toNat).sum ∧ ∀ x ∈ l.take (i + 1).toNat, -1000000000000 ≤ x ∧ x ≤ 1000000000000
        have hi : (i + 1).toNat = i.toNat + 1 := by omega
        have hg := Decidable.not_not.1 c14
        refine ⟨by omega, by omega, ?_, ?_⟩
        · rw [hi, sum_take (hd_l_i (by omega) (by omega)), ← h3]
        · rw [hi]; exact all_take (hd_l_i (by omega) (by omega)) h4 hg
      · first | omega | (simp only []; omega)
  · refine wc_exit ?_
    refine pe_seq_exit ?_
    refine pe_loop_exit ?_
    refine pe_block_exit ?_
    refine pe_seq ?_
    refine wc_cut (σ := Unit) (fun _ => [(2, .bool (decide (((l.length : Int) = 8) ∧ (n = 0))))]) (fun _ => []) (fun _ => True) ?_ ?_
    · refine wc_region ?_
      refine wl_ex (ex_move rfl) rfl rfl ?_
      refine wl_ex (ex_len Try.underlying41 rfl) rfl rfl ?_
      refine wl_ex (ex_eql rfl rfl) rfl rfl ?_
      refine wl_ex (ex_move rfl) rfl rfl ?_
      by_cases g1 : (l.length : Int) = 8
      · refine wl_pass rfl rfl rfl (decide_eq_true g1) ?_
        refine wl_ex (ex_move rfl) rfl rfl ?_
        refine wl_pass rfl rfl rfl (decide_eq_true g1) ?_
        refine wl_ex (ex_eql rfl rfl) rfl rfl ?_
        refine wl_ex (ex_pickt rfl (decide_eq_true g1) rfl) rfl rfl ?_
        refine wl_ex (ex_assign rfl) rfl rfl ?_
        refine wl_nil ?_
        refine pe_cut () (Sub.cons rfl (congrArg Value.bool (by first | (simp [g1]; done) | grind)) (Sub.nil _)) (.nil _) trivial
      · refine wl_skip rfl rfl rfl (fun h => g1 (of_decide_eq_true (Value.bool.inj h))) rfl rfl ?_
        refine wl_skip rfl rfl rfl (fun h => g1 (of_decide_eq_true (Value.bool.inj h))) rfl rfl ?_
        refine wl_ex (ex_pickf rfl (decide_eq_false g1) rfl) rfl rfl ?_
        refine wl_ex (ex_assign rfl) rfl rfl ?_
        refine wl_nil ?_
        refine pe_cut () (Sub.cons rfl (congrArg Value.bool (by first | (simp [g1]; done) | grind)) (Sub.nil _)) (.nil _) trivial
    · rintro _ _
      show WC _ _ _ [(2, .bool (decide (((l.length : Int) = 8) ∧ (n = 0))))] []
      refine wc_ret ?_
      refine pe_ret1 rfl rfl rfl (fun w' hm => ⟨?_, hm.ent (.nil _)⟩)
      rw [List.take_of_length_le (by omega)] at h3 h4
      refine congrArg Value.bool (decide_eq_decide.2 ?_)
      unfold goodI
      exact ⟨fun h => ⟨h4, by omega⟩, fun h => by have := h.2; omega⟩

end Go.Proofs.Yteglbaidaekccaa
