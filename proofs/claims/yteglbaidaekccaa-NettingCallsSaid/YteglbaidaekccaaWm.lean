/- Walks. -/
import Derived.Test.YteglbaidaekccaaWl
set_option linter.unusedVariables false
set_option linter.unusedSimpArgs false
set_option maxRecDepth 10000
namespace Go.Proofs.Yteglbaidaekccaa
open Go Go.RowKit
theorem sl_none {w : World} {l : List Int} (h : Sl w none (encs encI l)) : l = [] := by
  rcases h with h | ⟨b, off, e, _⟩
  · cases l with
    | nil => rfl
    | cons x l => simp [encs, encI] at h
  · cases e
theorem ok_27 : callOK Try.prog 27 = true := by kernel_rfl
theorem ok_34 : callOK Try.prog 34 = true := by kernel_rfl

theorem c_Clone (Al : Option Addr) (cl : Nat) (l : List Int) (w : World) (hl : Sl w Al (encs encI l)) (hlen : l.length ≤ 1000) :
    Cl Try.prog 28 [.slice Al l.length cl] w (IsS l.length 3 1 (encs encI l) w) := by
  refine cl_of Try.func28 rfl Try.ntmps28 rfl (Mem.refl w) ?_
  refine wc_seq ?_
  refine wc_region ?_
  refine wl_ex (ex_assign rfl) rfl rfl ?_
  refine wl_nil ?_
  refine pe_seq ?_
  refine wc_seq ?_
  refine wc_seq ?_
  refine wc_region ?_
  refine wl_ex (ex_move rfl) rfl rfl ?_
  refine wl_ex (ex_eqlnilR Try.underlying41 rfl rfl) rfl rfl ?_
  refine wl_nil ?_
  refine pe_seq ?_
  refine wc_ite rfl (fun c4 => ?_) (fun c4 => ?_)
  · refine wc_seq ?_
    refine wc_region ?_
    refine wl_ex (ex_assign rfl) rfl rfl ?_
    refine wl_nil ?_
    refine pe_seq ?_
    refine wc_ret ?_
    refine pe_seq_ret ?_
    refine pe_nilOwn 3 1 ?_
    refine pe_ret1 rfl rfl rfl (fun w' hm => isS_mk hm (.head _ _) ?_ ?_)
    · rw [c4] at hl; rw [sl_none hl]; rfl
    · rw [c4] at hl; rw [sl_none hl]; rfl
  · refine wc_skip ?_
    refine pe_seq ?_
    refine wc_seq ?_
    refine wc_region ?_
    refine wl_buildSlice [] rfl rfl Try.underlying41 sz_3 ze_3 rfl (by simp [Value.cells]) (by omega) (by omega) rfl fun r1 => ?_
    rw [show List.flatMap (fun x => x.cells.toList) ([] : List Value) = encs encI [] from rfl]
    refine wl_ex (ex_move rfl) rfl rfl ?_
    refine wl_appendE encI_len encI_one rfl rfl Try.underlying41 sz_3 ze_3 rfl by_3 rfl (.head _ _) (sl_arg hl rfl) (by first | rfl | simp) (by first | rfl | simp) (by first | omega | (simp; omega)) (by first | omega | (simp; omega)) rfl fun A2 c3 => ?_
    refine wl_ex (ex_assign rfl) rfl rfl ?_
    refine wl_nil ?_
    refine pe_seq ?_
    refine wc_ret ?_
    refine pe_ret1 rfl rfl rfl (fun w' hm => isS_mk hm (.head _ _) ?_ ?_)
    · rfl
    · simp

theorem c_EqualI (Al : Option Addr) (cl : Nat) (l : List Int) (Am : Option Addr) (cm : Nat) (m : List Int) (w : World) (hl : Sl w Al (encs encI l)) (hm : Sl w Am (encs encI m)) (hlen : l.length ≤ 1000) :
    Cl Try.prog 34 [.slice Al l.length cl, .slice Am m.length cm] w (IsV (.bool (decide (l = m))) w) := by
  refine cl_of Try.func34 rfl Try.ntmps34 rfl (Mem.refl w) ?_
  refine wc_seq ?_
  refine wc_region ?_
  refine wl_ex (ex_assign rfl) rfl rfl ?_
  refine wl_nil ?_
  refine pe_seq ?_
  refine wc_seq ?_
  refine wc_seq ?_
  refine wc_region ?_
  refine wl_ex (ex_move rfl) rfl rfl ?_
  refine wl_ex (ex_len Try.underlying41 rfl) rfl rfl ?_
  refine wl_ex (ex_move rfl) rfl rfl ?_
  refine wl_ex (ex_len Try.underlying41 rfl) rfl rfl ?_
  refine wl_ex (ex_neq rfl rfl) rfl rfl ?_
  refine wl_nil ?_
  refine pe_seq ?_
  refine wc_ite rfl (fun c10 => ?_) (fun c10 => ?_)
  · refine wc_seq ?_
    refine wc_region ?_
    refine wl_ex (ex_assign rfl) rfl rfl ?_
    refine wl_nil ?_
    refine pe_seq ?_
    refine wc_ret ?_
    refine pe_seq_ret ?_
    refine pe_ret1 rfl rfl rfl (fun w' hm => ⟨?_, hm.ent (.nil _)⟩)
    refine congrArg Value.bool (Eq.symm (decide_eq_false ?_))
    intro e
    rw [e] at c10
    exact c10 rfl
  · refine wc_skip ?_
    refine pe_seq ?_
    refine wc_seq ?_
    refine wc_seq ?_
    refine wc_region ?_
    refine wl_ex (ex_move rfl) rfl rfl ?_
    refine wl_ex (ex_len Try.underlying41 rfl) rfl rfl ?_
    refine wl_ex (ex_move rfl) rfl rfl ?_
    refine wl_nil ?_
    refine pe_seq ?_
    refine wc_block ?_
    refine wc_loop (σ := Int) (fun s => [(13, .int .i64 s), (0, .slice Al l.length cl), (1, .slice Am m.length cm), (12, .int .i64 (l.length : Int))]) (fun s => []) (fun s => 0 ≤ s ∧ s ≤ (l.length : Int) ∧ l.take s.toNat = m.take s.toNat) (fun s => ((l.length : Int) - s).toNat) _ (Sub.cons rfl rfl (Sub.cons rfl rfl (Sub.cons rfl rfl (Sub.cons rfl rfl (Sub.nil _))))) (.nil _) (by simp) ?_
    rintro i hG
    show WC _ _ _ [(13, .int .i64 i), (0, .slice Al l.length cl), (1, .slice Am m.length cm), (12, .int .i64 (l.length : Int))] []
    replace hG : 0 ≤ i ∧ i ≤ (l.length : Int) ∧ l.take i.toNat = m.take i.toNat := hG
    obtain ⟨h1, h2, h3⟩ := hG
    have hlm : l.length = m.length := by omega
    refine wc_seq ?_
    refine wc_region ?_
    refine wl_ex (ex_lss rfl rfl) rfl rfl ?_
    refine wl_nil ?_
    refine pe_seq ?_
    refine wc_seq ?_
    refine wc_ite rfl (fun c14 => ?_) (fun c14 => ?_)
    · refine wc_skip ?_
      refine pe_seq ?_
      refine wc_seq ?_
      refine wc_block ?_
      refine wc_seq ?_
      refine wc_region ?_
      refine wl_ex (ex_move rfl) rfl rfl ?_
      refine wl_ex (ex_assign rfl) rfl rfl ?_
      refine wl_nil ?_
      refine pe_seq ?_
      refine wc_seq ?_
      refine wc_draw [] [(0, true), (1, true), (2, true), (3, true), (4, true), (5, true), (6, true), (7, true), (8, true)] mixed (by kernel_rfl) (.nil _) ?_
      refine cn_ex rfl (ex_move rfl) rfl rfl ?_
      refine cn_ex rfl (ex_move rfl) rfl rfl ?_
      refine cn_ex rfl (ex_indexAddr rfl rfl Try.underlying41 sz_3 (sl_arg hl rfl) (by omega) (by omega) (enc_pos encI_len (by omega))) rfl rfl ?_
      obtain ⟨d_l_i, hd_l_i⟩ := get_if l i
      refine cn_ex rfl (ex_load rfl ag_3 (rd_int (sl_arg hl rfl) (hd_l_i (by omega) (by omega)))) rfl rfl ?_
      refine cn_ex rfl (ex_move rfl) rfl rfl ?_
      refine cn_ex rfl (ex_move rfl) rfl rfl ?_
      refine cn_ex rfl (ex_indexAddr rfl rfl Try.underlying41 sz_3 (sl_arg hm rfl) (by omega) (by omega) (enc_pos encI_len (by omega))) rfl rfl ?_
      obtain ⟨d_m_i, hd_m_i⟩ := get_if m i
      refine cn_ex rfl (ex_load rfl ag_3 (rd_int (sl_arg hm rfl) (hd_m_i (by omega) (by omega)))) rfl rfl ?_
      refine cn_ex rfl (ex_neq rfl rfl) rfl rfl ?_
      refine cn_nil ?_
      refine pe_seq ?_
      refine wc_ite rfl (fun c24 => ?_) (fun c24 => ?_)
      · refine wc_seq ?_
        refine wc_region ?_
        refine wl_ex (ex_assign rfl) rfl rfl ?_
        refine wl_nil ?_
        refine pe_seq ?_
        refine wc_ret ?_
        refine pe_block_ret _ ?_
        refine pe_seq_ret ?_
        refine pe_loop_ret ?_
        refine pe_block_ret _ ?_
        refine pe_seq_ret ?_
        refine pe_ret1 rfl rfl rfl (fun w' hm => ⟨?_, hm.ent (.nil _)⟩)
        refine congrArg Value.bool (Eq.symm (decide_eq_false ?_))
        intro e
        apply c24
        have e1 := hd_l_i (by omega) (by omega)
        have e2 := hd_m_i (by omega) (by omega)
        rw [e] at e1
        rw [e1] at e2
        exact Option.some.inj e2
      · refine wc_skip ?_
        refine pe_block _ ?_
        refine pe_seq ?_
        refine wc_region ?_
        refine wl_ex (ex_add rfl rfl (by omega) (by omega)) rfl rfl ?_
        refine wl_ex (ex_move rfl) rfl rfl ?_
        refine wl_nil ?_
        refine pe_again (i + 1) (Sub.cons rfl rfl (Sub.cons rfl rfl (Sub.cons rfl rfl (Sub.cons rfl rfl (Sub.nil _))))) (.nil _) ?_ ?_
        · show 0 ≤ (i + 1) ∧ (i + 1) ≤ (l.length : Int) ∧ l.take (i + 1).toNat = m.take (i + 1).toNat
          have hi : (i + 1).toNat = i.toNat + 1 := by omega
          refine ⟨by omega, by omega, ?_⟩
          rw [hi]
          exact take_eq_snoc (hd_l_i (by omega) (by omega)) (hd_m_i (by omega) (by omega)) h3 (Decidable.not_not.1 c24)
        · first | omega | (simp only []; omega)
    · refine wc_exit ?_
      refine pe_seq_exit ?_
      refine pe_loop_exit ?_
      refine pe_block_exit ?_
      refine pe_seq ?_
      refine wc_seq ?_
      refine wc_region ?_
      refine wl_ex (ex_assign rfl) rfl rfl ?_
      refine wl_nil ?_
      refine pe_seq ?_
      refine wc_ret ?_
      refine pe_ret1 rfl rfl rfl (fun w' hm => ⟨?_, hm.ent (.nil _)⟩)
      refine congrArg Value.bool (Eq.symm (decide_eq_true ?_))
      rwa [List.take_of_length_le (by omega), List.take_of_length_le (by omega)] at h3

theorem c_Check (Al : Option Addr) (cl : Nat) (l : List Int) (Ap : Option Addr) (cp : Nat) (p : List Debt) (w : World) (hl : Sl w Al (encs encI l)) (hp : Sl w Ap (encs encD p)) (hlen : l.length ≤ 1000) (hlen2 : p.length ≤ 1000) :
    Cl Try.prog 18 [.slice Al l.length cl, .slice Ap p.length cp] w (IsV (.bool (decide (CheckP l p))) w) := by
  refine cl_of Try.func18 rfl Try.ntmps18 rfl (Mem.refl w) ?_
  refine wc_seq ?_
  refine wc_region ?_
  refine wl_ex (ex_assign rfl) rfl rfl ?_
  refine wl_nil ?_
  refine pe_seq ?_
  refine wc_seq ?_
  refine wc_region ?_
  refine wl_ex (ex_move rfl) rfl rfl ?_
  refine wl_callV [.tmp 5] rfl ok_27 rfl (fun w hm => c_isGood Al cl l w (((sl_arg hl rfl)).at hm)  (by first | omega | assumption)) rfl ?_
  refine wl_ex (ex_move rfl) rfl rfl ?_
  by_cases g1 : goodI l
  · refine wl_pass rfl rfl rfl (decide_eq_true g1) ?_
    refine wl_ex (ex_move rfl) rfl rfl ?_
    refine wl_pass rfl rfl rfl (decide_eq_true g1) ?_
    refine wl_callV [.tmp 8, .const (.int .i64 1000000000000)] rfl ok_33 rfl (fun w hm => c_areDebts Ap cp p 1000000000000 w (((sl_arg hp rfl)).at hm)  (by first | omega | assumption)) rfl ?_
    refine wl_ex (ex_pickt rfl (decide_eq_true g1) rfl) rfl rfl ?_
    refine wl_ex (ex_move rfl) rfl rfl ?_
    by_cases g2 : DebtsOK 1000000000000 p
    · refine wl_pass rfl rfl rfl (decide_eq_true g2) ?_
      refine wl_ex (ex_move rfl) rfl rfl ?_
      refine wl_pass rfl rfl rfl (decide_eq_true g2) ?_
      refine wl_callS [.tmp 12] rfl ok_23 rfl (fun w hm => c_balancesN Ap cp p w (((sl_arg hp rfl)).at hm)  (by first | assumption | exact debts_mono (a := 1000000000) (by decide) (by assumption))) rfl fun A3 c4 => ?_
      refine wl_pass rfl rfl rfl (decide_eq_true g2) ?_
      refine wl_ex (ex_move rfl) rfl rfl ?_
      refine wl_pass rfl rfl rfl (decide_eq_true g2) ?_
      refine wl_callV [.tmp 13, .tmp 14] rfl ok_34 rfl (fun w hm => c_EqualI A3 c4 (balI p) Al cl l w (((sl_own (.head _ _))).at hm) (((sl_arg hl rfl)).at hm)  (by first | omega | assumption | (rw [balI_length]; omega) | (simp; omega))) rfl ?_
      refine wl_ex (ex_pickt rfl (decide_eq_true g2) rfl) rfl rfl ?_
      refine wl_ex (ex_assign rfl) rfl rfl ?_
      refine wl_nil ?_
      refine pe_seq ?_
      refine wc_ret ?_
      refine pe_ret1 rfl rfl rfl (fun w' hm => ⟨?_, hm.ent (.nil _)⟩)
      first | (simp [CheckP, *]; done) | (exact congrArg Value.bool (by grind [CheckP, goodI]))
    · refine wl_skip rfl rfl rfl (fun h => g2 (of_decide_eq_true (Value.bool.inj h))) rfl rfl ?_
      refine wl_skip rfl rfl rfl (fun h => g2 (of_decide_eq_true (Value.bool.inj h))) rfl rfl ?_
      refine wl_skip rfl rfl rfl (fun h => g2 (of_decide_eq_true (Value.bool.inj h))) rfl rfl ?_
      refine wl_skip rfl rfl rfl (fun h => g2 (of_decide_eq_true (Value.bool.inj h))) rfl rfl ?_
      refine wl_ex (ex_pickf rfl (decide_eq_false g2) rfl) rfl rfl ?_
      refine wl_ex (ex_assign rfl) rfl rfl ?_
      refine wl_nil ?_
      refine pe_seq ?_
      refine wc_ret ?_
      refine pe_ret1 rfl rfl rfl (fun w' hm => ⟨?_, hm.ent (.nil _)⟩)
      first | (simp [CheckP, *]; done) | (exact congrArg Value.bool (by grind [CheckP, goodI]))
  · refine wl_skip rfl rfl rfl (fun h => g1 (of_decide_eq_true (Value.bool.inj h))) rfl rfl ?_
    refine wl_skip rfl rfl rfl (fun h => g1 (of_decide_eq_true (Value.bool.inj h))) rfl rfl ?_
    refine wl_ex (ex_pickf rfl (decide_eq_false g1) rfl) rfl rfl ?_
    refine wl_ex (ex_move rfl) rfl rfl ?_
    refine wl_skip rfl rfl rfl (by simp) rfl rfl ?_
    refine wl_skip rfl rfl rfl (by simp) rfl rfl ?_
    refine wl_skip rfl rfl rfl (by simp) rfl rfl ?_
    refine wl_skip rfl rfl rfl (by simp) rfl rfl ?_
    refine wl_ex (ex_pickf rfl rfl rfl) rfl rfl ?_
    refine wl_ex (ex_assign rfl) rfl rfl ?_
    refine wl_nil ?_
    refine pe_seq ?_
    refine wc_ret ?_
    refine pe_ret1 rfl rfl rfl (fun w' hm => ⟨?_, hm.ent (.nil _)⟩)
    first | (simp [CheckP, *]; done) | (exact congrArg Value.bool (by grind [CheckP, goodI]))

theorem c_IndexFuncI (Al : Option Addr) (cl : Nat) (l : List Int) (f : FuncId) (caps : List Value) (p : Int → Prop) [DecidablePred p] (w : World) (hl : Sl w Al (encs encI l)) (hlen : l.length ≤ 1000) (hok : callOK Try.prog f = true) (hf : ∀ (d : Int) (w' : World), Upd [] w w' → Cl Try.prog f ([.int .i64 d] ++ caps) w' (IsV (.bool (decide (p d))) w')) :
    Cl Try.prog 30 [.slice Al l.length cl, .func (.func f) [].toArray caps.toArray] w (IsV (.int .i64 (idxI p l)) w) := by
  refine cl_of Try.func30 rfl Try.ntmps30 rfl (Mem.refl w) ?_
  refine wc_seq ?_
  refine wc_region ?_
  refine wl_ex (ex_assign rfl) rfl rfl ?_
  refine wl_nil ?_
  refine pe_seq ?_
  refine wc_seq ?_
  refine wc_seq ?_
  refine wc_region ?_
  refine wl_ex (ex_move rfl) rfl rfl ?_
  refine wl_ex (ex_len Try.underlying41 rfl) rfl rfl ?_
  refine wl_ex (ex_move rfl) rfl rfl ?_
  refine wl_nil ?_
  refine pe_seq ?_
  refine wc_block ?_
  refine wc_loop (σ := Int) (fun s => [(8, .int .i64 s), (0, .slice Al l.length cl), (1, .func (.func f) [].toArray caps.toArray), (7, .int .i64 (l.length : Int))]) (fun s => []) (fun s => 0 ≤ s ∧ s ≤ (l.length : Int) ∧ ∀ x ∈ l.take s.toNat, ¬ p x) (fun s => ((l.length : Int) - s).toNat) _ (Sub.cons rfl rfl (Sub.cons rfl rfl (Sub.cons rfl rfl (Sub.cons rfl rfl (Sub.nil _))))) (.nil _) (by simp) ?_
  rintro i hG
  show WC _ _ _ [(8, .int .i64 i), (0, .slice Al l.length cl), (1, .func (.func f) [].toArray caps.toArray), (7, .int .i64 (l.length : Int))] []
  replace hG : 0 ≤ i ∧ i ≤ (l.length : Int) ∧ ∀ x ∈ l.take i.toNat, ¬ p x := hG
  obtain ⟨h1, h2, h3⟩ := hG
  refine wc_seq ?_
  refine wc_region ?_
  refine wl_ex (ex_lss rfl rfl) rfl rfl ?_
  refine wl_nil ?_
  refine pe_seq ?_
  refine wc_seq ?_
  refine wc_ite rfl (fun c9 => ?_) (fun c9 => ?_)
  · refine wc_skip ?_
    refine pe_seq ?_
    refine wc_seq ?_
    refine wc_block ?_
    refine wc_seq ?_
    refine wc_region ?_
    refine wl_ex (ex_move rfl) rfl rfl ?_
    refine wl_ex (ex_assign rfl) rfl rfl ?_
    refine wl_nil ?_
    refine pe_seq ?_
    refine wc_seq ?_
    refine wc_region ?_
    refine wl_ex (ex_move rfl) rfl rfl ?_
    refine wl_ex (ex_move rfl) rfl rfl ?_
    refine wl_ex (ex_move rfl) rfl rfl ?_
    refine wl_ex (ex_indexAddr rfl rfl Try.underlying41 sz_3 (sl_arg hl rfl) (by omega) (by omega) (enc_pos encI_len (by omega))) rfl rfl ?_
    obtain ⟨d_l_i, hd_l_i⟩ := get_if l i
    refine wl_ex (ex_load rfl ag_3 (rd_int (sl_arg hl rfl) (hd_l_i (by omega) (by omega)))) rfl rfl ?_
    refine wl_callcV [.tmp 15] rfl rfl hok rfl (fun w' hm => hf d_l_i w' hm.upd) rfl ?_
    refine wl_nil ?_
    refine pe_seq ?_
    refine wc_ite rfl (fun c16 => ?_) (fun c16 => ?_)
    · refine wc_seq ?_
      refine wc_region ?_
      refine wl_ex (ex_move rfl) rfl rfl ?_
      refine wl_ex (ex_assign rfl) rfl rfl ?_
      refine wl_nil ?_
      refine pe_seq ?_
      refine wc_ret ?_
      refine pe_block_ret _ ?_
      refine pe_seq_ret ?_
      refine pe_loop_ret ?_
      refine pe_block_ret _ ?_
      refine pe_seq_ret ?_
      refine pe_ret1 rfl rfl rfl (fun w' hm => ⟨?_, hm.ent (.nil _)⟩)
      have := idxI_found (hd_l_i (by omega) (by omega)) h3 c16
      exact congrArg (Value.int .i64) (by rw [this]; omega)
    · refine wc_skip ?_
      refine pe_block _ ?_
      refine pe_seq ?_
      refine wc_region ?_
      refine wl_ex (ex_add rfl rfl (by omega) (by omega)) rfl rfl ?_
      refine wl_ex (ex_move rfl) rfl rfl ?_
      refine wl_nil ?_
      refine pe_again (i + 1) (Sub.cons rfl rfl (Sub.cons rfl rfl (Sub.cons rfl rfl (Sub.cons rfl rfl (Sub.nil _))))) (.nil _) ?_ ?_
      · show 0 ≤ (i + 1) ∧ (i + 1) ≤ (l.length : Int) ∧ ∀ x ∈ l.take (i + 1).toNat, ¬ p x
        have hi : (i + 1).toNat = i.toNat + 1 := by omega
        refine ⟨by omega, by omega, ?_⟩
        rw [hi]
        exact all_take (hd_l_i (by omega) (by omega)) h3 c16
      · first | omega | (simp only []; omega)
  · refine wc_exit ?_
    refine pe_seq_exit ?_
    refine pe_loop_exit ?_
    refine pe_block_exit ?_
    refine pe_seq ?_
    refine wc_seq ?_
    refine wc_region ?_
    refine wl_ex (ex_assign rfl) rfl rfl ?_
    refine wl_nil ?_
    refine pe_seq ?_
    refine wc_ret ?_
    refine pe_ret1 rfl rfl rfl (fun w' hm => ⟨?_, hm.ent (.nil _)⟩)
    rw [List.take_of_length_le (by omega)] at h3
    exact congrArg (Value.int .i64) (idxI_none h3).symm

end Go.Proofs.Yteglbaidaekccaa
