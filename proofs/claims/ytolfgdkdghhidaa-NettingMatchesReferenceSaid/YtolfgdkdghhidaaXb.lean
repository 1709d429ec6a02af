/- Walks. -/
import Derived.Test.YtolfgdkdghhidaaXa
import Derived.Test.YtolfgdkdghhidaaWp
set_option linter.unusedVariables false
set_option linter.unusedSimpArgs false
namespace Go.Proofs.Ytolfgdkdghhidaa
open Go Go.RowKit
theorem rem_iff (s c : Nat) : shrI (s : Int) (c : Int) % 2 = 1 ↔ s.testBit c = true := by
  unfold shrI
  simp only [Int.toNat_natCast, Nat.testBit_eq_decide_div_mod_eq, decide_eq_true_eq]
  omega
theorem tabD_one (l : List Int) : List.replicate 256 (Value.int .i64 0) = tabL (tbD l 1) := by
  rw [tbD_one, ← tb_one l]; exact tab_zero l
theorem shr_nat (s c : Nat) : 0 ≤ shrI (s : Int) (c : Int) := Int.natCast_nonneg _


theorem c_FewestR (Al : Option Addr) (cl : Nat) (l : List Int) (w : World) (hl : Sl w Al (encs encI l)) (hlen : l.length ≤ 1000) :
    Cl Try.prog 29 [.slice Al l.length cl] w (IsV (.tuple #[.int .i64 ((stlR l).length : Int), .int .i64 (errI l)]) w) := by
  refine cl_of Try.func29 rfl Try.ntmps29 rfl (Mem.refl w) ?_
  refine wc_seq ?_
  refine wc_region ?_
  refine wl_ex (ex_assign rfl) rfl rfl ?_
  refine wl_ex (ex_assign rfl) rfl rfl ?_
  refine wl_nil ?_
  refine pe_seq ?_
  refine wc_seq ?_
  refine wc_cut (σ := Unit) (fun _ => [(0, .slice Al l.length cl), (21, .bool (decide (((l.length : Int) ≠ 8) ∨ (¬ (goodI l)))))]) (fun _ => []) (fun _ => True) ?_ ?_
  · refine wc_region ?_
    refine wl_ex (ex_move rfl) rfl rfl ?_
    refine wl_ex (ex_len Try.underlying25 rfl) rfl rfl ?_
    refine wl_ex (ex_neq rfl rfl) rfl rfl ?_
    refine wl_ex (ex_move rfl) rfl rfl ?_
    by_cases g1 : (l.length : Int) ≠ 8
    · refine wl_skip rfl rfl rfl (fun h => of_decide_eq_false (Value.bool.inj h) g1) rfl rfl ?_
      refine wl_skip rfl rfl rfl (fun h => of_decide_eq_false (Value.bool.inj h) g1) rfl rfl ?_
      refine wl_skip rfl rfl rfl (fun h => of_decide_eq_false (Value.bool.inj h) g1) rfl rfl ?_
      refine wl_ex (ex_pickt rfl (decide_eq_true g1) rfl) rfl rfl ?_
      refine wl_nil ?_
      refine pe_cut () (Sub.cons rfl rfl (Sub.cons rfl (congrArg Value.bool (by first | (simp [g1]; done) | grind)) (Sub.nil _))) (.nil _) trivial
    · refine wl_pass rfl rfl rfl (decide_eq_false g1) ?_
      refine wl_ex (ex_move rfl) rfl rfl ?_
      refine wl_pass rfl rfl rfl (decide_eq_false g1) ?_
      refine wl_callV [.tmp 18] rfl ok_47 rfl (fun w hm => c_Good Al cl l w (((sl_arg hl rfl)).at hm)  (by first | omega | assumption)) rfl ?_
      refine wl_pass rfl rfl rfl (decide_eq_false g1) ?_
      refine wl_ex (ex_not rfl) rfl rfl ?_
      refine wl_ex (ex_pickf rfl (decide_eq_false g1) rfl) rfl rfl ?_
      refine wl_nil ?_
      refine pe_cut () (Sub.cons rfl rfl (Sub.cons rfl (congrArg Value.bool (by first | (simp [g1]; done) | grind)) (Sub.nil _))) (.nil _) trivial
  · rintro _ _
    show WC _ _ _ [(0, .slice Al l.length cl), (21, .bool (decide (((l.length : Int) ≠ 8) ∨ (¬ (goodI l)))))] []
    refine wc_ite rfl (fun c21 => ?_) (fun c21 => ?_)
    · refine wc_seq ?_
      refine wc_region ?_
      refine wl_ex (ex_assign rfl) rfl rfl ?_
      refine wl_ex (ex_assign rfl) rfl rfl ?_
      refine wl_nil ?_
      refine pe_seq ?_
      refine wc_ret ?_
      refine pe_seq_ret ?_
      refine pe_ret2 rfl rfl rfl rfl (fun w' hm => ⟨?_, hm.ent (.nil _)⟩)
      have hng : ¬ goodI l := by
        rcases c21 with h | h
        · exact fun g => h (by rw [g.2.1]; rfl)
        · exact h
      rw [show stlR l = [] from if_neg hng, show errI l = 390 from if_neg hng]; rfl
    · have hgd : goodI l := by
        false_or_by_contra
        rename_i hn
        exact c21 (.inr hn)
      have hl8 := hgd.2.1
      refine wc_skip ?_
      refine pe_seq ?_
      refine wc_seq ?_
      refine wc_region ?_
      refine wl_alloc (cs := (List.replicate 256 (.int .i64 0))) ze_67 rfl rfl fun r2 => ?_
      refine wl_nil ?_
      refine pe_seq ?_
      refine wc_seq ?_
      refine wc_region ?_
      refine wl_ex (ex_assign rfl) rfl rfl ?_
      refine wl_nil ?_
      refine pe_seq ?_
      refine wc_seq ?_
      refine wc_seq ?_
      refine wc_region ?_
      refine wl_ex (ex_assign rfl) rfl rfl ?_
      refine wl_nil ?_
      refine pe_seq ?_
      refine wc_block ?_
      refine wc_loop (σ := Nat) (fun s => [(5, .int .i64 (usT l s)), (6, .int .i64 (s : Int)), (0, .slice Al l.length cl), (4, .pointer (some ⟨r2, 0, none⟩))]) (fun s => [.row r2 67 (tabL (tbD l s))]) (fun s => 1 ≤ s ∧ s ≤ 256) (fun s => 256 - s) 1 (Sub.cons rfl rfl (Sub.cons rfl rfl (Sub.cons rfl rfl (Sub.cons rfl rfl (Sub.nil _))))) (.cons (.head _ _) (congrArg (Hp.row _ 67) (tabD_one l)) (.nil _)) (by omega) ?_
      rintro sq hG
      show WC _ _ _ [(5, .int .i64 (usT l sq)), (6, .int .i64 (sq : Int)), (0, .slice Al l.length cl), (4, .pointer (some ⟨r2, 0, none⟩))] [.row r2 67 (tabL (tbD l sq))]
      replace hG : 1 ≤ sq ∧ sq ≤ 256 := hG
      obtain ⟨h1, h2⟩ := hG
      have hub := usT_bd l sq
      refine wc_seq ?_
      refine wc_seq ?_
      refine wc_region ?_
      refine wl_ex (ex_move rfl) rfl rfl ?_
      refine wl_ex (ex_lss rfl rfl) rfl rfl ?_
      refine wl_nil ?_
      refine pe_seq ?_
      refine wc_ite rfl (fun c23 => ?_) (fun c23 => ?_)
      · refine wc_skip ?_
        refine pe_seq ?_
        refine wc_seq ?_
        refine wc_block ?_
        refine wc_seq ?_
        refine wc_region ?_
        refine wl_ex (ex_assign rfl) rfl rfl ?_
        refine wl_nil ?_
        refine pe_seq ?_
        refine wc_seq ?_
        refine wc_region ?_
        refine wl_ex (ex_assign rfl) rfl rfl ?_
        refine wl_nil ?_
        refine pe_seq ?_
        refine wc_seq ?_
        refine wc_region ?_
        refine wl_ex (ex_assign rfl) rfl rfl ?_
        refine wl_nil ?_
        refine pe_seq ?_
        refine wc_seq ?_
        refine wc_seq ?_
        refine wc_region ?_
        refine wl_ex (ex_assign rfl) rfl rfl ?_
        refine wl_nil ?_
        refine pe_seq ?_
        refine wc_block ?_
        refine wc_loop (σ := Nat) (fun s => [(7, .int .i64 (sumTo l sq s)), (8, .int .i64 ((szS sq s : Nat) : Int)), (9, .bool (decide (zeroTo l sq s))), (10, .int .i64 (s : Int)), (0, .slice Al l.length cl), (4, .pointer (some ⟨r2, 0, none⟩)), (5, .int .i64 (usT l sq)), (6, .int .i64 (sq : Int))]) (fun s => [.row r2 67 (tabL (tbD l sq))]) (fun s => s ≤ 8) (fun s => 8 - s) 0 (Sub.cons rfl rfl (Sub.cons rfl rfl (Sub.cons rfl (congrArg Value.bool (Eq.symm (decide_eq_false (zeroTo_zero l sq)))) (Sub.cons rfl rfl (Sub.cons rfl rfl (Sub.cons rfl rfl (Sub.cons rfl rfl (Sub.cons rfl rfl (Sub.nil _))))))))) (.cons (.head _ _) rfl (.nil _)) (by omega) ?_
        rintro cq hG
        show WC _ _ _ [(7, .int .i64 (sumTo l sq cq)), (8, .int .i64 ((szS sq cq : Nat) : Int)), (9, .bool (decide (zeroTo l sq cq))), (10, .int .i64 (cq : Int)), (0, .slice Al l.length cl), (4, .pointer (some ⟨r2, 0, none⟩)), (5, .int .i64 (usT l sq)), (6, .int .i64 (sq : Int))] [.row r2 67 (tabL (tbD l sq))]
        replace hG : cq ≤ 8 := hG
        have k1 := hG
        have hsb := sumTo_bd hgd sq cq k1
        have hzb : szS sq cq ≤ cq := cntP_le _ _
        have hsn := shr_nat sq cq
        refine wc_seq ?_
        refine wc_seq ?_
        refine wc_region ?_
        refine wl_ex (ex_move rfl) rfl rfl ?_
        refine wl_ex (ex_lss rfl rfl) rfl rfl ?_
        refine wl_nil ?_
        refine pe_seq ?_
        refine wc_ite rfl (fun c27 => ?_) (fun c27 => ?_)
        · refine wc_skip ?_
          refine pe_seq ?_
          refine wc_seq ?_
          refine wc_block ?_
          refine wc_seq ?_
          refine wc_region ?_
          refine wl_ex (ex_move rfl) rfl rfl ?_
          refine wl_ex (ex_move rfl) rfl rfl ?_
          refine wl_ex (ex_shr rfl rfl (by omega) (by omega)) rfl rfl ?_
          refine wl_ex (ex_rem rfl rfl (by omega) (by omega)) rfl rfl ?_
          refine wl_ex (ex_eql rfl rfl) rfl rfl ?_
          refine wl_nil ?_
          refine pe_seq ?_
          refine wc_ite rfl (fun c34 => ?_) (fun c34 => ?_)
          · refine wc_seq ?_
            refine wc_region ?_
            refine wl_ex (ex_move rfl) rfl rfl ?_
            refine wl_ex (ex_move rfl) rfl rfl ?_
            refine wl_ex (ex_move rfl) rfl rfl ?_
            refine wl_ex (ex_indexAddr rfl rfl Try.underlying25 sz_3 (sl_arg hl rfl) (by omega) (by omega) (enc_pos encI_len (by omega))) rfl rfl ?_
            obtain ⟨d_l__cq_Int, hd_l__cq_Int⟩ := get_if l (cq : Int)
            refine wl_ex (ex_load rfl ag_3 (rd_int (sl_arg hl rfl) (hd_l__cq_Int (by omega) (by omega)))) rfl rfl ?_
            have hdc := hd_l__cq_Int (by omega) (by omega)
            rw [Int.toNat_natCast] at hdc
            have hdl := hgd.1 _ (mem_at hdc)
            refine wl_ex (ex_add rfl rfl (by omega) (by omega)) rfl rfl ?_
            refine wl_ex (ex_assign rfl) rfl rfl ?_
            refine wl_nil ?_
            refine pe_seq ?_
            refine wc_seq ?_
            refine wc_region ?_
            refine wl_ex (ex_move rfl) rfl rfl ?_
            refine wl_ex (ex_add rfl rfl (by omega) (by omega)) rfl rfl ?_
            refine wl_ex (ex_assign rfl) rfl rfl ?_
            refine wl_nil ?_
            refine pe_seq ?_
            refine wc_region ?_
            refine wl_ex (ex_move rfl) rfl rfl ?_
            refine wl_ex (ex_move rfl) rfl rfl ?_
            by_cases g3 : zeroTo l sq cq
            · refine wl_skip rfl rfl rfl (fun h => of_decide_eq_false (Value.bool.inj h) g3) rfl rfl ?_
              refine wl_skip rfl rfl rfl (fun h => of_decide_eq_false (Value.bool.inj h) g3) rfl rfl ?_
              refine wl_skip rfl rfl rfl (fun h => of_decide_eq_false (Value.bool.inj h) g3) rfl rfl ?_
              refine wl_skip rfl rfl rfl (fun h => of_decide_eq_false (Value.bool.inj h) g3) rfl rfl ?_
              refine wl_skip rfl rfl rfl (fun h => of_decide_eq_false (Value.bool.inj h) g3) rfl rfl ?_
              refine wl_ex (ex_pickt rfl (decide_eq_true g3) rfl) rfl rfl ?_
              refine wl_ex (ex_assign rfl) rfl rfl ?_
              refine wl_nil ?_
              refine pe_block _ ?_
              refine pe_seq ?_
              refine wc_region ?_
              refine wl_ex (ex_move rfl) rfl rfl ?_
              refine wl_ex (ex_add rfl rfl (by omega) (by omega)) rfl rfl ?_
              refine wl_ex (ex_assign rfl) rfl rfl ?_
              refine wl_nil ?_
              refine pe_again (cq + 1) (Sub.cons rfl (congrArg (Value.int .i64) (by rw [sumTo_yes ((rem_iff sq cq).1 c34) hdc])) (Sub.cons rfl (congrArg (Value.int .i64) (by unfold szS; rw [cntP_yes (fun k => sq.testBit k = true) ((rem_iff sq cq).1 c34)]; omega)) (Sub.cons rfl (congrArg Value.bool (by have e := zeroTo_yes (l := l) (s := sq) (c := cq) ((rem_iff sq cq).1 c34) hdc; grind)) (Sub.cons rfl (congrArg (Value.int .i64) (by omega)) (Sub.cons rfl rfl (Sub.cons rfl rfl (Sub.cons rfl rfl (Sub.cons rfl rfl (Sub.nil _))))))))) (.cons (.head _ _) rfl (.nil _)) ?_ ?_
              · show (cq + 1) ≤ 8
                omega
              · first | omega | (simp only []; omega)
            · refine wl_pass rfl rfl rfl (decide_eq_false g3) ?_
              refine wl_ex (ex_move rfl) rfl rfl ?_
              refine wl_pass rfl rfl rfl (decide_eq_false g3) ?_
              refine wl_ex (ex_move rfl) rfl rfl ?_
              refine wl_pass rfl rfl rfl (decide_eq_false g3) ?_
              refine wl_ex (ex_indexAddr rfl rfl Try.underlying25 sz_3 (sl_arg hl rfl) (by omega) (by omega) (enc_pos encI_len (by omega))) rfl rfl ?_
              refine wl_pass rfl rfl rfl (decide_eq_false g3) ?_
              refine wl_ex (ex_load rfl ag_3 (rd_int (sl_arg hl rfl) (hd_l__cq_Int (by omega) (by omega)))) rfl rfl ?_
              refine wl_pass rfl rfl rfl (decide_eq_false g3) ?_
              refine wl_ex (ex_eql rfl rfl) rfl rfl ?_
              refine wl_ex (ex_pickf rfl (decide_eq_false g3) rfl) rfl rfl ?_
              refine wl_ex (ex_assign rfl) rfl rfl ?_
              refine wl_nil ?_
              refine pe_block _ ?_
              refine pe_seq ?_
              refine wc_region ?_
              refine wl_ex (ex_move rfl) rfl rfl ?_
              refine wl_ex (ex_add rfl rfl (by omega) (by omega)) rfl rfl ?_
              refine wl_ex (ex_assign rfl) rfl rfl ?_
              refine wl_nil ?_
              refine pe_again (cq + 1) (Sub.cons rfl (congrArg (Value.int .i64) (by rw [sumTo_yes ((rem_iff sq cq).1 c34) hdc])) (Sub.cons rfl (congrArg (Value.int .i64) (by unfold szS; rw [cntP_yes (fun k => sq.testBit k = true) ((rem_iff sq cq).1 c34)]; omega)) (Sub.cons rfl (congrArg Value.bool (by have e := zeroTo_yes (l := l) (s := sq) (c := cq) ((rem_iff sq cq).1 c34) hdc; grind)) (Sub.cons rfl (congrArg (Value.int .i64) (by omega)) (Sub.cons rfl rfl (Sub.cons rfl rfl (Sub.cons rfl rfl (Sub.cons rfl rfl (Sub.nil _))))))))) (.cons (.head _ _) rfl (.nil _)) ?_ ?_
              · show (cq + 1) ≤ 8
                omega
              · first | omega | (simp only []; omega)
          · refine wc_skip ?_
            refine pe_block _ ?_
            refine pe_seq ?_
            refine wc_region ?_
            refine wl_ex (ex_move rfl) rfl rfl ?_
            refine wl_ex (ex_add rfl rfl (by omega) (by omega)) rfl rfl ?_
            refine wl_ex (ex_assign rfl) rfl rfl ?_
            refine wl_nil ?_
            refine pe_again (cq + 1) (Sub.cons rfl (congrArg (Value.int .i64) (by rw [sumTo_no (fun h => c34 ((rem_iff sq cq).2 h))])) (Sub.cons rfl (congrArg (Value.int .i64) (by unfold szS; rw [cntP_no (fun k => sq.testBit k = true) (fun h => c34 ((rem_iff sq cq).2 h))])) (Sub.cons rfl (congrArg Value.bool (decide_eq_decide.2 (by rw [zeroTo_no (fun h => c34 ((rem_iff sq cq).2 h))]))) (Sub.cons rfl (congrArg (Value.int .i64) (by omega)) (Sub.cons rfl rfl (Sub.cons rfl rfl (Sub.cons rfl rfl (Sub.cons rfl rfl (Sub.nil _))))))))) (.cons (.head _ _) rfl (.nil _)) ?_ ?_
            · show (cq + 1) ≤ 8
              omega
            · first | omega | (simp only []; omega)
        · obtain rfl : cq = 8 := by omega
          refine wc_exit ?_
          refine pe_seq_exit ?_
          refine pe_loop_exit ?_
          refine pe_block_exit ?_
          refine pe_seq ?_
          refine wc_seq ?_
          refine wc_seq ?_
          refine wc_region ?_
          refine wl_ex (ex_move rfl) rfl rfl ?_
          refine wl_nil ?_
          refine pe_seq ?_
          refine wc_ite rfl (fun c51 => ?_) (fun c51 => ?_)
          · refine wc_exit ?_
            refine pe_seq_exit ?_
            refine pe_block_exit ?_
            refine pe_seq ?_
            refine wc_region ?_
            refine wl_ex (ex_move rfl) rfl rfl ?_
            refine wl_ex (ex_add rfl rfl (by omega) (by omega)) rfl rfl ?_
            refine wl_ex (ex_assign rfl) rfl rfl ?_
            refine wl_nil ?_
            refine pe_again (sq + 1) (Sub.cons rfl (congrArg (Value.int .i64) (by rw [usT_skip (.inr c51)])) (Sub.cons rfl (congrArg (Value.int .i64) (by omega)) (Sub.cons rfl rfl (Sub.cons rfl rfl (Sub.nil _))))) (.cons (.head _ _) (by rw [tbD_skip (.inr c51)]) (.nil _)) ?_ ?_
            · show 1 ≤ (sq + 1) ∧ (sq + 1) ≤ 256
              omega
            · first | omega | (simp only []; omega)
          · have hnz : ¬ (sq = 0 ∨ zeroIn l sq) := fun h => h.elim (by omega) c51
            refine wc_skip ?_
            refine pe_seq ?_
            refine wc_seq ?_
            refine wc_region ?_
            refine wl_ex (ex_move rfl) rfl rfl ?_
            refine wl_ex (ex_move rfl) rfl rfl ?_
            refine wl_ex (ex_max rfl rfl) rfl rfl ?_
            refine wl_ex (ex_assign rfl) rfl rfl ?_
            refine wl_nil ?_
            refine pe_seq ?_
            refine wc_seq ?_
            refine wc_seq ?_
            refine wc_region ?_
            refine wl_ex (ex_assign rfl) rfl rfl ?_
            refine wl_nil ?_
            refine pe_seq ?_
            refine wc_block ?_
            refine wc_loop (σ := Nat) (fun s => [(11, .int .i64 (s : Int)), (0, .slice Al l.length cl), (4, .pointer (some ⟨r2, 0, none⟩)), (5, .int .i64 (max (usT l sq) ((szS sq 8 : Nat) : Int))), (6, .int .i64 (sq : Int)), (7, .int .i64 (sumTo l sq 8))]) (fun s => [.row r2 67 (tabL (setT (tbD l sq) sq (dpB (dpS l) sq s)))]) (fun s => s ≤ 8) (fun s => 8 - s) 0 (Sub.cons rfl rfl (Sub.cons rfl rfl (Sub.cons rfl rfl (Sub.cons rfl rfl (Sub.cons rfl rfl (Sub.cons rfl rfl (Sub.nil _))))))) (.cons (.head _ _) (by rw [show dpB (dpS l) sq 0 = 0 from rfl, setT_zero]) (.nil _)) (by omega) ?_
            rintro ee hG
            show WC _ _ _ [(11, .int .i64 (ee : Int)), (0, .slice Al l.length cl), (4, .pointer (some ⟨r2, 0, none⟩)), (5, .int .i64 (max (usT l sq) ((szS sq 8 : Nat) : Int))), (6, .int .i64 (sq : Int)), (7, .int .i64 (sumTo l sq 8))] [.row r2 67 (tabL (setT (tbD l sq) sq (dpB (dpS l) sq ee)))]
            replace hG : ee ≤ 8 := hG
            have e1 := hG
            have hs8 : sq < 256 := by omega
            have hdb := dpB_bd l hs8 ee e1
            have hsn := shr_nat sq ee
            refine wc_seq ?_
            refine wc_seq ?_
            refine wc_region ?_
            refine wl_ex (ex_move rfl) rfl rfl ?_
            refine wl_ex (ex_lss rfl rfl) rfl rfl ?_
            refine wl_nil ?_
            refine pe_seq ?_
            refine wc_ite rfl (fun c56 => ?_) (fun c56 => ?_)
            · refine wc_skip ?_
              refine pe_seq ?_
              refine wc_seq ?_
              refine wc_block ?_
              refine wc_seq ?_
              refine wc_region ?_
              refine wl_ex (ex_move rfl) rfl rfl ?_
              refine wl_ex (ex_move rfl) rfl rfl ?_
              refine wl_ex (ex_shr rfl rfl (by omega) (by omega)) rfl rfl ?_
              refine wl_ex (ex_rem rfl rfl (by omega) (by omega)) rfl rfl ?_
              refine wl_ex (ex_eql rfl rfl) rfl rfl ?_
              refine wl_nil ?_
              refine pe_seq ?_
              refine wc_ite rfl (fun c63 => ?_) (fun c63 => ?_)
              · refine wc_mix [.row r2 67 (tabL (setT (tbD l sq) sq (dpB (dpS l) sq ee)))] [] (fun i => match i with  | _ => ⟨0, Unit, fun _ => True, fun _ => undef, fun _ => []⟩) [(0, true), (1, true), (2, true), (3, true), (4, true), (5, true), (6, true), (7, true), (8, true), (9, true), (10, true), (11, true)] [(12, false)] mixed (by kernel_rfl) (.cons (.head _ _) rfl (.nil _)) (.nil _) ?_
                have hpw := powI_nat ee
                have hbit := (rem_iff sq ee).1 c63
                have hle := bit_le hbit
                have hp0 := Nat.two_pow_pos ee
                have hdd := dp_bd l (s := sq - 2 ^ ee) (by omega)
                refine cm_ex rfl (ex_move rfl) rfl rfl ?_
                refine cm_ex rfl (ex_move rfl) rfl rfl ?_
                refine cm_ex rfl (ex_indexAddrA (off' := ((sq : Int)).toNat * 1) rfl rfl Try.underlying67 sz_3 (by omega) (by omega) (by simp)) rfl rfl ?_
                refine cm_ex rfl (ex_load rfl ag_3 (rd_row1 (.head _ _) ((tab_getn _ sq hs8).trans (by rw [setT_at])))) rfl rfl ?_
                refine cm_ex rfl (ex_move rfl) rfl rfl ?_
                refine cm_ex rfl (ex_move rfl) rfl rfl ?_
                refine cm_ex rfl (ex_shl1 rfl rfl (by omega)) rfl rfl ?_
                refine cm_ex rfl (ex_sub rfl rfl (by omega) (by omega)) rfl rfl ?_
                rw [powI_nat ee]
                have hsub : ((sq : Int) - ((2 ^ ee : Nat) : Int)) = ((sq - 2 ^ ee : Nat) : Int) := by omega
                rw [hsub]
                refine cm_ex rfl (ex_indexAddrA (off' := (((sq - 2 ^ ee : Nat) : Int)).toNat * 1) rfl rfl Try.underlying67 sz_3 (by omega) (by omega) (by simp)) rfl rfl ?_
                refine cm_ex rfl (ex_load rfl ag_3 (rd_row1 (.head _ _) ((tab_getn _ (sq - 2 ^ ee) (by omega)).trans (by rw [setT_ne _ _ (by omega), tbD_lt l (by omega)])))) rfl rfl ?_
                refine cm_ex rfl (ex_max rfl rfl) rfl rfl ?_
                refine cm_ex rfl (ex_indexAddrA (off' := ((sq : Int)).toNat * 1) rfl rfl Try.underlying67 sz_3 (by omega) (by omega) (by simp)) rfl rfl ?_
                refine cm_nil ?_
                refine cn_tail rfl ?_
                refine wl_store rfl rfl rfl sz_3 (.head _ _) (by simp only [tabL_length]; omega) ?_
                rw [tab_set _ sq _ hs8, setT_setT]
                refine cn_back (.nil _) ?_
                refine cn_nil ?_
                refine pe_block _ ?_
                refine pe_seq ?_
                refine wc_region ?_
                refine wl_ex (ex_move rfl) rfl rfl ?_
                refine wl_ex (ex_add rfl rfl (by omega) (by omega)) rfl rfl ?_
                refine wl_ex (ex_assign rfl) rfl rfl ?_
                refine wl_nil ?_
                refine pe_again (ee + 1) (Sub.cons rfl (congrArg (Value.int .i64) (by omega)) (Sub.cons rfl rfl (Sub.cons rfl rfl (Sub.cons rfl rfl (Sub.cons rfl rfl (Sub.cons rfl rfl (Sub.nil _))))))) (.cons (.head _ _) (by rw [dpB_yes (dpS l) ((rem_iff sq ee).1 c63)]) (.nil _)) ?_ ?_
                · show (ee + 1) ≤ 8
                  omega
                · first | omega | (simp only []; omega)
              · refine wc_skip ?_
                refine pe_block _ ?_
                refine pe_seq ?_
                refine wc_region ?_
                refine wl_ex (ex_move rfl) rfl rfl ?_
                refine wl_ex (ex_add rfl rfl (by omega) (by omega)) rfl rfl ?_
                refine wl_ex (ex_assign rfl) rfl rfl ?_
                refine wl_nil ?_
                refine pe_again (ee + 1) (Sub.cons rfl (congrArg (Value.int .i64) (by omega)) (Sub.cons rfl rfl (Sub.cons rfl rfl (Sub.cons rfl rfl (Sub.cons rfl rfl (Sub.cons rfl rfl (Sub.nil _))))))) (.cons (.head _ _) (by rw [dpB_no (dpS l) (fun h => c63 ((rem_iff sq ee).2 h))]) (.nil _)) ?_ ?_
                · show (ee + 1) ≤ 8
                  omega
                · first | omega | (simp only []; omega)
            · obtain rfl : ee = 8 := by omega
              refine wc_exit ?_
              refine pe_seq_exit ?_
              refine pe_loop_exit ?_
              refine pe_block_exit ?_
              refine pe_seq ?_
              refine wc_seq ?_
              refine wc_region ?_
              have hs8 : sq < 256 := by omega
              refine wl_ex (ex_move rfl) rfl rfl ?_
              refine wl_ex (ex_eql rfl rfl) rfl rfl ?_
              refine wl_nil ?_
              refine pe_seq ?_
              refine wc_ite rfl (fun c77 => ?_) (fun c77 => ?_)
              · refine wc_region ?_
                refine wl_ex (ex_move rfl) rfl rfl ?_
                refine wl_ex (ex_indexAddrA (off' := ((sq : Int)).toNat * 1) rfl rfl Try.underlying67 sz_3 (by omega) (by omega) (by simp)) rfl rfl ?_
                refine wl_ex (ex_load rfl ag_3 (rd_row1 (.head _ _) ((tab_getn _ sq (by omega)).trans (by rw [setT_at])))) rfl rfl ?_
                have hdb := dpB_bd l (s := sq) (by omega) 8 (by omega)
                refine wl_ex (ex_add rfl rfl (by omega) (by omega)) rfl rfl ?_
                refine wl_ex (ex_indexAddrA (off' := ((sq : Int)).toNat * 1) rfl rfl Try.underlying67 sz_3 (by omega) (by omega) (by simp)) rfl rfl ?_
                refine wl_store rfl rfl rfl sz_3 (.head _ _) (by simp only [tabL_length]; omega) ?_
                rw [tab_set _ sq _ hs8, setT_setT]
                refine wl_nil ?_
                refine pe_block _ ?_
                refine pe_seq ?_
                refine wc_region ?_
                refine wl_ex (ex_move rfl) rfl rfl ?_
                refine wl_ex (ex_add rfl rfl (by omega) (by omega)) rfl rfl ?_
                refine wl_ex (ex_assign rfl) rfl rfl ?_
                refine wl_nil ?_
                refine pe_again (sq + 1) (Sub.cons rfl (congrArg (Value.int .i64) (by rw [usT_step hnz])) (Sub.cons rfl (congrArg (Value.int .i64) (by omega)) (Sub.cons rfl rfl (Sub.cons rfl rfl (Sub.nil _))))) (.cons (.head _ _) (by rw [tbD_step l sq (dpS_sum hnz c77)]) (.nil _)) ?_ ?_
                · show 1 ≤ (sq + 1) ∧ (sq + 1) ≤ 256
                  omega
                · first | omega | (simp only []; omega)
              · refine wc_skip ?_
                refine pe_block _ ?_
                refine pe_seq ?_
                refine wc_region ?_
                refine wl_ex (ex_move rfl) rfl rfl ?_
                refine wl_ex (ex_add rfl rfl (by omega) (by omega)) rfl rfl ?_
                refine wl_ex (ex_assign rfl) rfl rfl ?_
                refine wl_nil ?_
                refine pe_again (sq + 1) (Sub.cons rfl (congrArg (Value.int .i64) (by rw [usT_step hnz])) (Sub.cons rfl (congrArg (Value.int .i64) (by omega)) (Sub.cons rfl rfl (Sub.cons rfl rfl (Sub.nil _))))) (.cons (.head _ _) (by rw [tbD_step l sq (dpS_nosum hnz c77)]) (.nil _)) ?_ ?_
                · show 1 ≤ (sq + 1) ∧ (sq + 1) ≤ 256
                  omega
                · first | omega | (simp only []; omega)
      · obtain rfl : sq = 256 := by omega
        refine wc_exit ?_
        refine pe_seq_exit ?_
        refine pe_loop_exit ?_
        refine pe_block_exit ?_
        refine pe_seq ?_
        refine wc_seq ?_
        refine wc_region ?_
        refine wl_ex (ex_assign rfl) rfl rfl ?_
        refine wl_nil ?_
        refine pe_seq ?_
        refine wc_seq ?_
        refine wc_seq ?_
        refine wc_region ?_
        refine wl_ex (ex_assign rfl) rfl rfl ?_
        refine wl_nil ?_
        refine pe_seq ?_
        refine wc_block ?_
        refine wc_loop (σ := Nat) (fun s => [(12, .int .i64 (bsT l s)), (13, .int .i64 (s : Int)), (4, .pointer (some ⟨r2, 0, none⟩)), (5, .int .i64 (usT l 256))]) (fun s => [.row r2 67 (tabL (tbD l 256))]) (fun s => s ≤ 256) (fun s => 256 - s) 0 (Sub.cons rfl rfl (Sub.cons rfl rfl (Sub.cons rfl rfl (Sub.cons rfl rfl (Sub.nil _))))) (.cons (.head _ _) rfl (.nil _)) (by omega) ?_
        rintro tq hG
        show WC _ _ _ [(12, .int .i64 (bsT l tq)), (13, .int .i64 (tq : Int)), (4, .pointer (some ⟨r2, 0, none⟩)), (5, .int .i64 (usT l 256))] [.row r2 67 (tabL (tbD l 256))]
        replace hG : tq ≤ 256 := hG
        have t1 := hG
        have hbb := bsT_bd l tq t1
        refine wc_seq ?_
        refine wc_seq ?_
        refine wc_region ?_
        refine wl_ex (ex_move rfl) rfl rfl ?_
        refine wl_ex (ex_lss rfl rfl) rfl rfl ?_
        refine wl_nil ?_
        refine pe_seq ?_
        refine wc_ite rfl (fun c84 => ?_) (fun c84 => ?_)
        · refine wc_skip ?_
          refine pe_seq ?_
          refine wc_seq ?_
          refine wc_block ?_
          refine wc_region ?_
          refine wl_ex (ex_move rfl) rfl rfl ?_
          refine wl_ex (ex_move rfl) rfl rfl ?_
          refine wl_ex (ex_indexAddrA (off' := ((tq : Int)).toNat * 1) rfl rfl Try.underlying67 sz_3 (by omega) (by omega) (by simp)) rfl rfl ?_
          refine wl_ex (ex_load rfl ag_3 (rd_row1 (.head _ _) ((tab_getn _ tq (by omega)).trans (by rw [tbD_lt l (by omega)])))) rfl rfl ?_
          have hdt := dp_bd l (s := tq) (by omega)
          refine wl_ex (ex_max rfl rfl) rfl rfl ?_
          refine wl_ex (ex_assign rfl) rfl rfl ?_
          refine wl_nil ?_
          refine pe_block _ ?_
          refine pe_seq ?_
          refine wc_region ?_
          refine wl_ex (ex_move rfl) rfl rfl ?_
          refine wl_ex (ex_add rfl rfl (by omega) (by omega)) rfl rfl ?_
          refine wl_ex (ex_assign rfl) rfl rfl ?_
          refine wl_nil ?_
          refine pe_again (tq + 1) (Sub.cons rfl rfl (Sub.cons rfl (congrArg (Value.int .i64) (by omega)) (Sub.cons rfl rfl (Sub.cons rfl rfl (Sub.nil _))))) (.cons (.head _ _) rfl (.nil _)) ?_ ?_
          · show (tq + 1) ≤ 256
            omega
          · first | omega | (simp only []; omega)
        · refine wc_exit ?_
          refine pe_seq_exit ?_
          refine pe_loop_exit ?_
          refine pe_block_exit ?_
          refine pe_seq ?_
          refine wc_seq ?_
          refine wc_region ?_
          refine wl_ex (ex_move rfl) rfl rfl ?_
          refine wl_ex (ex_move rfl) rfl rfl ?_
          refine wl_ex (ex_sub rfl rfl (by omega) (by omega)) rfl rfl ?_
          refine wl_ex (ex_assign rfl) rfl rfl ?_
          refine wl_ex (ex_assign rfl) rfl rfl ?_
          refine wl_nil ?_
          refine pe_seq ?_
          refine wc_ret ?_
          refine pe_ret2 rfl rfl rfl rfl (fun w' hm => ⟨?_, hm.ent (.nil _)⟩)
          rw [show errI l = 0 from if_pos hgd, ← ref_len hgd, show tq = 256 by omega]

end Go.Proofs.Ytolfgdkdghhidaa
