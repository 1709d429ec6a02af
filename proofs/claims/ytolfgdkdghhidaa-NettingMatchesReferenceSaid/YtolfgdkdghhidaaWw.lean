/- Walks. -/
import Derived.Test.YtolfgdkdghhidaaWv
import Derived.Test.YtolfgdkdghhidaaP39
set_option linter.unusedVariables false
set_option linter.unusedSimpArgs false
namespace Go.Proofs.Ytolfgdkdghhidaa
open Go Go.RowKit

theorem ok_26 : callOK Try.prog 26 = true := by kernel_rfl

theorem c_Even (Ax : Option Addr) (cx : Nat) (x : List Int) (w : World) (hx : Sl w Ax (encs encI x)) (hxk : ∀ n ∈ x, i64 n) :
    Cl Try.prog 26 [.slice Ax x.length cx] w (IsS ((evenI x).length) 3 1 (encs encI (evenI x)) w) := by
  refine cl_of Try.func26 rfl Try.ntmps26 rfl (Mem.refl w) ?_
  refine wc_seq ?_
  refine wc_region ?_
  refine wl_ex (ex_assign rfl) rfl rfl ?_
  refine wl_nil ?_
  refine pe_seq ?_
  refine wc_seq ?_
  refine wc_region ?_
  refine wl_make (n := 8) rfl rfl Try.underlying25 sz_3 ze_3 rfl by_3 (by omega) (by omega) rfl fun r1 => ?_
  rw [rep_enc]
  refine wl_ex (ex_assign rfl) rfl rfl ?_
  refine wl_nil ?_
  refine pe_seq ?_
  refine wc_seq ?_
  refine wc_seq ?_
  refine wc_region ?_
  refine wl_ex (ex_assign rfl) rfl rfl ?_
  refine wl_nil ?_
  refine pe_seq ?_
  refine wc_block ?_
  refine wc_loop (σ := Int × (List Int)) (fun s => [(4, .int .i64 s.1), (0, .slice Ax x.length cx), (3, .slice (some ⟨r1, 0, none⟩) 8 8)]) (fun s => [.own (some ⟨r1, 0, none⟩) 8 8 3 1 (encs encI s.2)]) (fun s => (0 ≤ s.1 ∧ s.1 ≤ (x.length : Int) ∧ s.1 ≤ 7) ∧ s.2 = ev1 x s.1.toNat) (fun s => (7 - s.1).toNat) ((0 : Int), List.replicate 8 0) (Sub.cons rfl rfl (Sub.cons rfl rfl (Sub.cons rfl rfl (Sub.nil _)))) (.cons (.head _ _) (by first | rfl | simp) (.nil _)) (by first | (simp [ev1]; done) | (simp [ev1]; omega)) ?_
  rintro ⟨i, b⟩ hG
  show WC _ _ _ [(4, .int .i64 i), (0, .slice Ax x.length cx), (3, .slice (some ⟨r1, 0, none⟩) 8 8)] [.own (some ⟨r1, 0, none⟩) 8 8 3 1 (encs encI b)]
  replace hG : (0 ≤ i ∧ i ≤ (x.length : Int) ∧ i ≤ 7) ∧ b = ev1 x i.toNat := hG
  obtain ⟨h1, h2⟩ := hG
  have hbl : b.length = 8 := by rw [h2]; exact ev1_len x (by omega)
  refine wc_seq ?_
  refine wc_seq ?_
  refine wc_region ?_
  refine wl_ex (ex_move rfl) rfl rfl ?_
  refine wl_ex (ex_move rfl) rfl rfl ?_
  refine wl_ex (ex_len Try.underlying25 rfl) rfl rfl ?_
  refine wl_ex (ex_lss rfl rfl) rfl rfl ?_
  refine wl_ex (ex_move rfl) rfl rfl ?_
  by_cases g2 : i < (x.length : Int)
  · refine wl_pass rfl rfl rfl (decide_eq_true g2) ?_
    refine wl_ex (ex_move rfl) rfl rfl ?_
    refine wl_pass rfl rfl rfl (decide_eq_true g2) ?_
    refine wl_ex (ex_lss rfl rfl) rfl rfl ?_
    refine wl_ex (ex_pickt rfl (decide_eq_true g2) rfl) rfl rfl ?_
    refine wl_nil ?_
    refine pe_seq ?_
    refine wc_ite rfl (fun c14 => ?_) (fun c14 => ?_)
    · refine wc_skip ?_
      refine pe_seq ?_
      refine wc_seq ?_
      refine wc_block ?_
      refine wc_seq ?_
      refine wc_region ?_
      refine wl_ex (ex_move rfl) rfl rfl ?_
      refine wl_ex (ex_move rfl) rfl rfl ?_
      refine wl_ex (ex_move rfl) rfl rfl ?_
      refine wl_ex (ex_move rfl) rfl rfl ?_
      refine wl_ex (ex_indexAddr rfl rfl Try.underlying25 sz_3 (sl_arg hx rfl) (by omega) (by omega) (enc_pos encI_len (by omega))) rfl rfl ?_
      obtain ⟨d_x_i, hd_x_i⟩ := get_if x i
      refine wl_ex (ex_load rfl ag_3 (rd_int (sl_arg hx rfl) (hd_x_i (by omega) (by omega)))) rfl rfl ?_
      have hxo := hxk _ (mem_at (hd_x_i (by omega) (by omega)))
      unfold i64 at hxo
      refine wl_callV [.tmp 22, .const (.int .i64 13)] rfl ok_36 rfl (fun w hm => c_pickR d_x_i 13 w   (by omega) (by omega)) rfl ?_
      have hp1 := pick_bd d_x_i 13 (by omega)
      refine wl_ex (ex_sub rfl rfl (by omega) (by omega)) rfl rfl ?_
      refine wl_ex (ex_indexAddrN rfl rfl rfl Try.underlying25 sz_3 (by omega) (by omega)) rfl rfl ?_
      refine wl_storeI rfl rfl sz_3 (.head _ _) (by omega) (by omega) ?_
      generalize hb1 : b.set i.toNat (pickI d_x_i 13 - 6) = b1
      have hb1l : b1.length = 8 := by rw [← hb1, List.length_set]; exact hbl
      refine wl_nil ?_
      refine pe_seq ?_
      refine wc_seq ?_
      refine wc_region ?_
      refine wl_ex (ex_move rfl) rfl rfl ?_
      refine wl_ex (ex_move rfl) rfl rfl ?_
      refine wl_ex (ex_indexAddr rfl rfl Try.underlying25 sz_3 (sl_arg hx rfl) (by omega) (by omega) (enc_pos encI_len (by omega))) rfl rfl ?_
      refine wl_ex (ex_load rfl ag_3 (rd_int (sl_arg hx rfl) (hd_x_i (by omega) (by omega)))) rfl rfl ?_
      refine wl_callV [.tmp 29, .const (.int .i64 32)] rfl ok_36 rfl (fun w hm => c_pickR d_x_i 32 w   (by omega) (by omega)) rfl ?_
      refine wl_ex (ex_eql rfl rfl) rfl rfl ?_
      refine wl_nil ?_
      refine pe_seq ?_
      refine wc_ite rfl (fun c31 => ?_) (fun c31 => ?_)
      · refine wc_region ?_
        refine wl_ex (ex_move rfl) rfl rfl ?_
        refine wl_ex (ex_move rfl) rfl rfl ?_
        refine wl_ex (ex_move rfl) rfl rfl ?_
        refine wl_ex (ex_move rfl) rfl rfl ?_
        refine wl_ex (ex_indexAddr rfl rfl Try.underlying25 sz_3 (sl_arg hx rfl) (by omega) (by omega) (enc_pos encI_len (by omega))) rfl rfl ?_
        refine wl_ex (ex_load rfl ag_3 (rd_int (sl_arg hx rfl) (hd_x_i (by omega) (by omega)))) rfl rfl ?_
        refine wl_callV [.tmp 37, .const (.int .i64 100000000000)] rfl ok_36 rfl (fun w hm => c_pickR d_x_i 100000000000 w   (by omega) (by omega)) rfl ?_
        refine wl_ex (ex_indexAddrN rfl rfl rfl Try.underlying25 sz_3 (by omega) (by omega)) rfl rfl ?_
        refine wl_storeI rfl rfl sz_3 (.head _ _) (by omega) (by omega) ?_
        refine wl_nil ?_
        refine pe_block _ ?_
        refine pe_seq ?_
        refine wc_region ?_
        refine wl_ex (ex_move rfl) rfl rfl ?_
        refine wl_ex (ex_add rfl rfl (by omega) (by omega)) rfl rfl ?_
        refine wl_ex (ex_assign rfl) rfl rfl ?_
        refine wl_nil ?_
        refine pe_again ⟨i + 1, b1.set (i).toNat (pickI d_x_i 100000000000)⟩ (Sub.cons rfl rfl (Sub.cons rfl rfl (Sub.cons rfl rfl (Sub.nil _)))) (.cons (.head _ _) (by first | rfl | simp) (.nil _)) ?_ ?_
        · show (0 ≤ (i + 1) ∧ (i + 1) ≤ (x.length : Int) ∧ (i + 1) ≤ 7) ∧ (b1.set (i).toNat (pickI d_x_i 100000000000)) = ev1 x (i + 1).toNat
          have hi : (i + 1).toNat = i.toNat + 1 := by omega
          refine ⟨by omega, ?_⟩
          rw [hi, ← ev1_step (hd_x_i (by omega) (by omega)) (by omega), ← h2]
          unfold evE
          first | rw [if_pos c31, ← hb1, List.set_set] | rw [if_neg c31, hb1]
        · first | omega | (simp only []; omega)
      · refine wc_skip ?_
        refine pe_block _ ?_
        refine pe_seq ?_
        refine wc_region ?_
        refine wl_ex (ex_move rfl) rfl rfl ?_
        refine wl_ex (ex_add rfl rfl (by omega) (by omega)) rfl rfl ?_
        refine wl_ex (ex_assign rfl) rfl rfl ?_
        refine wl_nil ?_
        refine pe_again ⟨i + 1, b1⟩ (Sub.cons rfl rfl (Sub.cons rfl rfl (Sub.cons rfl rfl (Sub.nil _)))) (.cons (.head _ _) (by first | rfl | simp) (.nil _)) ?_ ?_
        · show (0 ≤ (i + 1) ∧ (i + 1) ≤ (x.length : Int) ∧ (i + 1) ≤ 7) ∧ b1 = ev1 x (i + 1).toNat
          have hi : (i + 1).toNat = i.toNat + 1 := by omega
          refine ⟨by omega, ?_⟩
          rw [hi, ← ev1_step (hd_x_i (by omega) (by omega)) (by omega), ← h2]
          unfold evE
          first | rw [if_pos c31, ← hb1, List.set_set] | rw [if_neg c31, hb1]
        · first | omega | (simp only []; omega)
    · refine wc_exit ?_
      refine pe_seq_exit ?_
      refine pe_loop_exit ?_
      refine pe_block_exit ?_
      refine pe_seq ?_
      refine wc_seq ?_
      refine wc_seq ?_
      refine wc_region ?_
      refine wl_ex (ex_assign rfl) rfl rfl ?_
      refine wl_nil ?_
      refine pe_seq ?_
      refine wc_block ?_
      refine wc_loop (σ := Int × (List Int)) (fun s => [(5, .int .i64 s.1), (3, .slice (some ⟨r1, 0, none⟩) 8 8)]) (fun s => [.own (some ⟨r1, 0, none⟩) 8 8 3 1 (encs encI s.2)]) (fun s => (0 ≤ s.1 ∧ s.1 ≤ 7) ∧ s.2 = ev2 x s.1.toNat) (fun s => (7 - s.1).toNat) ((0 : Int), _) (Sub.cons rfl rfl (Sub.cons rfl rfl (Sub.nil _))) (.cons (.head _ _) rfl (.nil _)) (by exact ⟨by omega, by rw [h2]; exact ev1_end (take_7 (by omega))⟩) ?_
      rintro ⟨i, b⟩ hG
      show WC _ _ _ [(5, .int .i64 i), (3, .slice (some ⟨r1, 0, none⟩) 8 8)] [.own (some ⟨r1, 0, none⟩) 8 8 3 1 (encs encI b)]
      replace hG : (0 ≤ i ∧ i ≤ 7) ∧ b = ev2 x i.toNat := hG
      obtain ⟨h1, h2⟩ := hG
      have hbl : b.length = 8 := by rw [h2]; exact ev2_len x _
      have hbd : Within 1000000000000 b := by rw [h2]; exact ev2_within x _
      refine wc_seq ?_
      refine wc_seq ?_
      refine wc_region ?_
      refine wl_ex (ex_move rfl) rfl rfl ?_
      refine wl_ex (ex_lss rfl rfl) rfl rfl ?_
      refine wl_nil ?_
      refine pe_seq ?_
      refine wc_ite rfl (fun c41 => ?_) (fun c41 => ?_)
      · refine wc_skip ?_
        refine pe_seq ?_
        refine wc_seq ?_
        refine wc_block ?_
        obtain ⟨d_b_7, hd_b_7⟩ := get_if b 7
        obtain ⟨d_b_i, hd_b_i⟩ := get_if b i
        refine wc_mix [.own (some ⟨r1, 0, none⟩) 8 8 3 1 (encs encI b)] [] (fun i => match i with  | _ => ⟨0, Unit, fun _ => True, fun _ => undef, fun _ => []⟩) [(0, true), (1, true), (2, true), (3, true), (4, true), (5, true), (6, true), (7, true), (8, true), (9, true)] [(10, false)] mixed (by kernel_rfl) (.cons (.head _ _) rfl (.nil _)) (.nil _) ?_
        refine cm_ex rfl (ex_move rfl) rfl rfl ?_
        refine cm_ex rfl (ex_move rfl) rfl rfl ?_
        refine cm_ex rfl (ex_indexAddrN rfl rfl rfl Try.underlying25 sz_3 (by omega) (by omega)) rfl rfl ?_
        refine cm_ex rfl (ex_load rfl ag_3 (rd_int (sl_own (.head _ _)) (hd_b_7 (by omega) (by omega)))) rfl rfl ?_
        refine cm_ex rfl (ex_move rfl) rfl rfl ?_
        refine cm_ex rfl (ex_move rfl) rfl rfl ?_
        refine cm_ex rfl (ex_indexAddrN rfl rfl rfl Try.underlying25 sz_3 (by omega) (by omega)) rfl rfl ?_
        refine cm_ex rfl (ex_load rfl ag_3 (rd_int (sl_own (.head _ _)) (hd_b_i (by omega) (by omega)))) rfl rfl ?_
        have hb7 := hbd _ (mem_at (hd_b_7 (by omega) (by omega)))
        have hbi := hbd _ (mem_at (hd_b_i (by omega) (by omega)))
        refine cm_ex rfl (ex_sub rfl rfl (by omega) (by omega)) rfl rfl ?_
        refine cm_ex rfl (ex_indexAddrN rfl rfl rfl Try.underlying25 sz_3 (by omega) (by omega)) rfl rfl ?_
        refine cm_nil ?_
        refine cn_tail rfl ?_
        refine wl_storeI rfl rfl sz_3 (.head _ _) (by omega) (by omega) ?_
        refine cn_back (.nil _) ?_
        refine cn_nil ?_
        refine pe_block _ ?_
        refine pe_seq ?_
        refine wc_region ?_
        refine wl_ex (ex_move rfl) rfl rfl ?_
        refine wl_ex (ex_add rfl rfl (by omega) (by omega)) rfl rfl ?_
        refine wl_ex (ex_assign rfl) rfl rfl ?_
        refine wl_nil ?_
        refine pe_again ⟨i + 1, b.set (7 : Int).toNat (d_b_7 - d_b_i)⟩ (Sub.cons rfl rfl (Sub.cons rfl rfl (Sub.nil _))) (.cons (.head _ _) (by first | rfl | simp) (.nil _)) ?_ ?_
        · show (0 ≤ (i + 1) ∧ (i + 1) ≤ 7) ∧ (b.set (7 : Int).toNat (d_b_7 - d_b_i)) = ev2 x (i + 1).toNat
          have hi : (i + 1).toNat = i.toNat + 1 := by omega
          refine ⟨by omega, ?_⟩
          have hu := hd_b_7 (by omega) (by omega)
          have hv := hd_b_i (by omega) (by omega)
          rw [h2] at hu hv
          rw [hi, ← ev2_step (by omega) hu hv, ← h2]
          rfl
        · first | omega | (simp only []; omega)
      · refine wc_exit ?_
        refine pe_seq_exit ?_
        refine pe_loop_exit ?_
        refine pe_block_exit ?_
        refine pe_seq ?_
        refine wc_seq ?_
        refine wc_region ?_
        refine wl_ex (ex_move rfl) rfl rfl ?_
        refine wl_ex (ex_assign rfl) rfl rfl ?_
        refine wl_nil ?_
        refine pe_seq ?_
        refine wc_ret ?_
        refine pe_ret1 rfl rfl rfl (fun w' hm => isS_mk hm (.head _ _) ?_ ?_)
        · rw [h2, show i = 7 by omega]; rfl
        · exact (ev2_len x 7).symm
  · refine wl_skip rfl rfl rfl (fun h => g2 (of_decide_eq_true (Value.bool.inj h))) rfl rfl ?_
    refine wl_skip rfl rfl rfl (fun h => g2 (of_decide_eq_true (Value.bool.inj h))) rfl rfl ?_
    refine wl_ex (ex_pickf rfl (decide_eq_false g2) rfl) rfl rfl ?_
    refine wl_nil ?_
    refine pe_seq ?_
    refine wc_iff rfl ?_
    refine wc_exit ?_
    refine pe_seq_exit ?_
    refine pe_loop_exit ?_
    refine pe_block_exit ?_
    refine pe_seq ?_
    refine wc_seq ?_
    refine wc_seq ?_
    refine wc_region ?_
    refine wl_ex (ex_assign rfl) rfl rfl ?_
    refine wl_nil ?_
    refine pe_seq ?_
    refine wc_block ?_
    refine wc_loop (σ := Int × (List Int)) (fun s => [(5, .int .i64 s.1), (3, .slice (some ⟨r1, 0, none⟩) 8 8)]) (fun s => [.own (some ⟨r1, 0, none⟩) 8 8 3 1 (encs encI s.2)]) (fun s => (0 ≤ s.1 ∧ s.1 ≤ 7) ∧ s.2 = ev2 x s.1.toNat) (fun s => (7 - s.1).toNat) ((0 : Int), _) (Sub.cons rfl rfl (Sub.cons rfl rfl (Sub.nil _))) (.cons (.head _ _) rfl (.nil _)) (by exact ⟨by omega, by rw [h2]; exact ev1_end (take_7 (by omega))⟩) ?_
    rintro ⟨i, b⟩ hG
    show WC _ _ _ [(5, .int .i64 i), (3, .slice (some ⟨r1, 0, none⟩) 8 8)] [.own (some ⟨r1, 0, none⟩) 8 8 3 1 (encs encI b)]
    replace hG : (0 ≤ i ∧ i ≤ 7) ∧ b = ev2 x i.toNat := hG
    obtain ⟨h1, h2⟩ := hG
    have hbl : b.length = 8 := by rw [h2]; exact ev2_len x _
    have hbd : Within 1000000000000 b := by rw [h2]; exact ev2_within x _
    refine wc_seq ?_
    refine wc_seq ?_
    refine wc_region ?_
    refine wl_ex (ex_move rfl) rfl rfl ?_
    refine wl_ex (ex_lss rfl rfl) rfl rfl ?_
    refine wl_nil ?_
    refine pe_seq ?_
    refine wc_ite rfl (fun c41 => ?_) (fun c41 => ?_)
    · refine wc_skip ?_
      refine pe_seq ?_
      refine wc_seq ?_
      refine wc_block ?_
      obtain ⟨d_b_7, hd_b_7⟩ := get_if b 7
      obtain ⟨d_b_i, hd_b_i⟩ := get_if b i
      refine wc_mix [.own (some ⟨r1, 0, none⟩) 8 8 3 1 (encs encI b)] [] (fun i => match i with  | _ => ⟨0, Unit, fun _ => True, fun _ => undef, fun _ => []⟩) [(0, true), (1, true), (2, true), (3, true), (4, true), (5, true), (6, true), (7, true), (8, true), (9, true)] [(10, false)] mixed (by kernel_rfl) (.cons (.head _ _) rfl (.nil _)) (.nil _) ?_
      refine cm_ex rfl (ex_move rfl) rfl rfl ?_
      refine cm_ex rfl (ex_move rfl) rfl rfl ?_
      refine cm_ex rfl (ex_indexAddrN rfl rfl rfl Try.underlying25 sz_3 (by omega) (by omega)) rfl rfl ?_
      refine cm_ex rfl (ex_load rfl ag_3 (rd_int (sl_own (.head _ _)) (hd_b_7 (by omega) (by omega)))) rfl rfl ?_
      refine cm_ex rfl (ex_move rfl) rfl rfl ?_
      refine cm_ex rfl (ex_move rfl) rfl rfl ?_
      refine cm_ex rfl (ex_indexAddrN rfl rfl rfl Try.underlying25 sz_3 (by omega) (by omega)) rfl rfl ?_
      refine cm_ex rfl (ex_load rfl ag_3 (rd_int (sl_own (.head _ _)) (hd_b_i (by omega) (by omega)))) rfl rfl ?_
      have hb7 := hbd _ (mem_at (hd_b_7 (by omega) (by omega)))
      have hbi := hbd _ (mem_at (hd_b_i (by omega) (by omega)))
      refine cm_ex rfl (ex_sub rfl rfl (by omega) (by omega)) rfl rfl ?_
      refine cm_ex rfl (ex_indexAddrN rfl rfl rfl Try.underlying25 sz_3 (by omega) (by omega)) rfl rfl ?_
      refine cm_nil ?_
      refine cn_tail rfl ?_
      refine wl_storeI rfl rfl sz_3 (.head _ _) (by omega) (by omega) ?_
      refine cn_back (.nil _) ?_
      refine cn_nil ?_
      refine pe_block _ ?_
      refine pe_seq ?_
      refine wc_region ?_
      refine wl_ex (ex_move rfl) rfl rfl ?_
      refine wl_ex (ex_add rfl rfl (by omega) (by omega)) rfl rfl ?_
      refine wl_ex (ex_assign rfl) rfl rfl ?_
      refine wl_nil ?_
      refine pe_again ⟨i + 1, b.set (7 : Int).toNat (d_b_7 - d_b_i)⟩ (Sub.cons rfl rfl (Sub.cons rfl rfl (Sub.nil _))) (.cons (.head _ _) (by first | rfl | simp) (.nil _)) ?_ ?_
      · show (0 ≤ (i + 1) ∧ (i + 1) ≤ 7) ∧ (b.set (7 : Int).toNat (d_b_7 - d_b_i)) = ev2 x (i + 1).toNat
        have hi : (i + 1).toNat = i.toNat + 1 := by omega
        refine ⟨by omega, ?_⟩
        have hu := hd_b_7 (by omega) (by omega)
        have hv := hd_b_i (by omega) (by omega)
        rw [h2] at hu hv
        rw [hi, ← ev2_step (by omega) hu hv, ← h2]
        rfl
      · first | omega | (simp only []; omega)
    · refine wc_exit ?_
      refine pe_seq_exit ?_
      refine pe_loop_exit ?_
      refine pe_block_exit ?_
      refine pe_seq ?_
      refine wc_seq ?_
      refine wc_region ?_
      refine wl_ex (ex_move rfl) rfl rfl ?_
      refine wl_ex (ex_assign rfl) rfl rfl ?_
      refine wl_nil ?_
      refine pe_seq ?_
      refine wc_ret ?_
      refine pe_ret1 rfl rfl rfl (fun w' hm => isS_mk hm (.head _ _) ?_ ?_)
      · rw [h2, show i = 7 by omega]; rfl
      · exact (ev2_len x 7).symm

theorem c_Settles (Ay : Option Addr) (cy : Nat) (y : List Int) (w : World) (hy : Sl w Ay (encs encI y)) (hyk : ∀ n ∈ y, i64 n) :
    Cl Try.prog 5 [.slice Ay y.length cy] w (IsV (.bool true) w) := by
  refine cl_of Try.func5 rfl Try.ntmps5 rfl (Mem.refl w) ?_
  have hg := even_good y
  have hgl : (evenI y).length ≤ 1000 := by have := hg.2.1; omega
  have he : errI (evenI y) = 0 := if_pos hg
  have hs : stlR (evenI y) = stlI (evenI y) := if_pos hg
  have hck := stl_check hg
  have hsl : (stlR (evenI y)).length ≤ 60 := by rw [hs]; exact hck.2.1.2
  have hz1 : ¬ (errI (evenI y) ≠ 0) := fun h => h he
  have hz2 : ¬ (((stlR (evenI y)).length : Int) ≠ ((stlR (evenI y)).length : Int)) := fun h => h rfl
  have hz3 : ¬ (¬ (CheckP (evenI y) (stlR (evenI y)))) := by rw [hs]; exact fun h => h hck
  refine wc_seq ?_
  refine wc_region ?_
  refine wl_ex (ex_assign rfl) rfl rfl ?_
  refine wl_nil ?_
  refine pe_seq ?_
  refine wc_seq ?_
  refine wc_seq ?_
  refine wc_region ?_
  refine wl_callV [] rfl ok_11 rfl (fun w hm => c_sane  w   ) rfl ?_
  refine wl_ex (ex_notb rfl) rfl rfl ?_
  refine wl_nil ?_
  refine pe_seq ?_
  refine wc_iff rfl ?_
  refine wc_skip ?_
  refine pe_seq ?_
  refine wc_seq ?_
  refine wc_region ?_
  refine wl_ex (ex_move rfl) rfl rfl ?_
  refine wl_callS [.tmp 12] rfl ok_26 rfl (fun w hm => c_Even Ay cy y w (((sl_arg hy rfl)).at hm)  (by first | assumption)) rfl fun A1 c2 => ?_
  refine wl_ex (ex_assign rfl) rfl rfl ?_
  refine wl_nil ?_
  refine pe_seq ?_
  refine wc_seq ?_
  refine wc_region ?_
  refine wl_ex (ex_move rfl) rfl rfl ?_
  refine wl_callS2 [.tmp 15] rfl ok_30 rfl (fun w hm => c_Settle A1 c2 (evenI y) w (((sl_own (.head _ _))).at hm)  (by first | assumption | omega)) rfl fun A3 c4 => ?_
  refine wl_ex (ex_move rfl) rfl rfl ?_
  refine wl_ex (ex_extract rfl rfl) rfl rfl ?_
  refine wl_ex (ex_extract rfl rfl) rfl rfl ?_
  refine wl_ex (ex_assign rfl) rfl rfl ?_
  refine wl_ex (ex_assign rfl) rfl rfl ?_
  refine wl_nil ?_
  refine pe_seq ?_
  refine wc_seq ?_
  refine wc_region ?_
  refine wl_ex (ex_move rfl) rfl rfl ?_
  refine wl_callV [.tmp 20] rfl ok_28 rfl (fun w hm => c_Fewest A1 c2 (evenI y) w (((sl_own (.tail (.head _ _)))).at hm)  (by first | assumption | omega)) rfl ?_
  refine wl_ex (ex_move rfl) rfl rfl ?_
  refine wl_ex (ex_extract rfl rfl) rfl rfl ?_
  refine wl_ex (ex_extract rfl rfl) rfl rfl ?_
  refine wl_ex (ex_assign rfl) rfl rfl ?_
  refine wl_ex (ex_assign rfl) rfl rfl ?_
  refine wl_nil ?_
  refine pe_seq ?_
  refine wc_seq ?_
  refine wc_seq ?_
  refine wc_region ?_
  refine wl_ex (ex_move rfl) rfl rfl ?_
  refine wl_ex (ex_neq rfl rfl) rfl rfl ?_
  refine wl_ex (ex_move rfl) rfl rfl ?_
  refine wl_pass rfl rfl rfl (decide_eq_false hz1) ?_
  refine wl_ex (ex_move rfl) rfl rfl ?_
  refine wl_pass rfl rfl rfl (decide_eq_false hz1) ?_
  refine wl_ex (ex_neq rfl rfl) rfl rfl ?_
  refine wl_ex (ex_pickf rfl (decide_eq_false hz1) rfl) rfl rfl ?_
  refine wl_ex (ex_move rfl) rfl rfl ?_
  refine wl_pass rfl rfl rfl (decide_eq_false hz1) ?_
  refine wl_ex (ex_move rfl) rfl rfl ?_
  refine wl_pass rfl rfl rfl (decide_eq_false hz1) ?_
  refine wl_ex (ex_len Try.underlying24 rfl) rfl rfl ?_
  refine wl_pass rfl rfl rfl (decide_eq_false hz1) ?_
  refine wl_ex (ex_move rfl) rfl rfl ?_
  refine wl_pass rfl rfl rfl (decide_eq_false hz1) ?_
  refine wl_ex (ex_neq rfl rfl) rfl rfl ?_
  refine wl_ex (ex_pickf rfl (decide_eq_false hz1) rfl) rfl rfl ?_
  refine wl_ex (ex_move rfl) rfl rfl ?_
  refine wl_pass rfl rfl rfl (decide_eq_false hz2) ?_
  refine wl_ex (ex_move rfl) rfl rfl ?_
  refine wl_pass rfl rfl rfl (decide_eq_false hz2) ?_
  refine wl_ex (ex_move rfl) rfl rfl ?_
  refine wl_pass rfl rfl rfl (decide_eq_false hz2) ?_
  refine wl_callV [.tmp 37, .tmp 38] rfl ok_31 rfl (fun w hm => c_Check A1 c2 (evenI y) A3 c4 (stlR (evenI y)) w (((sl_own (.tail (.head _ _)))).at hm) (((sl_own (.head _ _))).at hm)  (by first | assumption | omega) (by first | assumption | omega)) rfl ?_
  refine wl_pass rfl rfl rfl (decide_eq_false hz2) ?_
  refine wl_ex (ex_not rfl) rfl rfl ?_
  refine wl_ex (ex_pickf rfl (decide_eq_false hz2) rfl) rfl rfl ?_
  refine wl_nil ?_
  refine pe_seq ?_
  refine wc_ite rfl (fun c41 => absurd c41 hz3) (fun c41 => ?_)
  refine wc_skip ?_
  refine pe_seq ?_
  refine wc_seq ?_
  refine wc_seq ?_
  refine wc_region ?_
  refine wl_ex (ex_assign rfl) rfl rfl ?_
  refine wl_nil ?_
  refine pe_seq ?_
  refine wc_block ?_
  refine wc_loop (σ := Int) (fun s => [(8, .int .i64 s), (4, .slice A3 ((stlR (evenI y)).length) c4)]) (fun s => [.own A3 ((stlR (evenI y)).length) c4 47 3 (encs encD (stlR (evenI y))), .own A1 ((evenI y).length) c2 3 1 (encs encI (evenI y))]) (fun s => 0 ≤ s ∧ s ≤ ((stlR (evenI y)).length : Int)) (fun s => (((stlR (evenI y)).length : Int) - s).toNat) (0 : Int) (Sub.cons rfl rfl (Sub.cons rfl rfl (Sub.nil _))) (.cons (.head _ _) rfl (.cons (.head _ _) rfl (.nil _))) (by simp) ?_
  rintro i hG
  show WC _ _ _ [(8, .int .i64 i), (4, .slice A3 ((stlR (evenI y)).length) c4)] [.own A3 ((stlR (evenI y)).length) c4 47 3 (encs encD (stlR (evenI y))), .own A1 ((evenI y).length) c2 3 1 (encs encI (evenI y))]
  replace hG : 0 ≤ i ∧ i ≤ ((stlR (evenI y)).length : Int) := hG
  obtain ⟨h1, h2⟩ := hG
  refine wc_seq ?_
  refine wc_seq ?_
  refine wc_region ?_
  refine wl_ex (ex_move rfl) rfl rfl ?_
  refine wl_ex (ex_move rfl) rfl rfl ?_
  refine wl_ex (ex_len Try.underlying24 rfl) rfl rfl ?_
  refine wl_ex (ex_lss rfl rfl) rfl rfl ?_
  refine wl_nil ?_
  refine pe_seq ?_
  refine wc_ite rfl (fun c45 => ?_) (fun c45 => ?_)
  · refine wc_skip ?_
    refine pe_seq ?_
    refine wc_seq ?_
    refine wc_block ?_
    refine wc_seq ?_
    refine wc_region ?_
    refine wl_ex (ex_assign rfl) rfl rfl ?_
    refine wl_nil ?_
    refine pe_seq ?_
    refine wc_block ?_
    refine wc_loop (σ := Int) (fun s => [(9, .int .i64 s), (4, .slice A3 ((stlR (evenI y)).length) c4), (8, .int .i64 i)]) (fun s => [.own A3 ((stlR (evenI y)).length) c4 47 3 (encs encD (stlR (evenI y))), .own A1 ((evenI y).length) c2 3 1 (encs encI (evenI y))]) (fun s => 0 ≤ s ∧ s ≤ ((stlR (evenI y)).length : Int)) (fun s => (((stlR (evenI y)).length : Int) - s).toNat) (0 : Int) (Sub.cons rfl rfl (Sub.cons rfl rfl (Sub.cons rfl rfl (Sub.nil _)))) (.cons (.head _ _) rfl (.cons (.head _ _) rfl (.nil _))) (by simp) ?_
    rintro k hG
    show WC _ _ _ [(9, .int .i64 k), (4, .slice A3 ((stlR (evenI y)).length) c4), (8, .int .i64 i)] [.own A3 ((stlR (evenI y)).length) c4 47 3 (encs encD (stlR (evenI y))), .own A1 ((evenI y).length) c2 3 1 (encs encI (evenI y))]
    replace hG : 0 ≤ k ∧ k ≤ ((stlR (evenI y)).length : Int) := hG
    obtain ⟨h3, h4⟩ := hG
    refine wc_seq ?_
    refine wc_seq ?_
    refine wc_region ?_
    refine wl_ex (ex_move rfl) rfl rfl ?_
    refine wl_ex (ex_move rfl) rfl rfl ?_
    refine wl_ex (ex_len Try.underlying24 rfl) rfl rfl ?_
    refine wl_ex (ex_lss rfl rfl) rfl rfl ?_
    refine wl_nil ?_
    refine pe_seq ?_
    refine wc_ite rfl (fun c51 => ?_) (fun c51 => ?_)
    · refine wc_skip ?_
      refine pe_seq ?_
      refine wc_seq ?_
      refine wc_block ?_
      refine wc_seq ?_
      refine wc_draw [.own A3 ((stlR (evenI y)).length) c4 47 3 (encs encD (stlR (evenI y))), .own A1 ((evenI y).length) c2 3 1 (encs encI (evenI y))] [(0, true), (1, true), (2, true), (3, true), (4, true), (5, true), (6, true), (7, true), (8, true), (9, true), (10, true)] mixed (by kernel_rfl) (.cons (.head _ _) rfl (.cons (.head _ _) rfl (.nil _))) ?_
      refine cn_ex rfl (ex_move rfl) rfl rfl ?_
      refine cn_ex rfl (ex_move rfl) rfl rfl ?_
      refine cn_ex rfl (ex_indexAddr rfl rfl Try.underlying24 sz_47 (sl_own (.head _ _)) (by omega) (by omega) (enc_pos encD_len (by omega))) rfl rfl ?_
      refine cn_ex rfl (ex_fieldAddr (off' := oOf A3 + (i).toNat * 3 + 0) rfl Try.underlying47 rfl sz_3 rfl rfl) rfl rfl ?_
      obtain ⟨d_stlR_evenI_y__i, hd_stlR_evenI_y__i⟩ := get_if (stlR (evenI y)) i
      refine cn_ex rfl (ex_load rfl ag_3 (rd_enc (j := 0) encD_len (sl_own (.head _ _)) (hd_stlR_evenI_y__i (by omega) (by omega)) rfl)) rfl rfl ?_
      refine cn_ex rfl (ex_move rfl) rfl rfl ?_
      refine cn_ex rfl (ex_move rfl) rfl rfl ?_
      refine cn_ex rfl (ex_indexAddr rfl rfl Try.underlying24 sz_47 (sl_own (.head _ _)) (by omega) (by omega) (enc_pos encD_len (by omega))) rfl rfl ?_
      refine cn_ex rfl (ex_fieldAddr (off' := oOf A3 + (k).toNat * 3 + 1) rfl Try.underlying47 rfl sz_3 rfl rfl) rfl rfl ?_
      obtain ⟨d_stlR_evenI_y__k, hd_stlR_evenI_y__k⟩ := get_if (stlR (evenI y)) k
      refine cn_ex rfl (ex_load rfl ag_3 (rd_enc (j := 1) encD_len (sl_own (.head _ _)) (hd_stlR_evenI_y__k (by omega) (by omega)) rfl)) rfl rfl ?_
      refine cn_ex rfl (ex_eql rfl rfl) rfl rfl ?_
      refine cn_nil ?_
      refine pe_seq ?_
      refine wc_ite rfl (fun c64 => ?_) (fun c64 => ?_)
      · have hma := mem_at (hd_stlR_evenI_y__i (by omega) (by omega))
        have hmb := mem_at (hd_stlR_evenI_y__k (by omega) (by omega))
        rw [hs] at hma hmb
        exact absurd c64 (stl_sides hg hma hmb)
      · refine wc_skip ?_
        refine pe_block _ ?_
        refine pe_seq ?_
        refine wc_region ?_
        refine wl_ex (ex_move rfl) rfl rfl ?_
        refine wl_ex (ex_add rfl rfl (by omega) (by omega)) rfl rfl ?_
        refine wl_ex (ex_assign rfl) rfl rfl ?_
        refine wl_nil ?_
        refine pe_again (k + 1) (Sub.cons rfl rfl (Sub.cons rfl rfl (Sub.cons rfl rfl (Sub.nil _)))) (.cons (.head _ _) rfl (.cons (.head _ _) rfl (.nil _))) ?_ ?_
        · show 0 ≤ (k + 1) ∧ (k + 1) ≤ ((stlR (evenI y)).length : Int)
          refine ⟨?_, ?_⟩ <;> omega
        · first | omega | (simp only []; omega)
    · refine wc_exit ?_
      refine pe_seq_exit ?_
      refine pe_loop_exit ?_
      refine pe_block_exit ?_
      refine pe_block _ ?_
      refine pe_seq ?_
      refine wc_region ?_
      refine wl_ex (ex_move rfl) rfl rfl ?_
      refine wl_ex (ex_add rfl rfl (by omega) (by omega)) rfl rfl ?_
      refine wl_ex (ex_assign rfl) rfl rfl ?_
      refine wl_nil ?_
      refine pe_again (i + 1) (Sub.cons rfl rfl (Sub.cons rfl rfl (Sub.nil _))) (.cons (.head _ _) rfl (.cons (.head _ _) rfl (.nil _))) ?_ ?_
      · show 0 ≤ (i + 1) ∧ (i + 1) ≤ ((stlR (evenI y)).length : Int)
        refine ⟨?_, ?_⟩ <;> omega
      · first | omega | (simp only []; omega)
  · refine wc_exit ?_
    refine pe_seq_exit ?_
    refine pe_loop_exit ?_
    refine pe_block_exit ?_
    refine pe_seq ?_
    refine wc_seq ?_
    refine wc_region ?_
    refine wl_ex (ex_assign rfl) rfl rfl ?_
    refine wl_nil ?_
    refine pe_seq ?_
    refine wc_ret ?_
    refine pe_ret1 rfl rfl rfl (fun w' hm => ⟨?_, hm.ent (.nil _)⟩)
    rfl

end Go.Proofs.Ytolfgdkdghhidaa
