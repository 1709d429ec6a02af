/- Walks. -/
import Derived.Test.YtolfgdkdghhidaaWx
import Derived.Test.YtolfgdkdghhidaaP39
import Derived.Test.YtolfgdkdghhidaaE13
set_option linter.unusedVariables false
set_option linter.unusedSimpArgs false
namespace Go.Proofs.Ytolfgdkdghhidaa
open Go Go.RowKit



theorem c_Groups (Ay : Option Addr) (cy : Nat) (y : List Int) (Az : Option Addr) (cz : Nat) (z : List Int) (w : World) (hy : Sl w Ay (encs encI y)) (hz : Sl w Az (encs encI z)) (hyk : ∀ n ∈ y, i64 n) (hzk : ∀ n ∈ z, i64 n) :
    Cl Try.prog 7 [.slice Ay y.length cy, .slice Az z.length cz] w (IsV (.bool true) w) := by
  refine cl_of Try.func7 rfl Try.ntmps7 rfl (Mem.refl w) ?_
  refine wc_seq ?_
  refine wc_region ?_
  refine wl_ex (ex_assign rfl) rfl rfl ?_
  refine wl_nil ?_
  refine pe_seq ?_
  refine wc_seq ?_
  refine wc_seq ?_
  refine wc_region ?_
  refine wl_callV [] rfl ok_11 rfl (fun w hm => c_sane  w   ) rfl ?_
  refine wl_ex (ex_notb rfl) rfl rfl ?_
  refine wl_nil ?_
  refine pe_seq ?_
  refine wc_iff rfl ?_
  refine wc_skip ?_
  refine pe_seq ?_
  refine wc_seq ?_
  refine wc_region ?_
  refine wl_make (n := 8) rfl rfl Try.underlying25 sz_3 ze_3 rfl by_3 (by omega) (by omega) rfl fun r1 => ?_
  rw [rep_enc]
  refine wl_ex (ex_assign rfl) rfl rfl ?_
  refine wl_nil ?_
  refine pe_seq ?_
  refine wc_seq ?_
  refine wc_region ?_
  refine wl_ex (ex_assign rfl) rfl rfl ?_
  refine wl_nil ?_
  refine pe_seq ?_
  refine wc_seq ?_
  refine wc_seq ?_
  refine wc_region ?_
  refine wl_ex (ex_assign rfl) rfl rfl ?_
  refine wl_nil ?_
  refine pe_seq ?_
  refine wc_block ?_
  refine wc_loop (σ := Int × (List Int)) (fun s => [(7, .int .i64 s.1), (0, .slice Ay y.length cy), (1, .slice Az z.length cz), (5, .slice (some ⟨r1, 0, none⟩) 8 8), (6, .int .i64 0)]) (fun s => [.own (some ⟨r1, 0, none⟩) 8 8 3 1 (encs encI s.2)]) (fun s => (0 ≤ s.1 ∧ s.1 ≤ 3) ∧ s.2 = gb y z s.1.toNat) (fun s => (3 - s.1).toNat) ((0 : Int), List.replicate 8 0) (Sub.cons rfl rfl (Sub.cons rfl rfl (Sub.cons rfl rfl (Sub.cons rfl rfl (Sub.cons rfl rfl (Sub.nil _)))))) (.cons (.head _ _) (by first | rfl | simp) (.nil _)) (by exact ⟨by omega, rfl⟩) ?_
  rintro ⟨i, bq⟩ hG
  show WC _ _ _ [(7, .int .i64 i), (0, .slice Ay y.length cy), (1, .slice Az z.length cz), (5, .slice (some ⟨r1, 0, none⟩) 8 8), (6, .int .i64 0)] [.own (some ⟨r1, 0, none⟩) 8 8 3 1 (encs encI bq)]
  replace hG : (0 ≤ i ∧ i ≤ 3) ∧ bq = gb y z i.toNat := hG
  obtain ⟨h1, h2⟩ := hG
  have hbl : bq.length = 8 := by rw [h2]; rfl
  have hbd : Within 18 bq := by rw [h2]; exact gb_bd y z _
  refine wc_seq ?_
  refine wc_seq ?_
  refine wc_region ?_
  refine wl_ex (ex_move rfl) rfl rfl ?_
  refine wl_ex (ex_lss rfl rfl) rfl rfl ?_
  refine wl_nil ?_
  refine pe_seq ?_
  refine wc_ite rfl (fun c22 => ?_) (fun c22 => ?_)
  · refine wc_skip ?_
    refine pe_seq ?_
    refine wc_seq ?_
    refine wc_block ?_
    refine wc_seq ?_
    refine wc_seq ?_
    refine wc_region ?_
    refine wl_ex (ex_move rfl) rfl rfl ?_
    refine wl_ex (ex_move rfl) rfl rfl ?_
    refine wl_ex (ex_len Try.underlying25 rfl) rfl rfl ?_
    refine wl_ex (ex_lss rfl rfl) rfl rfl ?_
    refine wl_nil ?_
    refine pe_seq ?_
    refine wc_cutE (σ := (List Int)) (fun s => [(0, .slice Ay y.length cy), (1, .slice Az z.length cz), (5, .slice (some ⟨r1, 0, none⟩) 8 8), (6, .int .i64 0), (7, .int .i64 i)]) (fun s => [.own (some ⟨r1, 0, none⟩) 8 8 3 1 (encs encI s)]) (fun s => s = stA y i.toNat bq i.toNat) ?_ ?_
    · refine wc_ite rfl (fun c28 => ?_) (fun c28 => ?_)
      · refine wc_region ?_
        refine wl_ex (ex_move rfl) rfl rfl ?_
        refine wl_ex (ex_move rfl) rfl rfl ?_
        refine wl_ex (ex_move rfl) rfl rfl ?_
        refine wl_ex (ex_move rfl) rfl rfl ?_
        refine wl_ex (ex_indexAddr rfl rfl Try.underlying25 sz_3 (sl_arg hy rfl) (by omega) (by omega) (enc_pos encI_len (by omega))) rfl rfl ?_
        obtain ⟨d_y_i, hd_y_i⟩ := get_if y i
        refine wl_ex (ex_load rfl ag_3 (rd_int (sl_arg hy rfl) (hd_y_i (by omega) (by omega)))) rfl rfl ?_
        have hyo := hyk _ (mem_at (hd_y_i (by omega) (by omega)))
        unfold i64 at hyo
        refine wl_callV [.tmp 34, .const (.int .i64 13)] rfl ok_34 rfl (fun w hm => c_pickL d_y_i 13 w   (by omega) (by omega)) rfl ?_
        have hp1 := pick_bd d_y_i 13 (by omega)
        refine wl_ex (ex_sub rfl rfl (by omega) (by omega)) rfl rfl ?_
        refine wl_ex (ex_indexAddrN rfl rfl rfl Try.underlying25 sz_3 (by omega) (by omega)) rfl rfl ?_
        refine wl_storeI rfl rfl sz_3 (.head _ _) (by omega) (by omega) ?_
        refine wl_nil ?_
        refine pe_cut (bq.set (i).toNat ((pickI d_y_i 13) - 6)) (Sub.cons rfl rfl (Sub.cons rfl rfl (Sub.cons rfl rfl (Sub.cons rfl rfl (Sub.cons rfl rfl (Sub.nil _)))))) (.cons (.head _ _) (by first | rfl | simp) (.nil _)) ?_
        exact (stA_yes (hd_y_i (by omega) (by omega)) _ _).symm
      · refine wc_skip ?_
        refine pe_cut bq (Sub.cons rfl rfl (Sub.cons rfl rfl (Sub.cons rfl rfl (Sub.cons rfl rfl (Sub.cons rfl rfl (Sub.nil _)))))) (.cons (.head _ _) (by first | rfl | simp) (.nil _)) ?_
        exact (stA_no (by omega) _ _).symm
    · rintro b1 hG
      show PE _ _ _ [(0, .slice Ay y.length cy), (1, .slice Az z.length cz), (5, .slice (some ⟨r1, 0, none⟩) 8 8), (6, .int .i64 0), (7, .int .i64 i)] [.own (some ⟨r1, 0, none⟩) 8 8 3 1 (encs encI b1)]
      replace hG : b1 = stA y i.toNat bq i.toNat := hG
      have hs1 := hG
      have hb1l : b1.length = 8 := by rw [hs1, stA_len]; exact hbl
      have hb1d : Within 18 b1 := by rw [hs1]; exact stA_within _ _ _ hbd
      refine pe_seq ?_
      refine wc_seq ?_
      refine wc_seq ?_
      refine wc_region ?_
      refine wl_ex (ex_move rfl) rfl rfl ?_
      refine wl_ex (ex_move rfl) rfl rfl ?_
      refine wl_ex (ex_len Try.underlying25 rfl) rfl rfl ?_
      refine wl_ex (ex_lss rfl rfl) rfl rfl ?_
      refine wl_nil ?_
      refine pe_seq ?_
      refine wc_cutE (σ := (List Int)) (fun s => [(0, .slice Ay y.length cy), (1, .slice Az z.length cz), (5, .slice (some ⟨r1, 0, none⟩) 8 8), (6, .int .i64 0), (7, .int .i64 i)]) (fun s => [.own (some ⟨r1, 0, none⟩) 8 8 3 1 (encs encI s)]) (fun s => s = stA z i.toNat b1 (4 + i.toNat)) ?_ ?_
      · refine wc_ite rfl (fun c41 => ?_) (fun c41 => ?_)
        · refine wc_region ?_
          refine wl_ex (ex_move rfl) rfl rfl ?_
          refine wl_ex (ex_move rfl) rfl rfl ?_
          refine wl_ex (ex_add rfl rfl (by omega) (by omega)) rfl rfl ?_
          refine wl_ex (ex_move rfl) rfl rfl ?_
          refine wl_ex (ex_move rfl) rfl rfl ?_
          refine wl_ex (ex_indexAddr rfl rfl Try.underlying25 sz_3 (sl_arg hz rfl) (by omega) (by omega) (enc_pos encI_len (by omega))) rfl rfl ?_
          obtain ⟨d_z_i, hd_z_i⟩ := get_if z i
          refine wl_ex (ex_load rfl ag_3 (rd_int (sl_arg hz rfl) (hd_z_i (by omega) (by omega)))) rfl rfl ?_
          have hzo := hzk _ (mem_at (hd_z_i (by omega) (by omega)))
          unfold i64 at hzo
          refine wl_callV [.tmp 48, .const (.int .i64 13)] rfl ok_34 rfl (fun w hm => c_pickL d_z_i 13 w   (by omega) (by omega)) rfl ?_
          have hp2 := pick_bd d_z_i 13 (by omega)
          refine wl_ex (ex_sub rfl rfl (by omega) (by omega)) rfl rfl ?_
          refine wl_ex (ex_indexAddrN rfl rfl rfl Try.underlying25 sz_3 (by omega) (by omega)) rfl rfl ?_
          refine wl_storeI rfl rfl sz_3 (.head _ _) (by omega) (by omega) ?_
          refine wl_nil ?_
          refine pe_cut (b1.set (4 + i).toNat ((pickI d_z_i 13) - 6)) (Sub.cons rfl rfl (Sub.cons rfl rfl (Sub.cons rfl rfl (Sub.cons rfl rfl (Sub.cons rfl rfl (Sub.nil _)))))) (.cons (.head _ _) (by first | rfl | simp) (.nil _)) ?_
          rw [show (4 + i).toNat = 4 + i.toNat by omega]; exact (stA_yes (hd_z_i (by omega) (by omega)) _ _).symm
        · refine wc_skip ?_
          refine pe_cut b1 (Sub.cons rfl rfl (Sub.cons rfl rfl (Sub.cons rfl rfl (Sub.cons rfl rfl (Sub.cons rfl rfl (Sub.nil _)))))) (.cons (.head _ _) (by first | rfl | simp) (.nil _)) ?_
          exact (stA_no (by omega) _ _).symm
      · rintro b2 hG
        show PE _ _ _ [(0, .slice Ay y.length cy), (1, .slice Az z.length cz), (5, .slice (some ⟨r1, 0, none⟩) 8 8), (6, .int .i64 0), (7, .int .i64 i)] [.own (some ⟨r1, 0, none⟩) 8 8 3 1 (encs encI b2)]
        replace hG : b2 = stA z i.toNat b1 (4 + i.toNat) := hG
        have hs2 := hG
        have hb2l : b2.length = 8 := by rw [hs2, stA_len]; exact hb1l
        have hb2d : Within 18 b2 := by rw [hs2]; exact stA_within _ _ _ hb1d
        refine pe_seq ?_
        refine wc_seq ?_
        obtain ⟨d_b2_3, hd_b2_3⟩ := get_if b2 3
        obtain ⟨d_b2_i, hd_b2_i⟩ := get_if b2 i
        refine wc_mix [.own (some ⟨r1, 0, none⟩) 8 8 3 1 (encs encI b2)] [] (fun i => match i with  | _ => ⟨0, Unit, fun _ => True, fun _ => undef, fun _ => []⟩) [(0, true), (1, true), (2, true), (3, true), (4, true), (5, true), (6, true), (7, true), (8, true), (9, true)] [(10, false)] mixed (by kernel_rfl) (.cons (.head _ _) rfl (.nil _)) (.nil _) ?_
        refine cm_ex rfl (ex_move rfl) rfl rfl ?_
        refine cm_ex rfl (ex_move rfl) rfl rfl ?_
        refine cm_ex rfl (ex_indexAddrN rfl rfl rfl Try.underlying25 sz_3 (by omega) (by omega)) rfl rfl ?_
        refine cm_ex rfl (ex_load rfl ag_3 (rd_int (sl_own (.head _ _)) (hd_b2_3 (by omega) (by omega)))) rfl rfl ?_
        refine cm_ex rfl (ex_move rfl) rfl rfl ?_
        refine cm_ex rfl (ex_move rfl) rfl rfl ?_
        refine cm_ex rfl (ex_indexAddrN rfl rfl rfl Try.underlying25 sz_3 (by omega) (by omega)) rfl rfl ?_
        refine cm_ex rfl (ex_load rfl ag_3 (rd_int (sl_own (.head _ _)) (hd_b2_i (by omega) (by omega)))) rfl rfl ?_
        have hw3 := hb2d _ (mem_at (hd_b2_3 (by omega) (by omega)))
        have hwi := hb2d _ (mem_at (hd_b2_i (by omega) (by omega)))
        refine cm_ex rfl (ex_sub rfl rfl (by omega) (by omega)) rfl rfl ?_
        refine cm_ex rfl (ex_indexAddrN rfl rfl rfl Try.underlying25 sz_3 (by omega) (by omega)) rfl rfl ?_
        refine cm_nil ?_
        refine cn_tail rfl ?_
        refine wl_storeI rfl rfl sz_3 (.head _ _) (by omega) (by omega) ?_
        generalize hb3 : b2.set (3 : Int).toNat (d_b2_3 - d_b2_i) = b3
        have hb3l : b3.length = 8 := by rw [← hb3, List.length_set]; exact hb2l
        have hb3d : Within 36 b3 := by rw [← hb3]; exact within_set (within_mono hb2d (by omega)) (by omega) _
        refine cn_back (.nil _) ?_
        refine cn_nil ?_
        refine pe_seq ?_
        obtain ⟨d_b3_7, hd_b3_7⟩ := get_if b3 7
        obtain ⟨d_b3_4_i, hd_b3_4_i⟩ := get_if b3 (4 + i)
        refine wc_mix [.own (some ⟨r1, 0, none⟩) 8 8 3 1 (encs encI b3)] [] (fun i => match i with  | _ => ⟨0, Unit, fun _ => True, fun _ => undef, fun _ => []⟩) [(0, true), (1, true), (2, true), (3, true), (4, true), (5, true), (6, true), (7, true), (8, true), (9, true), (10, true)] [(11, false)] mixed (by kernel_rfl) (.cons (.head _ _) rfl (.nil _)) (.nil _) ?_
        refine cm_ex rfl (ex_move rfl) rfl rfl ?_
        refine cm_ex rfl (ex_move rfl) rfl rfl ?_
        refine cm_ex rfl (ex_indexAddrN rfl rfl rfl Try.underlying25 sz_3 (by omega) (by omega)) rfl rfl ?_
        refine cm_ex rfl (ex_load rfl ag_3 (rd_int (sl_own (.head _ _)) (hd_b3_7 (by omega) (by omega)))) rfl rfl ?_
        refine cm_ex rfl (ex_move rfl) rfl rfl ?_
        refine cm_ex rfl (ex_move rfl) rfl rfl ?_
        refine cm_ex rfl (ex_add rfl rfl (by omega) (by omega)) rfl rfl ?_
        refine cm_ex rfl (ex_indexAddrN rfl rfl rfl Try.underlying25 sz_3 (by omega) (by omega)) rfl rfl ?_
        refine cm_ex rfl (ex_load rfl ag_3 (rd_int (sl_own (.head _ _)) (hd_b3_4_i (by omega) (by omega)))) rfl rfl ?_
        have hw7 := hb3d _ (mem_at (hd_b3_7 (by omega) (by omega)))
        have hw4 := hb3d _ (mem_at (hd_b3_4_i (by omega) (by omega)))
        refine cm_ex rfl (ex_sub rfl rfl (by omega) (by omega)) rfl rfl ?_
        refine cm_ex rfl (ex_indexAddrN rfl rfl rfl Try.underlying25 sz_3 (by omega) (by omega)) rfl rfl ?_
        refine cm_nil ?_
        refine cn_tail rfl ?_
        refine wl_storeI rfl rfl sz_3 (.head _ _) (by omega) (by omega) ?_
        refine cn_back (.nil _) ?_
        refine cn_nil ?_
        refine pe_block _ ?_
        refine pe_seq ?_
        refine wc_region ?_
        refine wl_ex (ex_move rfl) rfl rfl ?_
        refine wl_ex (ex_add rfl rfl (by omega) (by omega)) rfl rfl ?_
        refine wl_ex (ex_assign rfl) rfl rfl ?_
        refine wl_nil ?_
        refine pe_again ⟨i + 1, b3.set (7 : Int).toNat (d_b3_7 - d_b3_4_i)⟩ (Sub.cons rfl rfl (Sub.cons rfl rfl (Sub.cons rfl rfl (Sub.cons rfl rfl (Sub.cons rfl rfl (Sub.nil _)))))) (.cons (.head _ _) (by first | rfl | simp) (.nil _)) ?_ ?_
        · show (0 ≤ (i + 1) ∧ (i + 1) ≤ 3) ∧ (b3.set (7 : Int).toNat (d_b3_7 - d_b3_4_i)) = gb y z (i + 1).toNat
          refine ⟨by omega, ?_⟩
          have hp := hd_b3_7 (by omega) (by omega)
          have hq := hd_b3_4_i (by omega) (by omega)
          rw [← hb3] at hp hq
          rw [← hb3]
          rw [show (4 + i).toNat = 4 + i.toNat by omega] at hq
          rw [h2] at hs1
          rw [show (i + 1).toNat = i.toNat + 1 by omega]
          exact grp_step (by omega) hs1 hs2 (hd_b2_3 (by omega) (by omega)) (hd_b2_i (by omega) (by omega)) hp hq
        · first | omega | (simp only []; omega)
  · have hbq : bq = gb y z 3 := by rw [h2, show i.toNat = 3 by omega]
    subst hbq
    have hbd : Within 18 (gb y z 3) := gb_bd y z 3
    refine wc_exit ?_
    refine pe_seq_exit ?_
    refine pe_loop_exit ?_
    refine pe_block_exit ?_
    refine pe_seq ?_
    refine wc_seq ?_
    refine wc_region ?_
    refine wl_make (n := 8) rfl rfl Try.underlying25 sz_3 ze_3 rfl by_3 (by omega) (by omega) rfl fun r2 => ?_
    rw [rep_enc]
    refine wl_ex (ex_assign rfl) rfl rfl ?_
    refine wl_nil ?_
    refine pe_seq ?_
    refine wc_seq ?_
    refine wc_region ?_
    refine wl_make (n := 8) rfl rfl Try.underlying25 sz_3 ze_3 rfl by_3 (by omega) (by omega) rfl fun r3 => ?_
    rw [rep_enc]
    refine wl_ex (ex_assign rfl) rfl rfl ?_
    refine wl_nil ?_
    refine pe_seq ?_
    refine wc_seq ?_
    refine wc_region ?_
    refine wl_ex (ex_assign rfl) rfl rfl ?_
    refine wl_nil ?_
    refine pe_seq ?_
    refine wc_seq ?_
    refine wc_seq ?_
    refine wc_region ?_
    refine wl_ex (ex_assign rfl) rfl rfl ?_
    refine wl_nil ?_
    refine pe_seq ?_
    refine wc_block ?_
    refine wc_loop (σ := Int) (fun s => [(6, .int .i64 ((cntP (fun c => (gb y z 3).getD c 0 ≠ 0) s.toNat : Nat) : Int)), (10, .int .i64 ((cntP (fun c => (gb y z 3).getD c 0 < 0) s.toNat : Nat) : Int)), (11, .int .i64 s), (5, .slice (some ⟨r1, 0, none⟩) 8 8), (8, .slice (some ⟨r2, 0, none⟩) 8 8), (9, .slice (some ⟨r3, 0, none⟩) 8 8)]) (fun s => [.own (some ⟨r3, 0, none⟩) 8 8 3 1 (encs encI (twoT (gb y z 3) s.toNat)), .own (some ⟨r2, 0, none⟩) 8 8 3 1 (encs encI (oneT (gb y z 3) s.toNat)), .own (some ⟨r1, 0, none⟩) 8 8 3 1 (encs encI (gb y z 3))]) (fun s => 0 ≤ s ∧ s ≤ 8) (fun s => (8 - s).toNat) (0 : Int) (Sub.cons rfl rfl (Sub.cons rfl rfl (Sub.cons rfl rfl (Sub.cons rfl rfl (Sub.cons rfl rfl (Sub.cons rfl rfl (Sub.nil _))))))) (.cons (.head _ _) (by first | rfl | simp) (.cons (.head _ _) (by first | rfl | simp) (.cons (.head _ _) rfl (.nil _)))) (by omega) ?_
    rintro k hG
    show WC _ _ _ [(6, .int .i64 ((cntP (fun c => (gb y z 3).getD c 0 ≠ 0) k.toNat : Nat) : Int)), (10, .int .i64 ((cntP (fun c => (gb y z 3).getD c 0 < 0) k.toNat : Nat) : Int)), (11, .int .i64 k), (5, .slice (some ⟨r1, 0, none⟩) 8 8), (8, .slice (some ⟨r2, 0, none⟩) 8 8), (9, .slice (some ⟨r3, 0, none⟩) 8 8)] [.own (some ⟨r3, 0, none⟩) 8 8 3 1 (encs encI (twoT (gb y z 3) k.toNat)), .own (some ⟨r2, 0, none⟩) 8 8 3 1 (encs encI (oneT (gb y z 3) k.toNat)), .own (some ⟨r1, 0, none⟩) 8 8 3 1 (encs encI (gb y z 3))]
    replace hG : 0 ≤ k ∧ k ≤ 8 := hG
    obtain ⟨k1, k2⟩ := hG
    have hgl : (gb y z 3).length = 8 := rfl
    have ho8 : (oneT (gb y z 3) k.toNat).length = 8 := map8_len _
    have ht8 : (twoT (gb y z 3) k.toNat).length = 8 := map8_len _
    have hc8 := cntP_le (fun c => (gb y z 3).getD c 0 ≠ 0) k.toNat
    have hc9 := cntP_le (fun c => (gb y z 3).getD c 0 < 0) k.toNat
    refine wc_seq ?_
    refine wc_seq ?_
    refine wc_region ?_
    refine wl_ex (ex_move rfl) rfl rfl ?_
    refine wl_ex (ex_move rfl) rfl rfl ?_
    refine wl_ex (ex_len Try.underlying25 rfl) rfl rfl ?_
    refine wl_ex (ex_lss rfl rfl) rfl rfl ?_
    refine wl_nil ?_
    refine pe_seq ?_
    refine wc_ite rfl (fun c78 => ?_) (fun c78 => ?_)
    · refine wc_skip ?_
      refine pe_seq ?_
      refine wc_seq ?_
      refine wc_block ?_
      refine wc_seq ?_
      refine wc_seq ?_
      refine wc_region ?_
      refine wl_ex (ex_move rfl) rfl rfl ?_
      refine wl_ex (ex_lss rfl rfl) rfl rfl ?_
      refine wl_nil ?_
      refine pe_seq ?_
      refine wc_ite rfl (fun c82 => ?_) (fun c82 => ?_)
      · refine wc_region ?_
        refine wl_ex (ex_move rfl) rfl rfl ?_
        refine wl_ex (ex_move rfl) rfl rfl ?_
        refine wl_ex (ex_move rfl) rfl rfl ?_
        refine wl_ex (ex_move rfl) rfl rfl ?_
        refine wl_ex (ex_indexAddrN rfl rfl rfl Try.underlying25 sz_3 (by omega) (by omega)) rfl rfl ?_
        obtain ⟨d_gb_y_z_3__k, hd_gb_y_z_3__k⟩ := get_if (gb y z 3) k
        refine wl_ex (ex_load rfl ag_3 (rd_int (sl_own (.tail (.tail (.head _ _)))) (hd_gb_y_z_3__k (by omega) (by omega)))) rfl rfl ?_
        refine wl_ex (ex_indexAddrN rfl rfl rfl Try.underlying25 sz_3 (by omega) (by omega)) rfl rfl ?_
        refine wl_storeI rfl rfl sz_3 (.tail (.head _ _)) (by omega) (by omega) ?_
        refine wl_nil ?_
        refine pe_seq ?_
        refine wc_seq ?_
        refine wc_seq ?_
        refine wc_region ?_
        refine wl_ex (ex_move rfl) rfl rfl ?_
        refine wl_ex (ex_move rfl) rfl rfl ?_
        refine wl_ex (ex_indexAddrN rfl rfl rfl Try.underlying25 sz_3 (by omega) (by omega)) rfl rfl ?_
        refine wl_ex (ex_load rfl ag_3 (rd_int (sl_own (.tail (.tail (.head _ _)))) (hd_gb_y_z_3__k (by omega) (by omega)))) rfl rfl ?_
        refine wl_ex (ex_neq rfl rfl) rfl rfl ?_
        refine wl_nil ?_
        refine pe_seq ?_
        refine wc_ite rfl (fun c101 => ?_) (fun c101 => ?_)
        · refine wc_region ?_
          refine wl_ex (ex_move rfl) rfl rfl ?_
          refine wl_ex (ex_add rfl rfl (by omega) (by omega)) rfl rfl ?_
          refine wl_ex (ex_assign rfl) rfl rfl ?_
          refine wl_nil ?_
          refine pe_seq ?_
          refine wc_seq ?_
          refine wc_region ?_
          refine wl_ex (ex_move rfl) rfl rfl ?_
          refine wl_ex (ex_move rfl) rfl rfl ?_
          refine wl_ex (ex_indexAddrN rfl rfl rfl Try.underlying25 sz_3 (by omega) (by omega)) rfl rfl ?_
          refine wl_ex (ex_load rfl ag_3 (rd_int (sl_own (.tail (.tail (.head _ _)))) (hd_gb_y_z_3__k (by omega) (by omega)))) rfl rfl ?_
          refine wl_ex (ex_lss rfl rfl) rfl rfl ?_
          refine wl_nil ?_
          refine pe_seq ?_
          refine wc_ite rfl (fun c108 => ?_) (fun c108 => ?_)
          · refine wc_region ?_
            refine wl_ex (ex_move rfl) rfl rfl ?_
            refine wl_ex (ex_add rfl rfl (by omega) (by omega)) rfl rfl ?_
            refine wl_ex (ex_assign rfl) rfl rfl ?_
            refine wl_nil ?_
            refine pe_block _ ?_
            refine pe_seq ?_
            refine wc_region ?_
            refine wl_ex (ex_move rfl) rfl rfl ?_
            refine wl_ex (ex_add rfl rfl (by omega) (by omega)) rfl rfl ?_
            refine wl_ex (ex_assign rfl) rfl rfl ?_
            refine wl_nil ?_
            refine pe_again (k + 1) (Sub.cons rfl (congrArg (Value.int .i64) (by rw [show (k + 1).toNat = k.toNat + 1 by omega, cntP_yes (fun c => (gb y z 3).getD c 0 ≠ 0) (by show (gb y z 3).getD k.toNat 0 ≠ 0; rw [getD_of (hd_gb_y_z_3__k (by omega) (by omega))]; exact c101)]; omega)) (Sub.cons rfl (congrArg (Value.int .i64) (by rw [show (k + 1).toNat = k.toNat + 1 by omega, cntP_yes (fun c => (gb y z 3).getD c 0 < 0) (by show (gb y z 3).getD k.toNat 0 < 0; rw [getD_of (hd_gb_y_z_3__k (by omega) (by omega))]; exact c108)]; omega)) (Sub.cons rfl rfl (Sub.cons rfl rfl (Sub.cons rfl rfl (Sub.cons rfl rfl (Sub.nil _))))))) (.cons (.tail (.head _ _)) (by rw [show (k + 1).toNat = k.toNat + 1 by omega, ← twoT_skip (by omega)]) (.cons (.head _ _) (by rw [show (k + 1).toNat = k.toNat + 1 by omega, ← oneT_step (hd_gb_y_z_3__k (by omega) (by omega)) (by omega)]) (.cons (.head _ _) rfl (.nil _)))) ?_ ?_
            · show 0 ≤ (k + 1) ∧ (k + 1) ≤ 8
              refine ⟨?_, ?_⟩ <;> omega
            · first | omega | (simp only []; omega)
          · refine wc_skip ?_
            refine pe_block _ ?_
            refine pe_seq ?_
            refine wc_region ?_
            refine wl_ex (ex_move rfl) rfl rfl ?_
            refine wl_ex (ex_add rfl rfl (by omega) (by omega)) rfl rfl ?_
            refine wl_ex (ex_assign rfl) rfl rfl ?_
            refine wl_nil ?_
            refine pe_again (k + 1) (Sub.cons rfl (congrArg (Value.int .i64) (by rw [show (k + 1).toNat = k.toNat + 1 by omega, cntP_yes (fun c => (gb y z 3).getD c 0 ≠ 0) (by show (gb y z 3).getD k.toNat 0 ≠ 0; rw [getD_of (hd_gb_y_z_3__k (by omega) (by omega))]; exact c101)]; omega)) (Sub.cons rfl (congrArg (Value.int .i64) (by rw [show (k + 1).toNat = k.toNat + 1 by omega, cntP_no (fun c => (gb y z 3).getD c 0 < 0) (by show ¬ (gb y z 3).getD k.toNat 0 < 0; rw [getD_of (hd_gb_y_z_3__k (by omega) (by omega))]; exact c108)])) (Sub.cons rfl rfl (Sub.cons rfl rfl (Sub.cons rfl rfl (Sub.cons rfl rfl (Sub.nil _))))))) (.cons (.tail (.head _ _)) (by rw [show (k + 1).toNat = k.toNat + 1 by omega, ← twoT_skip (by omega)]) (.cons (.head _ _) (by rw [show (k + 1).toNat = k.toNat + 1 by omega, ← oneT_step (hd_gb_y_z_3__k (by omega) (by omega)) (by omega)]) (.cons (.head _ _) rfl (.nil _)))) ?_ ?_
            · show 0 ≤ (k + 1) ∧ (k + 1) ≤ 8
              refine ⟨?_, ?_⟩ <;> omega
            · first | omega | (simp only []; omega)
        · refine wc_skip ?_
          refine pe_seq ?_
          refine wc_seq ?_
          refine wc_region ?_
          refine wl_ex (ex_move rfl) rfl rfl ?_
          refine wl_ex (ex_move rfl) rfl rfl ?_
          refine wl_ex (ex_indexAddrN rfl rfl rfl Try.underlying25 sz_3 (by omega) (by omega)) rfl rfl ?_
          refine wl_ex (ex_load rfl ag_3 (rd_int (sl_own (.tail (.tail (.head _ _)))) (hd_gb_y_z_3__k (by omega) (by omega)))) rfl rfl ?_
          refine wl_ex (ex_lss rfl rfl) rfl rfl ?_
          refine wl_nil ?_
          refine pe_seq ?_
          refine wc_ite rfl (fun c108 => ?_) (fun c108 => ?_)
          · refine wc_region ?_
            refine wl_ex (ex_move rfl) rfl rfl ?_
            refine wl_ex (ex_add rfl rfl (by omega) (by omega)) rfl rfl ?_
            refine wl_ex (ex_assign rfl) rfl rfl ?_
            refine wl_nil ?_
            refine pe_block _ ?_
            refine pe_seq ?_
            refine wc_region ?_
            refine wl_ex (ex_move rfl) rfl rfl ?_
            refine wl_ex (ex_add rfl rfl (by omega) (by omega)) rfl rfl ?_
            refine wl_ex (ex_assign rfl) rfl rfl ?_
            refine wl_nil ?_
            refine pe_again (k + 1) (Sub.cons rfl (congrArg (Value.int .i64) (by rw [show (k + 1).toNat = k.toNat + 1 by omega, cntP_no (fun c => (gb y z 3).getD c 0 ≠ 0) (by show ¬ (gb y z 3).getD k.toNat 0 ≠ 0; rw [getD_of (hd_gb_y_z_3__k (by omega) (by omega))]; exact c101)])) (Sub.cons rfl (congrArg (Value.int .i64) (by rw [show (k + 1).toNat = k.toNat + 1 by omega, cntP_yes (fun c => (gb y z 3).getD c 0 < 0) (by show (gb y z 3).getD k.toNat 0 < 0; rw [getD_of (hd_gb_y_z_3__k (by omega) (by omega))]; exact c108)]; omega)) (Sub.cons rfl rfl (Sub.cons rfl rfl (Sub.cons rfl rfl (Sub.cons rfl rfl (Sub.nil _))))))) (.cons (.tail (.head _ _)) (by rw [show (k + 1).toNat = k.toNat + 1 by omega, ← twoT_skip (by omega)]) (.cons (.head _ _) (by rw [show (k + 1).toNat = k.toNat + 1 by omega, ← oneT_step (hd_gb_y_z_3__k (by omega) (by omega)) (by omega)]) (.cons (.head _ _) rfl (.nil _)))) ?_ ?_
            · show 0 ≤ (k + 1) ∧ (k + 1) ≤ 8
              refine ⟨?_, ?_⟩ <;> omega
            · first | omega | (simp only []; omega)
          · refine wc_skip ?_
            refine pe_block _ ?_
            refine pe_seq ?_
            refine wc_region ?_
            refine wl_ex (ex_move rfl) rfl rfl ?_
            refine wl_ex (ex_add rfl rfl (by omega) (by omega)) rfl rfl ?_
            refine wl_ex (ex_assign rfl) rfl rfl ?_
            refine wl_nil ?_
            refine pe_again (k + 1) (Sub.cons rfl (congrArg (Value.int .i64) (by rw [show (k + 1).toNat = k.toNat + 1 by omega, cntP_no (fun c => (gb y z 3).getD c 0 ≠ 0) (by show ¬ (gb y z 3).getD k.toNat 0 ≠ 0; rw [getD_of (hd_gb_y_z_3__k (by omega) (by omega))]; exact c101)])) (Sub.cons rfl (congrArg (Value.int .i64) (by rw [show (k + 1).toNat = k.toNat + 1 by omega, cntP_no (fun c => (gb y z 3).getD c 0 < 0) (by show ¬ (gb y z 3).getD k.toNat 0 < 0; rw [getD_of (hd_gb_y_z_3__k (by omega) (by omega))]; exact c108)])) (Sub.cons rfl rfl (Sub.cons rfl rfl (Sub.cons rfl rfl (Sub.cons rfl rfl (Sub.nil _))))))) (.cons (.tail (.head _ _)) (by rw [show (k + 1).toNat = k.toNat + 1 by omega, ← twoT_skip (by omega)]) (.cons (.head _ _) (by rw [show (k + 1).toNat = k.toNat + 1 by omega, ← oneT_step (hd_gb_y_z_3__k (by omega) (by omega)) (by omega)]) (.cons (.head _ _) rfl (.nil _)))) ?_ ?_
            · show 0 ≤ (k + 1) ∧ (k + 1) ≤ 8
              refine ⟨?_, ?_⟩ <;> omega
            · first | omega | (simp only []; omega)
      · refine wc_region ?_
        refine wl_ex (ex_move rfl) rfl rfl ?_
        refine wl_ex (ex_move rfl) rfl rfl ?_
        refine wl_ex (ex_move rfl) rfl rfl ?_
        refine wl_ex (ex_move rfl) rfl rfl ?_
        refine wl_ex (ex_indexAddrN rfl rfl rfl Try.underlying25 sz_3 (by omega) (by omega)) rfl rfl ?_
        obtain ⟨d_gb_y_z_3__k, hd_gb_y_z_3__k⟩ := get_if (gb y z 3) k
        refine wl_ex (ex_load rfl ag_3 (rd_int (sl_own (.tail (.tail (.head _ _)))) (hd_gb_y_z_3__k (by omega) (by omega)))) rfl rfl ?_
        refine wl_ex (ex_indexAddrN rfl rfl rfl Try.underlying25 sz_3 (by omega) (by omega)) rfl rfl ?_
        refine wl_storeI rfl rfl sz_3 (.head _ _) (by omega) (by omega) ?_
        refine wl_nil ?_
        refine pe_seq ?_
        refine wc_seq ?_
        refine wc_seq ?_
        refine wc_region ?_
        refine wl_ex (ex_move rfl) rfl rfl ?_
        refine wl_ex (ex_move rfl) rfl rfl ?_
        refine wl_ex (ex_indexAddrN rfl rfl rfl Try.underlying25 sz_3 (by omega) (by omega)) rfl rfl ?_
        refine wl_ex (ex_load rfl ag_3 (rd_int (sl_own (.tail (.tail (.head _ _)))) (hd_gb_y_z_3__k (by omega) (by omega)))) rfl rfl ?_
        refine wl_ex (ex_neq rfl rfl) rfl rfl ?_
        refine wl_nil ?_
        refine pe_seq ?_
        refine wc_ite rfl (fun c101 => ?_) (fun c101 => ?_)
        · refine wc_region ?_
          refine wl_ex (ex_move rfl) rfl rfl ?_
          refine wl_ex (ex_add rfl rfl (by omega) (by omega)) rfl rfl ?_
          refine wl_ex (ex_assign rfl) rfl rfl ?_
          refine wl_nil ?_
          refine pe_seq ?_
          refine wc_seq ?_
          refine wc_region ?_
          refine wl_ex (ex_move rfl) rfl rfl ?_
          refine wl_ex (ex_move rfl) rfl rfl ?_
          refine wl_ex (ex_indexAddrN rfl rfl rfl Try.underlying25 sz_3 (by omega) (by omega)) rfl rfl ?_
          refine wl_ex (ex_load rfl ag_3 (rd_int (sl_own (.tail (.tail (.head _ _)))) (hd_gb_y_z_3__k (by omega) (by omega)))) rfl rfl ?_
          refine wl_ex (ex_lss rfl rfl) rfl rfl ?_
          refine wl_nil ?_
          refine pe_seq ?_
          refine wc_ite rfl (fun c108 => ?_) (fun c108 => ?_)
          · refine wc_region ?_
            refine wl_ex (ex_move rfl) rfl rfl ?_
            refine wl_ex (ex_add rfl rfl (by omega) (by omega)) rfl rfl ?_
            refine wl_ex (ex_assign rfl) rfl rfl ?_
            refine wl_nil ?_
            refine pe_block _ ?_
            refine pe_seq ?_
            refine wc_region ?_
            refine wl_ex (ex_move rfl) rfl rfl ?_
            refine wl_ex (ex_add rfl rfl (by omega) (by omega)) rfl rfl ?_
            refine wl_ex (ex_assign rfl) rfl rfl ?_
            refine wl_nil ?_
            refine pe_again (k + 1) (Sub.cons rfl (congrArg (Value.int .i64) (by rw [show (k + 1).toNat = k.toNat + 1 by omega, cntP_yes (fun c => (gb y z 3).getD c 0 ≠ 0) (by show (gb y z 3).getD k.toNat 0 ≠ 0; rw [getD_of (hd_gb_y_z_3__k (by omega) (by omega))]; exact c101)]; omega)) (Sub.cons rfl (congrArg (Value.int .i64) (by rw [show (k + 1).toNat = k.toNat + 1 by omega, cntP_yes (fun c => (gb y z 3).getD c 0 < 0) (by show (gb y z 3).getD k.toNat 0 < 0; rw [getD_of (hd_gb_y_z_3__k (by omega) (by omega))]; exact c108)]; omega)) (Sub.cons rfl rfl (Sub.cons rfl rfl (Sub.cons rfl rfl (Sub.cons rfl rfl (Sub.nil _))))))) (.cons (.head _ _) (by rw [show (k + 1).toNat = k.toNat + 1 by omega, ← twoT_step (hd_gb_y_z_3__k (by omega) (by omega)) (by omega) (by omega)]) (.cons (.head _ _) (by rw [show (k + 1).toNat = k.toNat + 1 by omega, ← oneT_skip (by omega)]) (.cons (.head _ _) rfl (.nil _)))) ?_ ?_
            · show 0 ≤ (k + 1) ∧ (k + 1) ≤ 8
              refine ⟨?_, ?_⟩ <;> omega
            · first | omega | (simp only []; omega)
          · refine wc_skip ?_
            refine pe_block _ ?_
            refine pe_seq ?_
            refine wc_region ?_
            refine wl_ex (ex_move rfl) rfl rfl ?_
            refine wl_ex (ex_add rfl rfl (by omega) (by omega)) rfl rfl ?_
            refine wl_ex (ex_assign rfl) rfl rfl ?_
            refine wl_nil ?_
            refine pe_again (k + 1) (Sub.cons rfl (congrArg (Value.int .i64) (by rw [show (k + 1).toNat = k.toNat + 1 by omega, cntP_yes (fun c => (gb y z 3).getD c 0 ≠ 0) (by show (gb y z 3).getD k.toNat 0 ≠ 0; rw [getD_of (hd_gb_y_z_3__k (by omega) (by omega))]; exact c101)]; omega)) (Sub.cons rfl (congrArg (Value.int .i64) (by rw [show (k + 1).toNat = k.toNat + 1 by omega, cntP_no (fun c => (gb y z 3).getD c 0 < 0) (by show ¬ (gb y z 3).getD k.toNat 0 < 0; rw [getD_of (hd_gb_y_z_3__k (by omega) (by omega))]; exact c108)])) (Sub.cons rfl rfl (Sub.cons rfl rfl (Sub.cons rfl rfl (Sub.cons rfl rfl (Sub.nil _))))))) (.cons (.head _ _) (by rw [show (k + 1).toNat = k.toNat + 1 by omega, ← twoT_step (hd_gb_y_z_3__k (by omega) (by omega)) (by omega) (by omega)]) (.cons (.head _ _) (by rw [show (k + 1).toNat = k.toNat + 1 by omega, ← oneT_skip (by omega)]) (.cons (.head _ _) rfl (.nil _)))) ?_ ?_
            · show 0 ≤ (k + 1) ∧ (k + 1) ≤ 8
              refine ⟨?_, ?_⟩ <;> omega
            · first | omega | (simp only []; omega)
        · refine wc_skip ?_
          refine pe_seq ?_
          refine wc_seq ?_
          refine wc_region ?_
          refine wl_ex (ex_move rfl) rfl rfl ?_
          refine wl_ex (ex_move rfl) rfl rfl ?_
          refine wl_ex (ex_indexAddrN rfl rfl rfl Try.underlying25 sz_3 (by omega) (by omega)) rfl rfl ?_
          refine wl_ex (ex_load rfl ag_3 (rd_int (sl_own (.tail (.tail (.head _ _)))) (hd_gb_y_z_3__k (by omega) (by omega)))) rfl rfl ?_
          refine wl_ex (ex_lss rfl rfl) rfl rfl ?_
          refine wl_nil ?_
          refine pe_seq ?_
          refine wc_ite rfl (fun c108 => ?_) (fun c108 => ?_)
          · refine wc_region ?_
            refine wl_ex (ex_move rfl) rfl rfl ?_
            refine wl_ex (ex_add rfl rfl (by omega) (by omega)) rfl rfl ?_
            refine wl_ex (ex_assign rfl) rfl rfl ?_
            refine wl_nil ?_
            refine pe_block _ ?_
            refine pe_seq ?_
            refine wc_region ?_
            refine wl_ex (ex_move rfl) rfl rfl ?_
            refine wl_ex (ex_add rfl rfl (by omega) (by omega)) rfl rfl ?_
            refine wl_ex (ex_assign rfl) rfl rfl ?_
            refine wl_nil ?_
            refine pe_again (k + 1) (Sub.cons rfl (congrArg (Value.int .i64) (by rw [show (k + 1).toNat = k.toNat + 1 by omega, cntP_no (fun c => (gb y z 3).getD c 0 ≠ 0) (by show ¬ (gb y z 3).getD k.toNat 0 ≠ 0; rw [getD_of (hd_gb_y_z_3__k (by omega) (by omega))]; exact c101)])) (Sub.cons rfl (congrArg (Value.int .i64) (by rw [show (k + 1).toNat = k.toNat + 1 by omega, cntP_yes (fun c => (gb y z 3).getD c 0 < 0) (by show (gb y z 3).getD k.toNat 0 < 0; rw [getD_of (hd_gb_y_z_3__k (by omega) (by omega))]; exact c108)]; omega)) (Sub.cons rfl rfl (Sub.cons rfl rfl (Sub.cons rfl rfl (Sub.cons rfl rfl (Sub.nil _))))))) (.cons (.head _ _) (by rw [show (k + 1).toNat = k.toNat + 1 by omega, ← twoT_step (hd_gb_y_z_3__k (by omega) (by omega)) (by omega) (by omega)]) (.cons (.head _ _) (by rw [show (k + 1).toNat = k.toNat + 1 by omega, ← oneT_skip (by omega)]) (.cons (.head _ _) rfl (.nil _)))) ?_ ?_
            · show 0 ≤ (k + 1) ∧ (k + 1) ≤ 8
              refine ⟨?_, ?_⟩ <;> omega
            · first | omega | (simp only []; omega)
          · refine wc_skip ?_
            refine pe_block _ ?_
            refine pe_seq ?_
            refine wc_region ?_
            refine wl_ex (ex_move rfl) rfl rfl ?_
            refine wl_ex (ex_add rfl rfl (by omega) (by omega)) rfl rfl ?_
            refine wl_ex (ex_assign rfl) rfl rfl ?_
            refine wl_nil ?_
            refine pe_again (k + 1) (Sub.cons rfl (congrArg (Value.int .i64) (by rw [show (k + 1).toNat = k.toNat + 1 by omega, cntP_no (fun c => (gb y z 3).getD c 0 ≠ 0) (by show ¬ (gb y z 3).getD k.toNat 0 ≠ 0; rw [getD_of (hd_gb_y_z_3__k (by omega) (by omega))]; exact c101)])) (Sub.cons rfl (congrArg (Value.int .i64) (by rw [show (k + 1).toNat = k.toNat + 1 by omega, cntP_no (fun c => (gb y z 3).getD c 0 < 0) (by show ¬ (gb y z 3).getD k.toNat 0 < 0; rw [getD_of (hd_gb_y_z_3__k (by omega) (by omega))]; exact c108)])) (Sub.cons rfl rfl (Sub.cons rfl rfl (Sub.cons rfl rfl (Sub.cons rfl rfl (Sub.nil _))))))) (.cons (.head _ _) (by rw [show (k + 1).toNat = k.toNat + 1 by omega, ← twoT_step (hd_gb_y_z_3__k (by omega) (by omega)) (by omega) (by omega)]) (.cons (.head _ _) (by rw [show (k + 1).toNat = k.toNat + 1 by omega, ← oneT_skip (by omega)]) (.cons (.head _ _) rfl (.nil _)))) ?_ ?_
            · show 0 ≤ (k + 1) ∧ (k + 1) ≤ 8
              refine ⟨?_, ?_⟩ <;> omega
            · first | omega | (simp only []; omega)
    · have hk8 : k.toNat = 8 := by omega
      rw [hk8]
      have hg := gb_good y z 3
      obtain ⟨hg1, hg2, he1, he2⟩ := gb_parts y z
      have hp := stl_put hg hg1 hg2 he1 he2
      have hbs := stl_bounds hg
      have hnz := nzc_cnt hg.2.1
      have hr := stlR_good hg
      have hr1 := stlR_good hg1
      have hr2 := stlR_good hg2
      have hq : errI (gb y z 3) = 0 := if_pos hg
      have hq1 : errI (oneT (gb y z 3) 8) = 0 := if_pos hg1
      have hq2 : errI (twoT (gb y z 3) 8) = 0 := if_pos hg2
      rw [← hr] at hp hbs
      rw [← hr1, ← hr2] at hp
      have hc8 := cntP_le (fun c => (gb y z 3).getD c 0 ≠ 0) 8
      have hc9 := cntP_le (fun c => (gb y z 3).getD c 0 < 0) 8
      have hln : (stlR (gb y z 3)).length ≤ 8 := by have := hbs.2.2; omega
      have hl1 : (stlR (oneT (gb y z 3) 8)).length ≤ 8 := by have := (stl_bounds hg1).2.2; have := nzc_le (oneT (gb y z 3) 8); rw [hg1.2.1] at this; rw [hr1]; omega
      have hl2 : (stlR (twoT (gb y z 3) 8)).length ≤ 8 := by have := (stl_bounds hg2).2.2; have := nzc_le (twoT (gb y z 3) 8); rw [hg2.2.1] at this; rw [hr2]; omega
      have h8a : (gb y z 3).length ≤ 1000 := by rw [hg.2.1]; omega
      have h8b : (oneT (gb y z 3) 8).length ≤ 1000 := by rw [hg1.2.1]; omega
      have h8c : (twoT (gb y z 3) 8).length ≤ 1000 := by rw [hg2.2.1]; omega
      refine wc_exit ?_
      refine pe_seq_exit ?_
      refine pe_loop_exit ?_
      refine pe_block_exit ?_
      refine pe_seq ?_
      refine wc_seq ?_
      refine wc_region ?_
      refine wl_ex (ex_move rfl) rfl rfl ?_
      refine wl_callV [.tmp 112] rfl ok_28 rfl (fun w hm => c_Fewest (some ⟨r1, 0, none⟩) 8 (gb y z 3) w (((sl_own (.tail (.tail (.head _ _))))).at hm)  (by first | assumption | omega)) rfl ?_
      refine wl_ex (ex_move rfl) rfl rfl ?_
      refine wl_ex (ex_extract rfl rfl) rfl rfl ?_
      refine wl_ex (ex_extract rfl rfl) rfl rfl ?_
      refine wl_ex (ex_assign rfl) rfl rfl ?_
      refine wl_ex (ex_assign rfl) rfl rfl ?_
      refine wl_nil ?_
      refine pe_seq ?_
      refine wc_seq ?_
      refine wc_region ?_
      refine wl_ex (ex_move rfl) rfl rfl ?_
      refine wl_callV [.tmp 117] rfl ok_28 rfl (fun w hm => c_Fewest (some ⟨r2, 0, none⟩) 8 (oneT (gb y z 3) 8) w (((sl_own (.tail (.head _ _)))).at hm)  (by first | assumption | omega)) rfl ?_
      refine wl_ex (ex_move rfl) rfl rfl ?_
      refine wl_ex (ex_extract rfl rfl) rfl rfl ?_
      refine wl_ex (ex_extract rfl rfl) rfl rfl ?_
      refine wl_ex (ex_assign rfl) rfl rfl ?_
      refine wl_ex (ex_assign rfl) rfl rfl ?_
      refine wl_nil ?_
      refine pe_seq ?_
      refine wc_seq ?_
      refine wc_region ?_
      refine wl_ex (ex_move rfl) rfl rfl ?_
      refine wl_callV [.tmp 122] rfl ok_28 rfl (fun w hm => c_Fewest (some ⟨r3, 0, none⟩) 8 (twoT (gb y z 3) 8) w (((sl_own (.head _ _))).at hm)  (by first | assumption | omega)) rfl ?_
      refine wl_ex (ex_move rfl) rfl rfl ?_
      refine wl_ex (ex_extract rfl rfl) rfl rfl ?_
      refine wl_ex (ex_extract rfl rfl) rfl rfl ?_
      refine wl_ex (ex_assign rfl) rfl rfl ?_
      refine wl_ex (ex_assign rfl) rfl rfl ?_
      refine wl_nil ?_
      refine pe_seq ?_
      refine wc_seq ?_
      refine wc_cut (σ := Unit) (fun _ => [(6, .int .i64 ((cntP (fun c => (gb y z 3).getD c 0 ≠ 0) 8 : Nat) : Int)), (12, .int .i64 ((stlR (gb y z 3)).length : Int)), (154, .bool (decide ((((((errI (gb y z 3) ≠ 0) ∨ (errI (oneT (gb y z 3) 8) ≠ 0)) ∨ (errI (twoT (gb y z 3) 8) ≠ 0)) ∨ (((stlR (oneT (gb y z 3) 8)).length : Int) + ((stlR (twoT (gb y z 3) 8)).length : Int) < ((stlR (gb y z 3)).length : Int))) ∨ (((stlR (gb y z 3)).length : Int) < ((cntP (fun c => (gb y z 3).getD c 0 < 0) 8 : Nat) : Int))) ∨ (((stlR (gb y z 3)).length : Int) < ((cntP (fun c => (gb y z 3).getD c 0 ≠ 0) 8 : Nat) : Int) - ((cntP (fun c => (gb y z 3).getD c 0 < 0) 8 : Nat) : Int)))))]) (fun _ => [.own (some ⟨r3, 0, none⟩) 8 8 3 1 (encs encI (twoT (gb y z 3) 8)), .own (some ⟨r2, 0, none⟩) 8 8 3 1 (encs encI (oneT (gb y z 3) 8)), .own (some ⟨r1, 0, none⟩) 8 8 3 1 (encs encI (gb y z 3))]) (fun _ => True) ?_ ?_
      · refine wc_region ?_
        refine wl_ex (ex_move rfl) rfl rfl ?_
        refine wl_ex (ex_neq rfl rfl) rfl rfl ?_
        refine wl_ex (ex_move rfl) rfl rfl ?_
        by_cases g4 : errI (gb y z 3) ≠ 0
        · refine wl_skip rfl rfl rfl (fun h => of_decide_eq_false (Value.bool.inj h) g4) rfl rfl ?_
          refine wl_skip rfl rfl rfl (fun h => of_decide_eq_false (Value.bool.inj h) g4) rfl rfl ?_
          refine wl_ex (ex_pickt rfl (decide_eq_true g4) rfl) rfl rfl ?_
          refine wl_ex (ex_move rfl) rfl rfl ?_
          refine wl_skip rfl rfl rfl (by simp) rfl rfl ?_
          refine wl_skip rfl rfl rfl (by simp) rfl rfl ?_
          refine wl_ex (ex_pickt rfl rfl rfl) rfl rfl ?_
          refine wl_ex (ex_move rfl) rfl rfl ?_
          refine wl_skip rfl rfl rfl (by simp) rfl rfl ?_
          refine wl_skip rfl rfl rfl (by simp) rfl rfl ?_
          refine wl_skip rfl rfl rfl (by simp) rfl rfl ?_
          refine wl_skip rfl rfl rfl (by simp) rfl rfl ?_
          refine wl_skip rfl rfl rfl (by simp) rfl rfl ?_
          refine wl_ex (ex_pickt rfl rfl rfl) rfl rfl ?_
          refine wl_ex (ex_move rfl) rfl rfl ?_
          refine wl_skip rfl rfl rfl (by simp) rfl rfl ?_
          refine wl_skip rfl rfl rfl (by simp) rfl rfl ?_
          refine wl_skip rfl rfl rfl (by simp) rfl rfl ?_
          refine wl_ex (ex_pickt rfl rfl rfl) rfl rfl ?_
          refine wl_ex (ex_move rfl) rfl rfl ?_
          refine wl_skip rfl rfl rfl (by simp) rfl rfl ?_
          refine wl_skip rfl rfl rfl (by simp) rfl rfl ?_
          refine wl_skip rfl rfl rfl (by simp) rfl rfl ?_
          refine wl_skip rfl rfl rfl (by simp) rfl rfl ?_
          refine wl_skip rfl rfl rfl (by simp) rfl rfl ?_
          refine wl_ex (ex_pickt rfl rfl rfl) rfl rfl ?_
          refine wl_nil ?_
          refine pe_cut () (Sub.cons rfl rfl (Sub.cons rfl rfl (Sub.cons rfl (congrArg Value.bool (by first | (simp [g4]; done) | grind)) (Sub.nil _)))) (.cons (.head _ _) rfl (.cons (.head _ _) rfl (.cons (.head _ _) rfl (.nil _)))) trivial
        · refine wl_pass rfl rfl rfl (decide_eq_false g4) ?_
          refine wl_ex (ex_move rfl) rfl rfl ?_
          refine wl_pass rfl rfl rfl (decide_eq_false g4) ?_
          refine wl_ex (ex_neq rfl rfl) rfl rfl ?_
          refine wl_ex (ex_pickf rfl (decide_eq_false g4) rfl) rfl rfl ?_
          refine wl_ex (ex_move rfl) rfl rfl ?_
          by_cases g5 : errI (oneT (gb y z 3) 8) ≠ 0
          · refine wl_skip rfl rfl rfl (fun h => of_decide_eq_false (Value.bool.inj h) g5) rfl rfl ?_
            refine wl_skip rfl rfl rfl (fun h => of_decide_eq_false (Value.bool.inj h) g5) rfl rfl ?_
            refine wl_ex (ex_pickt rfl (decide_eq_true g5) rfl) rfl rfl ?_
            refine wl_ex (ex_move rfl) rfl rfl ?_
            refine wl_skip rfl rfl rfl (by simp) rfl rfl ?_
            refine wl_skip rfl rfl rfl (by simp) rfl rfl ?_
            refine wl_skip rfl rfl rfl (by simp) rfl rfl ?_
            refine wl_skip rfl rfl rfl (by simp) rfl rfl ?_
            refine wl_skip rfl rfl rfl (by simp) rfl rfl ?_
            refine wl_ex (ex_pickt rfl rfl rfl) rfl rfl ?_
            refine wl_ex (ex_move rfl) rfl rfl ?_
            refine wl_skip rfl rfl rfl (by simp) rfl rfl ?_
            refine wl_skip rfl rfl rfl (by simp) rfl rfl ?_
            refine wl_skip rfl rfl rfl (by simp) rfl rfl ?_
            refine wl_ex (ex_pickt rfl rfl rfl) rfl rfl ?_
            refine wl_ex (ex_move rfl) rfl rfl ?_
            refine wl_skip rfl rfl rfl (by simp) rfl rfl ?_
            refine wl_skip rfl rfl rfl (by simp) rfl rfl ?_
            refine wl_skip rfl rfl rfl (by simp) rfl rfl ?_
            refine wl_skip rfl rfl rfl (by simp) rfl rfl ?_
            refine wl_skip rfl rfl rfl (by simp) rfl rfl ?_
            refine wl_ex (ex_pickt rfl rfl rfl) rfl rfl ?_
            refine wl_nil ?_
            refine pe_cut () (Sub.cons rfl rfl (Sub.cons rfl rfl (Sub.cons rfl (congrArg Value.bool (by first | (simp [g4, g5]; done) | grind)) (Sub.nil _)))) (.cons (.head _ _) rfl (.cons (.head _ _) rfl (.cons (.head _ _) rfl (.nil _)))) trivial
          · refine wl_pass rfl rfl rfl (decide_eq_false g5) ?_
            refine wl_ex (ex_move rfl) rfl rfl ?_
            refine wl_pass rfl rfl rfl (decide_eq_false g5) ?_
            refine wl_ex (ex_neq rfl rfl) rfl rfl ?_
            refine wl_ex (ex_pickf rfl (decide_eq_false g5) rfl) rfl rfl ?_
            refine wl_ex (ex_move rfl) rfl rfl ?_
            by_cases g6 : errI (twoT (gb y z 3) 8) ≠ 0
            · refine wl_skip rfl rfl rfl (fun h => of_decide_eq_false (Value.bool.inj h) g6) rfl rfl ?_
              refine wl_skip rfl rfl rfl (fun h => of_decide_eq_false (Value.bool.inj h) g6) rfl rfl ?_
              refine wl_skip rfl rfl rfl (fun h => of_decide_eq_false (Value.bool.inj h) g6) rfl rfl ?_
              refine wl_skip rfl rfl rfl (fun h => of_decide_eq_false (Value.bool.inj h) g6) rfl rfl ?_
              refine wl_skip rfl rfl rfl (fun h => of_decide_eq_false (Value.bool.inj h) g6) rfl rfl ?_
              refine wl_ex (ex_pickt rfl (decide_eq_true g6) rfl) rfl rfl ?_
              refine wl_ex (ex_move rfl) rfl rfl ?_
              refine wl_skip rfl rfl rfl (by simp) rfl rfl ?_
              refine wl_skip rfl rfl rfl (by simp) rfl rfl ?_
              refine wl_skip rfl rfl rfl (by simp) rfl rfl ?_
              refine wl_ex (ex_pickt rfl rfl rfl) rfl rfl ?_
              refine wl_ex (ex_move rfl) rfl rfl ?_
              refine wl_skip rfl rfl rfl (by simp) rfl rfl ?_
              refine wl_skip rfl rfl rfl (by simp) rfl rfl ?_
              refine wl_skip rfl rfl rfl (by simp) rfl rfl ?_
              refine wl_skip rfl rfl rfl (by simp) rfl rfl ?_
              refine wl_skip rfl rfl rfl (by simp) rfl rfl ?_
              refine wl_ex (ex_pickt rfl rfl rfl) rfl rfl ?_
              refine wl_nil ?_
              refine pe_cut () (Sub.cons rfl rfl (Sub.cons rfl rfl (Sub.cons rfl (congrArg Value.bool (by first | (simp [g4, g5, g6]; done) | grind)) (Sub.nil _)))) (.cons (.head _ _) rfl (.cons (.head _ _) rfl (.cons (.head _ _) rfl (.nil _)))) trivial
            · refine wl_pass rfl rfl rfl (decide_eq_false g6) ?_
              refine wl_ex (ex_move rfl) rfl rfl ?_
              refine wl_pass rfl rfl rfl (decide_eq_false g6) ?_
              refine wl_ex (ex_move rfl) rfl rfl ?_
              refine wl_pass rfl rfl rfl (decide_eq_false g6) ?_
              refine wl_ex (ex_move rfl) rfl rfl ?_
              refine wl_pass rfl rfl rfl (decide_eq_false g6) ?_
              refine wl_ex (ex_add rfl rfl (by omega) (by omega)) rfl rfl ?_
              refine wl_pass rfl rfl rfl (decide_eq_false g6) ?_
              refine wl_ex (ex_gtr rfl rfl) rfl rfl ?_
              refine wl_ex (ex_pickf rfl (decide_eq_false g6) rfl) rfl rfl ?_
              refine wl_ex (ex_move rfl) rfl rfl ?_
              by_cases g7 : ((stlR (oneT (gb y z 3) 8)).length : Int) + ((stlR (twoT (gb y z 3) 8)).length : Int) < ((stlR (gb y z 3)).length : Int)
              · refine wl_skip rfl rfl rfl (fun h => of_decide_eq_false (Value.bool.inj h) g7) rfl rfl ?_
                refine wl_skip rfl rfl rfl (fun h => of_decide_eq_false (Value.bool.inj h) g7) rfl rfl ?_
                refine wl_skip rfl rfl rfl (fun h => of_decide_eq_false (Value.bool.inj h) g7) rfl rfl ?_
                refine wl_ex (ex_pickt rfl (decide_eq_true g7) rfl) rfl rfl ?_
                refine wl_ex (ex_move rfl) rfl rfl ?_
                refine wl_skip rfl rfl rfl (by simp) rfl rfl ?_
                refine wl_skip rfl rfl rfl (by simp) rfl rfl ?_
                refine wl_skip rfl rfl rfl (by simp) rfl rfl ?_
                refine wl_skip rfl rfl rfl (by simp) rfl rfl ?_
                refine wl_skip rfl rfl rfl (by simp) rfl rfl ?_
                refine wl_ex (ex_pickt rfl rfl rfl) rfl rfl ?_
                refine wl_nil ?_
                refine pe_cut () (Sub.cons rfl rfl (Sub.cons rfl rfl (Sub.cons rfl (congrArg Value.bool (by first | (simp [g4, g5, g6, g7]; done) | grind)) (Sub.nil _)))) (.cons (.head _ _) rfl (.cons (.head _ _) rfl (.cons (.head _ _) rfl (.nil _)))) trivial
              · refine wl_pass rfl rfl rfl (decide_eq_false g7) ?_
                refine wl_ex (ex_move rfl) rfl rfl ?_
                refine wl_pass rfl rfl rfl (decide_eq_false g7) ?_
                refine wl_ex (ex_move rfl) rfl rfl ?_
                refine wl_pass rfl rfl rfl (decide_eq_false g7) ?_
                refine wl_ex (ex_lss rfl rfl) rfl rfl ?_
                refine wl_ex (ex_pickf rfl (decide_eq_false g7) rfl) rfl rfl ?_
                refine wl_ex (ex_move rfl) rfl rfl ?_
                by_cases g8 : ((stlR (gb y z 3)).length : Int) < ((cntP (fun c => (gb y z 3).getD c 0 < 0) 8 : Nat) : Int)
                · refine wl_skip rfl rfl rfl (fun h => of_decide_eq_false (Value.bool.inj h) g8) rfl rfl ?_
                  refine wl_skip rfl rfl rfl (fun h => of_decide_eq_false (Value.bool.inj h) g8) rfl rfl ?_
                  refine wl_skip rfl rfl rfl (fun h => of_decide_eq_false (Value.bool.inj h) g8) rfl rfl ?_
                  refine wl_skip rfl rfl rfl (fun h => of_decide_eq_false (Value.bool.inj h) g8) rfl rfl ?_
                  refine wl_skip rfl rfl rfl (fun h => of_decide_eq_false (Value.bool.inj h) g8) rfl rfl ?_
                  refine wl_ex (ex_pickt rfl (decide_eq_true g8) rfl) rfl rfl ?_
                  refine wl_nil ?_
                  refine pe_cut () (Sub.cons rfl rfl (Sub.cons rfl rfl (Sub.cons rfl (congrArg Value.bool (by first | (simp [g4, g5, g6, g7, g8]; done) | grind)) (Sub.nil _)))) (.cons (.head _ _) rfl (.cons (.head _ _) rfl (.cons (.head _ _) rfl (.nil _)))) trivial
                · refine wl_pass rfl rfl rfl (decide_eq_false g8) ?_
                  refine wl_ex (ex_move rfl) rfl rfl ?_
                  refine wl_pass rfl rfl rfl (decide_eq_false g8) ?_
                  refine wl_ex (ex_move rfl) rfl rfl ?_
                  refine wl_pass rfl rfl rfl (decide_eq_false g8) ?_
                  refine wl_ex (ex_move rfl) rfl rfl ?_
                  refine wl_pass rfl rfl rfl (decide_eq_false g8) ?_
                  refine wl_ex (ex_sub rfl rfl (by omega) (by omega)) rfl rfl ?_
                  refine wl_pass rfl rfl rfl (decide_eq_false g8) ?_
                  refine wl_ex (ex_lss rfl rfl) rfl rfl ?_
                  refine wl_ex (ex_pickf rfl (decide_eq_false g8) rfl) rfl rfl ?_
                  refine wl_nil ?_
                  refine pe_cut () (Sub.cons rfl rfl (Sub.cons rfl rfl (Sub.cons rfl (congrArg Value.bool (by first | (simp [g4, g5, g6, g7, g8]; done) | grind)) (Sub.nil _)))) (.cons (.head _ _) rfl (.cons (.head _ _) rfl (.cons (.head _ _) rfl (.nil _)))) trivial
      · rintro _ _
        show WC _ _ _ [(6, .int .i64 ((cntP (fun c => (gb y z 3).getD c 0 ≠ 0) 8 : Nat) : Int)), (12, .int .i64 ((stlR (gb y z 3)).length : Int)), (154, .bool (decide ((((((errI (gb y z 3) ≠ 0) ∨ (errI (oneT (gb y z 3) 8) ≠ 0)) ∨ (errI (twoT (gb y z 3) 8) ≠ 0)) ∨ (((stlR (oneT (gb y z 3) 8)).length : Int) + ((stlR (twoT (gb y z 3) 8)).length : Int) < ((stlR (gb y z 3)).length : Int))) ∨ (((stlR (gb y z 3)).length : Int) < ((cntP (fun c => (gb y z 3).getD c 0 < 0) 8 : Nat) : Int))) ∨ (((stlR (gb y z 3)).length : Int) < ((cntP (fun c => (gb y z 3).getD c 0 ≠ 0) 8 : Nat) : Int) - ((cntP (fun c => (gb y z 3).getD c 0 < 0) 8 : Nat) : Int)))))] [.own (some ⟨r3, 0, none⟩) 8 8 3 1 (encs encI (twoT (gb y z 3) 8)), .own (some ⟨r2, 0, none⟩) 8 8 3 1 (encs encI (oneT (gb y z 3) 8)), .own (some ⟨r1, 0, none⟩) 8 8 3 1 (encs encI (gb y z 3))]
        refine wc_ite rfl (fun c154 => ?_) (fun c154 => ?_)
        · exfalso; omega
        · refine wc_skip ?_
          refine pe_seq ?_
          refine wc_cut (σ := Unit) (fun _ => [(4, .bool (decide (((((cntP (fun c => (gb y z 3).getD c 0 ≠ 0) 8 : Nat) : Int) = 0) ∧ (((stlR (gb y z 3)).length : Int) = 0)) ∨ (((stlR (gb y z 3)).length : Int) < ((cntP (fun c => (gb y z 3).getD c 0 ≠ 0) 8 : Nat) : Int)))))]) (fun _ => [.own (some ⟨r3, 0, none⟩) 8 8 3 1 (encs encI (twoT (gb y z 3) 8)), .own (some ⟨r2, 0, none⟩) 8 8 3 1 (encs encI (oneT (gb y z 3) 8)), .own (some ⟨r1, 0, none⟩) 8 8 3 1 (encs encI (gb y z 3))]) (fun _ => True) ?_ ?_
          · refine wc_region ?_
            refine wl_ex (ex_move rfl) rfl rfl ?_
            refine wl_ex (ex_eql rfl rfl) rfl rfl ?_
            refine wl_ex (ex_move rfl) rfl rfl ?_
            by_cases g9 : ((cntP (fun c => (gb y z 3).getD c 0 ≠ 0) 8 : Nat) : Int) = 0
            · refine wl_pass rfl rfl rfl (decide_eq_true g9) ?_
              refine wl_ex (ex_move rfl) rfl rfl ?_
              refine wl_pass rfl rfl rfl (decide_eq_true g9) ?_
              refine wl_ex (ex_eql rfl rfl) rfl rfl ?_
              refine wl_ex (ex_pickt rfl (decide_eq_true g9) rfl) rfl rfl ?_
              refine wl_ex (ex_move rfl) rfl rfl ?_
              by_cases g10 : ((stlR (gb y z 3)).length : Int) = 0
              · refine wl_skip rfl rfl rfl (fun h => of_decide_eq_false (Value.bool.inj h) g10) rfl rfl ?_
                refine wl_skip rfl rfl rfl (fun h => of_decide_eq_false (Value.bool.inj h) g10) rfl rfl ?_
                refine wl_skip rfl rfl rfl (fun h => of_decide_eq_false (Value.bool.inj h) g10) rfl rfl ?_
                refine wl_ex (ex_pickt rfl (decide_eq_true g10) rfl) rfl rfl ?_
                refine wl_ex (ex_assign rfl) rfl rfl ?_
                refine wl_nil ?_
                refine pe_cut () (Sub.cons rfl (congrArg Value.bool (by first | (simp [g9, g10]; done) | grind)) (Sub.nil _)) (.cons (.head _ _) rfl (.cons (.head _ _) rfl (.cons (.head _ _) rfl (.nil _)))) trivial
              · refine wl_pass rfl rfl rfl (decide_eq_false g10) ?_
                refine wl_ex (ex_move rfl) rfl rfl ?_
                refine wl_pass rfl rfl rfl (decide_eq_false g10) ?_
                refine wl_ex (ex_move rfl) rfl rfl ?_
                refine wl_pass rfl rfl rfl (decide_eq_false g10) ?_
                refine wl_ex (ex_lss rfl rfl) rfl rfl ?_
                refine wl_ex (ex_pickf rfl (decide_eq_false g10) rfl) rfl rfl ?_
                refine wl_ex (ex_assign rfl) rfl rfl ?_
                refine wl_nil ?_
                refine pe_cut () (Sub.cons rfl (congrArg Value.bool (by first | (simp [g9, g10]; done) | grind)) (Sub.nil _)) (.cons (.head _ _) rfl (.cons (.head _ _) rfl (.cons (.head _ _) rfl (.nil _)))) trivial
            · refine wl_skip rfl rfl rfl (fun h => g9 (of_decide_eq_true (Value.bool.inj h))) rfl rfl ?_
              refine wl_skip rfl rfl rfl (fun h => g9 (of_decide_eq_true (Value.bool.inj h))) rfl rfl ?_
              refine wl_ex (ex_pickf rfl (decide_eq_false g9) rfl) rfl rfl ?_
              refine wl_ex (ex_move rfl) rfl rfl ?_
              refine wl_pass rfl rfl rfl rfl ?_
              refine wl_ex (ex_move rfl) rfl rfl ?_
              refine wl_pass rfl rfl rfl rfl ?_
              refine wl_ex (ex_move rfl) rfl rfl ?_
              refine wl_pass rfl rfl rfl rfl ?_
              refine wl_ex (ex_lss rfl rfl) rfl rfl ?_
              refine wl_ex (ex_pickf rfl rfl rfl) rfl rfl ?_
              refine wl_ex (ex_assign rfl) rfl rfl ?_
              refine wl_nil ?_
              refine pe_cut () (Sub.cons rfl (congrArg Value.bool (by first | (simp [g9]; done) | grind)) (Sub.nil _)) (.cons (.head _ _) rfl (.cons (.head _ _) rfl (.cons (.head _ _) rfl (.nil _)))) trivial
          · rintro _ _
            show WC _ _ _ [(4, .bool (decide (((((cntP (fun c => (gb y z 3).getD c 0 ≠ 0) 8 : Nat) : Int) = 0) ∧ (((stlR (gb y z 3)).length : Int) = 0)) ∨ (((stlR (gb y z 3)).length : Int) < ((cntP (fun c => (gb y z 3).getD c 0 ≠ 0) 8 : Nat) : Int)))))] [.own (some ⟨r3, 0, none⟩) 8 8 3 1 (encs encI (twoT (gb y z 3) 8)), .own (some ⟨r2, 0, none⟩) 8 8 3 1 (encs encI (oneT (gb y z 3) 8)), .own (some ⟨r1, 0, none⟩) 8 8 3 1 (encs encI (gb y z 3))]
            refine wc_ret ?_
            refine pe_ret1 rfl rfl rfl (fun w' hm => ⟨?_, hm.ent (.nil _)⟩)
            exact congrArg Value.bool (decide_eq_true (by omega))

end Go.Proofs.Ytolfgdkdghhidaa
