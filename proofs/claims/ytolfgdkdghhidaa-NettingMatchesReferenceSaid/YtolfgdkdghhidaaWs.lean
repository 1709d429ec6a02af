/- Walks. -/
import Derived.Test.YtolfgdkdghhidaaWr
set_option linter.unusedVariables false
set_option linter.unusedSimpArgs false
namespace Go.Proofs.Ytolfgdkdghhidaa
open Go Go.RowKit
theorem within_balN {l : List Debt} (h : ∀ d ∈ l, okD 1000000000000 d) (hl : l.length ≤ 100) (k : Nat) : Within 200000000000000 (balI (l.take k)) := by
  refine within_mono (balI_within (lim := 1000000000000) (by omega) (l.take k) (fun d hd => by have := h d (List.mem_of_mem_take hd); unfold okD at this; omega) (fun d hd => by have := h d (List.mem_of_mem_take hd); unfold okD at this; omega)) ?_
  have : (l.take k).length ≤ 100 := by simp; omega
  omega
theorem ok_34 : callOK Try.prog 34 = true := by kernel_rfl

theorem c_net (Al : Option Addr) (cl : Nat) (l : List Debt) (w : World) (hl : Sl w Al (encs encD l)) (hok : ∀ d ∈ l, okD 1000000000000 d) (hlen : l.length ≤ 100) :
    Cl Try.prog 33 [.slice Al l.length cl] w (IsS ((balI l).length) 3 1 (encs encI (balI l)) w) := by
  refine cl_of Try.func33 rfl Try.ntmps33 rfl (Mem.refl w) ?_
  refine wc_seq ?_
  refine wc_region ?_
  refine wl_ex (ex_assign rfl) rfl rfl ?_
  refine wl_nil ?_
  refine pe_seq ?_
  refine wc_seq ?_
  refine wc_region ?_
  refine wl_make (n := 8) rfl rfl Try.underlying25 sz_3 ze_3 rfl by_3 (by omega) (by omega) rfl fun r1 => ?_
  rw [rep_enc]
  refine wl_ex (ex_assign rfl) rfl rfl ?_
  refine wl_nil ?_
  refine pe_seq ?_
  refine wc_seq ?_
  refine wc_seq ?_
  refine wc_region ?_
  refine wl_ex (ex_assign rfl) rfl rfl ?_
  refine wl_nil ?_
  refine pe_seq ?_
  refine wc_block ?_
  refine wc_loop (σ := Int × (List Int)) (fun s => [(4, .int .i64 s.1), (0, .slice Al l.length cl), (3, .slice (some ⟨r1, 0, none⟩) 8 8)]) (fun s => [.own (some ⟨r1, 0, none⟩) 8 8 3 1 (encs encI s.2)]) (fun s => 0 ≤ s.1 ∧ s.1 ≤ (l.length : Int) ∧ s.2 = balI (l.take s.1.toNat)) (fun s => ((l.length : Int) - s.1).toNat) ((0 : Int), List.replicate 8 0) (Sub.cons rfl rfl (Sub.cons rfl rfl (Sub.cons rfl rfl (Sub.nil _)))) (.cons (.head _ _) (by first | rfl | simp) (.nil _)) (by simp [balI]) ?_
  rintro ⟨i, b⟩ hG
  show WC _ _ _ [(4, .int .i64 i), (0, .slice Al l.length cl), (3, .slice (some ⟨r1, 0, none⟩) 8 8)] [.own (some ⟨r1, 0, none⟩) 8 8 3 1 (encs encI b)]
  replace hG : 0 ≤ i ∧ i ≤ (l.length : Int) ∧ b = balI (l.take i.toNat) := hG
  obtain ⟨h1, h2, h3⟩ := hG
  have hbd := within_balN hok hlen i.toNat
  rw [← h3] at hbd
  have hbl : b.length = 8 := by rw [h3]; exact balI_length _
  refine wc_seq ?_
  refine wc_seq ?_
  refine wc_region ?_
  refine wl_ex (ex_move rfl) rfl rfl ?_
  refine wl_ex (ex_move rfl) rfl rfl ?_
  refine wl_ex (ex_len Try.underlying24 rfl) rfl rfl ?_
  refine wl_ex (ex_lss rfl rfl) rfl rfl ?_
  refine wl_nil ?_
  refine pe_seq ?_
  refine wc_ite rfl (fun c11 => ?_) (fun c11 => ?_)
  · refine wc_skip ?_
    refine pe_seq ?_
    refine wc_seq ?_
    refine wc_block ?_
    refine wc_seq ?_
    refine wc_region ?_
    refine wl_ex (ex_move rfl) rfl rfl ?_
    refine wl_ex (ex_move rfl) rfl rfl ?_
    refine wl_ex (ex_indexAddr rfl rfl Try.underlying24 sz_47 (sl_arg hl rfl) (by omega) (by omega) (enc_pos encD_len (by omega))) rfl rfl ?_
    refine wl_ex (ex_fieldAddr (off' := oOf Al + (i).toNat * 3 + 1) rfl Try.underlying47 rfl sz_3 rfl rfl) rfl rfl ?_
    obtain ⟨d_l_i, hd_l_i⟩ := get_if l i
    refine wl_ex (ex_load rfl ag_3 (rd_enc (j := 1) encD_len (sl_arg hl rfl) (hd_l_i (by omega) (by omega)) rfl)) rfl rfl ?_
    refine wl_ex (ex_move rfl) rfl rfl ?_
    refine wl_ex (ex_len Try.underlying25 rfl) rfl rfl ?_
    have hdk := hok _ (mem_at (hd_l_i (by omega) (by omega)))
    unfold okD at hdk
    refine wl_callV [.tmp 18, .tmp 20] rfl ok_34 rfl (fun w hm => c_pickL d_l_i.to ((8 : Nat) : Int) w   (by omega) (by omega)) rfl ?_
    rw [show pickI d_l_i.to ((8 : Nat) : Int) = d_l_i.to from pick_small (by omega) (by omega)]
    refine wl_ex (ex_assign rfl) rfl rfl ?_
    refine wl_nil ?_
    refine pe_seq ?_
    refine wc_seq ?_
    refine wc_region ?_
    refine wl_ex (ex_move rfl) rfl rfl ?_
    refine wl_ex (ex_move rfl) rfl rfl ?_
    refine wl_ex (ex_indexAddr rfl rfl Try.underlying24 sz_47 (sl_arg hl rfl) (by omega) (by omega) (enc_pos encD_len (by omega))) rfl rfl ?_
    refine wl_ex (ex_fieldAddr (off' := oOf Al + (i).toNat * 3 + 0) rfl Try.underlying47 rfl sz_3 rfl rfl) rfl rfl ?_
    refine wl_ex (ex_load rfl ag_3 (rd_enc (j := 0) encD_len (sl_arg hl rfl) (hd_l_i (by omega) (by omega)) rfl)) rfl rfl ?_
    refine wl_ex (ex_move rfl) rfl rfl ?_
    refine wl_ex (ex_len Try.underlying25 rfl) rfl rfl ?_
    have hdk := hok _ (mem_at (hd_l_i (by omega) (by omega)))
    unfold okD at hdk
    refine wl_callV [.tmp 26, .tmp 28] rfl ok_34 rfl (fun w hm => c_pickL d_l_i.frm ((8 : Nat) : Int) w   (by omega) (by omega)) rfl ?_
    rw [show pickI d_l_i.frm ((8 : Nat) : Int) = d_l_i.frm from pick_small (by omega) (by omega)]
    refine wl_ex (ex_assign rfl) rfl rfl ?_
    refine wl_nil ?_
    refine pe_seq ?_
    refine wc_seq ?_
    refine wc_draw [] [(0, true), (1, true), (2, true), (3, true), (4, true), (6, true), (7, true), (8, true), (9, true), (10, true), (5, false), (11, true), (12, true), (13, false)] mixed (by kernel_rfl) (.nil _) ?_
    refine cn_ex rfl (ex_move rfl) rfl rfl ?_
    refine cn_ex rfl (ex_move rfl) rfl rfl ?_
    refine cn_ex rfl (ex_move rfl) rfl rfl ?_
    refine cn_ex rfl (ex_move rfl) rfl rfl ?_
    refine cn_ex rfl (ex_indexAddrN rfl rfl rfl Try.underlying25 sz_3 (by omega) (by omega)) rfl rfl ?_
    refine cn_ex rfl (ex_move rfl) rfl rfl ?_
    refine cn_ex rfl (ex_move rfl) rfl rfl ?_
    refine cn_ex rfl (ex_indexAddr rfl rfl Try.underlying24 sz_47 (sl_arg hl rfl) (by omega) (by omega) (enc_pos encD_len (by omega))) rfl rfl ?_
    refine cn_ex rfl (ex_fieldAddr (off' := oOf Al + (i).toNat * 3 + 2) rfl Try.underlying47 rfl sz_3 rfl rfl) rfl rfl ?_
    refine cn_ex rfl (ex_load rfl ag_3 (rd_enc (j := 2) encD_len (sl_arg hl rfl) (hd_l_i (by omega) (by omega)) rfl)) rfl rfl ?_
    refine cn_tail rfl ?_
    obtain ⟨d_b_d_l_i_to, hd_b_d_l_i_to⟩ := get_if b d_l_i.to
    refine wl_ex (ex_load rfl ag_3 (rd_int (sl_own (.head _ _)) (hd_b_d_l_i_to (by omega) (by omega)))) rfl rfl ?_
    refine cn_back (.nil _) ?_
    have hv1 := wn hbd (hd_b_d_l_i_to (by omega) (by omega))
    refine cn_ex rfl (ex_add rfl rfl (by omega) (by omega)) rfl rfl ?_
    refine cn_ex rfl (ex_indexAddrN rfl rfl rfl Try.underlying25 sz_3 (by omega) (by omega)) rfl rfl ?_
    refine cn_tail rfl ?_
    refine wl_storeI rfl rfl sz_3 (.head _ _) (by omega) (by omega) ?_
    rw [set_addAt (hd_b_d_l_i_to (by omega) (by omega))]
    generalize hb1 : addAt b d_l_i.to (d_l_i.amt) = b1
    have hb1l : b1.length = 8 := by rw [← hb1, addAt_length]; exact hbl
    have hw1 : Within 201000000000000 b1 := by rw [← hb1]; exact within_addAt (m := 200000000000000) (a := 1000000000000) hbd (by omega) (by omega)
    refine cn_back (.nil _) ?_
    refine cn_nil ?_
    refine pe_seq ?_
    refine wc_draw [] [(0, true), (1, true), (2, true), (3, true), (4, true), (6, true), (7, true), (8, true), (9, true), (10, true), (5, false), (11, true), (12, true), (13, false)] mixed (by kernel_rfl) (.nil _) ?_
    refine cn_ex rfl (ex_move rfl) rfl rfl ?_
    refine cn_ex rfl (ex_move rfl) rfl rfl ?_
    refine cn_ex rfl (ex_move rfl) rfl rfl ?_
    refine cn_ex rfl (ex_move rfl) rfl rfl ?_
    refine cn_ex rfl (ex_indexAddrN rfl rfl rfl Try.underlying25 sz_3 (by omega) (by omega)) rfl rfl ?_
    refine cn_ex rfl (ex_move rfl) rfl rfl ?_
    refine cn_ex rfl (ex_move rfl) rfl rfl ?_
    refine cn_ex rfl (ex_indexAddr rfl rfl Try.underlying24 sz_47 (sl_arg hl rfl) (by omega) (by omega) (enc_pos encD_len (by omega))) rfl rfl ?_
    refine cn_ex rfl (ex_fieldAddr (off' := oOf Al + (i).toNat * 3 + 2) rfl Try.underlying47 rfl sz_3 rfl rfl) rfl rfl ?_
    refine cn_ex rfl (ex_load rfl ag_3 (rd_enc (j := 2) encD_len (sl_arg hl rfl) (hd_l_i (by omega) (by omega)) rfl)) rfl rfl ?_
    refine cn_tail rfl ?_
    obtain ⟨d_b1_d_l_i_frm, hd_b1_d_l_i_frm⟩ := get_if b1 d_l_i.frm
    refine wl_ex (ex_load rfl ag_3 (rd_int (sl_own (.head _ _)) (hd_b1_d_l_i_frm (by omega) (by omega)))) rfl rfl ?_
    refine cn_back (.nil _) ?_
    have hv2 := wn hw1 (hd_b1_d_l_i_frm (by omega) (by omega))
    refine cn_ex rfl (ex_sub rfl rfl (by omega) (by omega)) rfl rfl ?_
    refine cn_ex rfl (ex_indexAddrN rfl rfl rfl Try.underlying25 sz_3 (by omega) (by omega)) rfl rfl ?_
    refine cn_tail rfl ?_
    refine wl_storeI rfl rfl sz_3 (.head _ _) (by omega) (by omega) ?_
    rw [Int.sub_eq_add_neg]
    rw [set_addAt (hd_b1_d_l_i_frm (by omega) (by omega))]
    generalize hb2 : addAt b1 d_l_i.frm (-d_l_i.amt) = b2
    refine cn_back (.nil _) ?_
    refine cn_nil ?_
    refine pe_block _ ?_
    refine pe_seq ?_
    refine wc_region ?_
    refine wl_ex (ex_move rfl) rfl rfl ?_
    refine wl_ex (ex_add rfl rfl (by omega) (by omega)) rfl rfl ?_
    refine wl_ex (ex_assign rfl) rfl rfl ?_
    refine wl_nil ?_
    refine pe_again ⟨i + 1, b2⟩ (Sub.cons rfl rfl (Sub.cons rfl rfl (Sub.cons rfl rfl (Sub.nil _)))) (.cons (.head _ _) (by first | rfl | simp) (.nil _)) ?_ ?_
    · show 0 ≤ (i + 1) ∧ (i + 1) ≤ (l.length : Int) ∧ b2 = balI (l.take (i + 1).toNat)
      have hi : (i + 1).toNat = i.toNat + 1 := by omega
      refine ⟨by omega, by omega, ?_⟩
      rw [hi, balI_take (hd_l_i (by omega) (by omega)), ← h3, ← hb2, ← hb1]
      unfold bal1
      first | rfl | exact addAt_comm _ _ _ _ _ (by omega) (by omega) (by omega)
    · first | omega | (simp only []; omega)
  · refine wc_exit ?_
    refine pe_seq_exit ?_
    refine pe_loop_exit ?_
    refine pe_block_exit ?_
    refine pe_seq ?_
    refine wc_seq ?_
    refine wc_region ?_
    refine wl_ex (ex_move rfl) rfl rfl ?_
    refine wl_ex (ex_assign rfl) rfl rfl ?_
    refine wl_nil ?_
    refine pe_seq ?_
    refine wc_ret ?_
    refine pe_ret1 rfl rfl rfl (fun w' hm => isS_mk hm (.head _ _) ?_ ?_)
    · rw [h3, List.take_of_length_le (by omega)]
    · exact (balI_length l).symm

end Go.Proofs.Ytolfgdkdghhidaa
