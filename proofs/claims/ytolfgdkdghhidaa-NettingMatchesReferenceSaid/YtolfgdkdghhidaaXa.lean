/- Walks. -/
import Derived.Test.YtolfgdkdghhidaaWt
import Derived.Test.YtolfgdkdghhidaaP39y
import Derived.Test.YtolfgdkdghhidaaE13
set_option linter.unusedVariables false
set_option linter.unusedSimpArgs false
namespace Go.Proofs.Ytolfgdkdghhidaa
open Go Go.RowKit



theorem c_Bent (Al : Option Addr) (cl : Nat) (l : List Debt) (how n p : Int) (w : World) (hl : Sl w Al (encs encD l)) (hlen : l.length ≤ 100) (b1 : i64 how) (b2 : i64 n) (b3 : i64 p) :
    Cl Try.prog 13 [.slice Al l.length cl, .int .i64 how, .int .i64 n, .int .i64 p] w (IsS ((bentD l how n p).length) 47 3 (encs encD (bentD l how n p)) w) := by
  refine cl_of Try.func13 rfl Try.ntmps13 rfl (Mem.refl w) ?_
  unfold i64 at b1 b2 b3
  refine wc_seq ?_
  refine wc_region ?_
  refine wl_ex (ex_assign rfl) rfl rfl ?_
  refine wl_nil ?_
  refine pe_seq ?_
  refine wc_seq ?_
  refine wc_region ?_
  refine wl_buildSlice [] rfl rfl Try.underlying24 sz_47 ze_47 rfl (by simp [Value.cells]) (by omega) (by omega) rfl fun r1 => ?_
  rw [show List.flatMap (fun x => x.cells.toList) ([] : List Value) = encs encD [] from rfl]
  refine wl_ex (ex_move rfl) rfl rfl ?_
  refine wl_appendE encD_len encD_one rfl rfl Try.underlying24 sz_47 ze_47 rfl by_47 rfl (.head _ _) (sl_arg hl rfl) (by first | rfl | simp) (by first | rfl | simp) (by first | omega | (simp; omega)) (by first | omega | (simp; omega)) rfl fun A2 c3 => ?_
  rw [List.nil_append]
  refine wl_ex (ex_assign rfl) rfl rfl ?_
  refine wl_nil ?_
  refine pe_seq ?_
  refine wc_seq ?_
  refine wc_seq ?_
  refine wc_region ?_
  refine wl_ex (ex_move rfl) rfl rfl ?_
  refine wl_ex (ex_len Try.underlying24 rfl) rfl rfl ?_
  refine wl_ex (ex_eql rfl rfl) rfl rfl ?_
  refine wl_nil ?_
  refine pe_seq ?_
  refine wc_ite rfl (fun c16 => ?_) (fun c16 => ?_)
  · refine wc_seq ?_
    refine wc_region ?_
    refine wl_ex (ex_move rfl) rfl rfl ?_
    refine wl_ex (ex_move rfl) rfl rfl ?_
    refine wl_ex (ex_build (cells := #[.int .i64 n, .int .i64 p, .int .i64 1]) [0, 1, 2] [.tmp 17, .tmp 18, .const (.int .i64 1)] rfl rfl Try.underlying47 ze_47 pl_47 rfl) rfl rfl ?_
    refine wl_buildSlice [.tmp 19] rfl rfl Try.underlying24 sz_47 ze_47 rfl (by simp [Value.cells]) (by omega) (by omega) rfl fun r4 => ?_
    rw [show List.flatMap (fun x => x.cells.toList) ([(.agg #[.int .i64 n, .int .i64 p, .int .i64 1] : Value)] : List Value) = encs encD [⟨n, p, 1⟩] from rfl]
    refine wl_ex (ex_assign rfl) rfl rfl ?_
    refine wl_nil ?_
    refine pe_seq ?_
    refine wc_ret ?_
    refine pe_seq_ret ?_
    refine pe_ret1 rfl rfl rfl (fun w' hm => isS_mk hm (.head _ _) ?_ ?_)
    · rw [bentD_nil c16]
    · rw [bentD_nil c16]; rfl
  · have hkp := pick_bd p (l.length : Int) (by omega)
    refine wc_skip ?_
    refine pe_seq ?_
    refine wc_seq ?_
    refine wc_region ?_
    refine wl_ex (ex_move rfl) rfl rfl ?_
    refine wl_ex (ex_move rfl) rfl rfl ?_
    refine wl_ex (ex_len Try.underlying24 rfl) rfl rfl ?_
    refine wl_callV [.tmp 21, .tmp 23] rfl ok_36 rfl (fun w hm => c_pickR p (l.length : Int) w   (by omega) (by omega)) rfl ?_
    refine wl_ex (ex_assign rfl) rfl rfl ?_
    refine wl_nil ?_
    refine pe_seq ?_
    refine wc_seq ?_
    refine wc_seq ?_
    refine wc_region ?_
    refine wl_ex (ex_move rfl) rfl rfl ?_
    refine wl_callV [.tmp 25, .const (.int .i64 4)] rfl ok_36 rfl (fun w hm => c_pickR how 4 w   (by omega) (by omega)) rfl ?_
    refine wl_nil ?_
    refine pe_seq ?_
    refine wc_block ?_
    refine wc_seq ?_
    refine wc_region ?_
    refine wl_ex (ex_eql rfl rfl) rfl rfl ?_
    refine wl_ex (ex_assign rfl) rfl rfl ?_
    refine wl_nil ?_
    refine pe_seq ?_
    refine wc_ite rfl (fun c40 => ?_) (fun c40 => ?_)
    · refine wc_region ?_
      refine wl_ex (ex_move rfl) rfl rfl ?_
      refine wl_ex (ex_move rfl) rfl rfl ?_
      refine wl_ex (ex_move rfl) rfl rfl ?_
      refine wl_ex (ex_indexAddr rfl rfl Try.underlying24 sz_47 (sl_own (.head _ _)) (by omega) (by omega) (enc_pos encD_len (by omega))) rfl rfl ?_
      refine wl_ex (ex_fieldAddr (off' := oOf A2 + (pickI p (l.length : Int)).toNat * 3 + 0) rfl Try.underlying47 rfl sz_3 rfl rfl) rfl rfl ?_
      obtain ⟨d_l_pickI_p_l_length_Int, hd_l_pickI_p_l_length_Int⟩ := get_if l (pickI p (l.length : Int))
      refine wl_storeF (j := 0) (d' := (⟨n, d_l_pickI_p_l_length_Int.to, d_l_pickI_p_l_length_Int.amt⟩ : Debt)) encD_len rfl rfl (Nat.add_assoc _ _ _) rfl rfl sz_3 (.head _ _) (hd_l_pickI_p_l_length_Int (by omega) (by omega)) (by decide) rfl ?_
      refine wl_nil ?_
      refine pe_block _ ?_
      refine pe_seq ?_
      refine wc_seq ?_
      refine wc_region ?_
      refine wl_ex (ex_move rfl) rfl rfl ?_
      refine wl_ex (ex_assign rfl) rfl rfl ?_
      refine wl_nil ?_
      refine pe_seq ?_
      refine wc_ret ?_
      refine pe_ret1 rfl rfl rfl (fun w' hm => isS_mk hm (.head _ _) ?_ ?_)
      · rw [bentD_0 c16 c40 (hd_l_pickI_p_l_length_Int (by omega) (by omega))]
      · rw [bentD_0 c16 c40 (hd_l_pickI_p_l_length_Int (by omega) (by omega)), List.length_set]
    · refine wc_seq ?_
      refine wc_region ?_
      refine wl_ex (ex_eql rfl rfl) rfl rfl ?_
      refine wl_ex (ex_assign rfl) rfl rfl ?_
      refine wl_nil ?_
      refine pe_seq ?_
      refine wc_ite rfl (fun c47 => ?_) (fun c47 => ?_)
      · refine wc_region ?_
        refine wl_ex (ex_move rfl) rfl rfl ?_
        refine wl_ex (ex_move rfl) rfl rfl ?_
        refine wl_ex (ex_move rfl) rfl rfl ?_
        refine wl_ex (ex_indexAddr rfl rfl Try.underlying24 sz_47 (sl_own (.head _ _)) (by omega) (by omega) (enc_pos encD_len (by omega))) rfl rfl ?_
        refine wl_ex (ex_fieldAddr (off' := oOf A2 + (pickI p (l.length : Int)).toNat * 3 + 1) rfl Try.underlying47 rfl sz_3 rfl rfl) rfl rfl ?_
        obtain ⟨d_l_pickI_p_l_length_Int, hd_l_pickI_p_l_length_Int⟩ := get_if l (pickI p (l.length : Int))
        refine wl_storeF (j := 1) (d' := (⟨d_l_pickI_p_l_length_Int.frm, n, d_l_pickI_p_l_length_Int.amt⟩ : Debt)) encD_len rfl rfl (Nat.add_assoc _ _ _) rfl rfl sz_3 (.head _ _) (hd_l_pickI_p_l_length_Int (by omega) (by omega)) (by decide) rfl ?_
        refine wl_nil ?_
        refine pe_block _ ?_
        refine pe_seq ?_
        refine wc_seq ?_
        refine wc_region ?_
        refine wl_ex (ex_move rfl) rfl rfl ?_
        refine wl_ex (ex_assign rfl) rfl rfl ?_
        refine wl_nil ?_
        refine pe_seq ?_
        refine wc_ret ?_
        refine pe_ret1 rfl rfl rfl (fun w' hm => isS_mk hm (.head _ _) ?_ ?_)
        · rw [bentD_1 c16 c40 c47 (hd_l_pickI_p_l_length_Int (by omega) (by omega))]
        · rw [bentD_1 c16 c40 c47 (hd_l_pickI_p_l_length_Int (by omega) (by omega)), List.length_set]
      · refine wc_seq ?_
        refine wc_region ?_
        refine wl_ex (ex_eql rfl rfl) rfl rfl ?_
        refine wl_ex (ex_assign rfl) rfl rfl ?_
        refine wl_nil ?_
        refine pe_seq ?_
        refine wc_ite rfl (fun c54 => ?_) (fun c54 => ?_)
        · refine wc_region ?_
          refine wl_ex (ex_move rfl) rfl rfl ?_
          refine wl_ex (ex_move rfl) rfl rfl ?_
          refine wl_ex (ex_move rfl) rfl rfl ?_
          refine wl_ex (ex_indexAddr rfl rfl Try.underlying24 sz_47 (sl_own (.head _ _)) (by omega) (by omega) (enc_pos encD_len (by omega))) rfl rfl ?_
          refine wl_ex (ex_fieldAddr (off' := oOf A2 + (pickI p (l.length : Int)).toNat * 3 + 2) rfl Try.underlying47 rfl sz_3 rfl rfl) rfl rfl ?_
          obtain ⟨d_l_pickI_p_l_length_Int, hd_l_pickI_p_l_length_Int⟩ := get_if l (pickI p (l.length : Int))
          refine wl_storeF (j := 2) (d' := (⟨d_l_pickI_p_l_length_Int.frm, d_l_pickI_p_l_length_Int.to, n⟩ : Debt)) encD_len rfl rfl (Nat.add_assoc _ _ _) rfl rfl sz_3 (.head _ _) (hd_l_pickI_p_l_length_Int (by omega) (by omega)) (by decide) rfl ?_
          refine wl_nil ?_
          refine pe_block _ ?_
          refine pe_seq ?_
          refine wc_seq ?_
          refine wc_region ?_
          refine wl_ex (ex_move rfl) rfl rfl ?_
          refine wl_ex (ex_assign rfl) rfl rfl ?_
          refine wl_nil ?_
          refine pe_seq ?_
          refine wc_ret ?_
          refine pe_ret1 rfl rfl rfl (fun w' hm => isS_mk hm (.head _ _) ?_ ?_)
          · rw [bentD_2 c16 c40 c47 c54 (hd_l_pickI_p_l_length_Int (by omega) (by omega))]
          · rw [bentD_2 c16 c40 c47 c54 (hd_l_pickI_p_l_length_Int (by omega) (by omega)), List.length_set]
        · refine wc_block ?_
          refine wc_loop (σ := Nat × (List Debt) × (Option Addr) × Nat) (fun s => [(9, .slice s.2.2.1 s.2.1.length s.2.2.2), (2, .int .i64 n), (10, .int .i64 (pickI p (l.length : Int)))]) (fun s => [.own s.2.2.1 s.2.1.length s.2.2.2 47 3 (encs encD s.2.1)]) (fun s => s.2.1 = growD l p s.1 ∧ (s.1 = 0 ∨ (l.length : Int) + s.1 ≤ 60 + pickI n 2)) (fun s => 62 - s.2.1.length) (0, l, _, _) (Sub.cons rfl rfl (Sub.cons rfl rfl (Sub.cons rfl rfl (Sub.nil _)))) (.cons (.head _ _) (by first | rfl | simp) (.nil _)) (by exact ⟨by simp [growD], .inl rfl⟩) ?_
          rintro ⟨t, m, AM, cM⟩ hG
          show WC _ _ _ [(9, .slice AM m.length cM), (2, .int .i64 n), (10, .int .i64 (pickI p (l.length : Int)))] [.own AM m.length cM 47 3 (encs encD m)]
          replace hG : m = growD l p t ∧ (t = 0 ∨ (l.length : Int) + t ≤ 60 + pickI n 2) := hG
          obtain ⟨h1, h2⟩ := hG
          have hml : m.length = l.length + t := by rw [h1, growD_len]
          have hp2 := pick_bd n 2 (by omega)
          have hln : m.length ≤ 1000 := by omega
          refine wc_seq ?_
          refine wc_seq ?_
          refine wc_region ?_
          refine wl_ex (ex_move rfl) rfl rfl ?_
          refine wl_ex (ex_len Try.underlying24 rfl) rfl rfl ?_
          refine wl_ex (ex_move rfl) rfl rfl ?_
          refine wl_callV [.tmp 29, .const (.int .i64 2)] rfl ok_36 rfl (fun w hm => c_pickR n 2 w   (by omega) (by omega)) rfl ?_
          refine wl_ex (ex_add rfl rfl (by omega) (by omega)) rfl rfl ?_
          refine wl_ex (ex_lss rfl rfl) rfl rfl ?_
          refine wl_nil ?_
          refine pe_seq ?_
          refine wc_ite rfl (fun c32 => ?_) (fun c32 => ?_)
          · refine wc_skip ?_
            refine pe_seq ?_
            refine wc_block ?_
            refine wc_region ?_
            refine wl_ex (ex_move rfl) rfl rfl ?_
            refine wl_ex (ex_move rfl) rfl rfl ?_
            refine wl_ex (ex_move rfl) rfl rfl ?_
            refine wl_ex (ex_indexAddr rfl rfl Try.underlying24 sz_47 (sl_own (.head _ _)) (by omega) (by omega) (enc_pos encD_len (by omega))) rfl rfl ?_
            obtain ⟨d_m_pickI_p_l_length_Int, hd_m_pickI_p_l_length_Int⟩ := get_if m (pickI p (l.length : Int))
            refine wl_ex (ex_loadS rfl ag_47 sz_47 (encD_len _) (rd_encs encD_len (sl_own (.head _ _)) (hd_m_pickI_p_l_length_Int (by omega) (by omega)))) rfl rfl ?_
            refine wl_buildSlice [.tmp 37] rfl rfl Try.underlying24 sz_47 ze_47 rfl (by simp [Value.cells, encD_len]) (by omega) (by omega) rfl fun r5 => ?_
            rw [show List.flatMap (fun x => x.cells.toList) ([(.agg (encD d_m_pickI_p_l_length_Int).toArray : Value)] : List Value) = encs encD [d_m_pickI_p_l_length_Int] from rfl]
            refine wl_appendE encD_len encD_one rfl rfl Try.underlying24 sz_47 ze_47 rfl by_47 rfl (.tail (.head _ _)) (sl_own (.head _ _)) (by rfl) (by first | rfl | simp) (by first | omega | (simp; omega)) (by first | omega | (simp; omega)) rfl fun A6 c7 => ?_
            refine wl_ex (ex_assign rfl) rfl rfl ?_
            refine wl_nil ?_
            refine pe_block _ ?_
            refine pe_again ⟨t + 1, _, _, _⟩ (Sub.cons rfl (by first | rfl | simp) (Sub.cons rfl rfl (Sub.cons rfl rfl (Sub.nil _)))) (.cons (.head _ _) (by first | rfl | simp) (.nil _)) ?_ ?_
            · show (m ++ ([d_m_pickI_p_l_length_Int])) = growD l p (t + 1) ∧ ((t + 1) = 0 ∨ (l.length : Int) + (t + 1) ≤ 60 + pickI n 2)
              refine ⟨?_, .inr (by omega)⟩
              rw [h1]
              exact growD_step c16 (by rw [← h1]; exact (hd_m_pickI_p_l_length_Int (by omega) (by omega)))
            · (simp only [List.length_append, List.length_cons, List.length_nil]; omega)
          · refine wc_exit ?_
            refine pe_seq_exit ?_
            refine pe_loop_exit ?_
            refine pe_block_exit ?_
            refine pe_block _ ?_
            refine pe_seq ?_
            refine wc_seq ?_
            refine wc_region ?_
            refine wl_ex (ex_move rfl) rfl rfl ?_
            refine wl_ex (ex_assign rfl) rfl rfl ?_
            refine wl_nil ?_
            refine pe_seq ?_
            refine wc_ret ?_
            refine pe_ret1 rfl rfl rfl (fun w' hm => isS_mk hm (.head _ _) ?_ ?_)
            · rw [h1, growD_end c16 c40 c47 c54 h2 (by omega)]
            · rw [h1, growD_end c16 c40 c47 c54 h2 (by omega)]

theorem c_BentList (Al : Option Addr) (cl : Nat) (l : List Int) (how n p : Int) (w : World) (hl : Sl w Al (encs encI l)) (hlen : l.length ≤ 100) (hw : Within 1000000000000 l) (b1 : i64 how) (b2 : i64 n) (b3 : i64 p) :
    Cl Try.prog 27 [.slice Al l.length cl, .int .i64 how, .int .i64 n, .int .i64 p] w (IsS ((bentN l how n p).length) 3 1 (encs encI (bentN l how n p)) w) := by
  refine cl_of Try.func27 rfl Try.ntmps27 rfl (Mem.refl w) ?_
  unfold i64 at b1 b2 b3
  refine wc_seq ?_
  refine wc_region ?_
  refine wl_ex (ex_assign rfl) rfl rfl ?_
  refine wl_nil ?_
  refine pe_seq ?_
  refine wc_seq ?_
  refine wc_region ?_
  refine wl_buildSlice [] rfl rfl Try.underlying25 sz_3 ze_3 rfl (by simp [Value.cells]) (by omega) (by omega) rfl fun r1 => ?_
  rw [show List.flatMap (fun x => x.cells.toList) ([] : List Value) = encs encI [] from rfl]
  refine wl_ex (ex_move rfl) rfl rfl ?_
  refine wl_appendE encI_len encI_one rfl rfl Try.underlying25 sz_3 ze_3 rfl by_3 rfl (.head _ _) (sl_arg hl rfl) (by first | rfl | simp) (by first | rfl | simp) (by first | omega | (simp; omega)) (by first | omega | (simp; omega)) rfl fun A2 c3 => ?_
  rw [List.nil_append]
  refine wl_ex (ex_assign rfl) rfl rfl ?_
  refine wl_nil ?_
  refine pe_seq ?_
  refine wc_seq ?_
  refine wc_seq ?_
  refine wc_region ?_
  refine wl_ex (ex_move rfl) rfl rfl ?_
  refine wl_ex (ex_len Try.underlying25 rfl) rfl rfl ?_
  refine wl_ex (ex_eql rfl rfl) rfl rfl ?_
  refine wl_nil ?_
  refine pe_seq ?_
  refine wc_ite rfl (fun c16 => ?_) (fun c16 => ?_)
  · refine wc_seq ?_
    refine wc_region ?_
    refine wl_ex (ex_move rfl) rfl rfl ?_
    refine wl_buildSlice [.tmp 17] rfl rfl Try.underlying25 sz_3 ze_3 rfl (by simp [Value.cells]) (by omega) (by omega) rfl fun r4 => ?_
    rw [show List.flatMap (fun x => x.cells.toList) ([Value.int .i64 n] : List Value) = encs encI [n] from rfl]
    refine wl_ex (ex_assign rfl) rfl rfl ?_
    refine wl_nil ?_
    refine pe_seq ?_
    refine wc_ret ?_
    refine pe_seq_ret ?_
    refine pe_ret1 rfl rfl rfl (fun w' hm => isS_mk hm (.head _ _) ?_ ?_)
    · unfold bentN; rw [if_pos (by omega)]
    · unfold bentN; rw [if_pos (by omega)]; rfl
  · have hkp := pick_bd p (l.length : Int) (by omega)
    refine wc_skip ?_
    refine pe_seq ?_
    refine wc_seq ?_
    refine wc_region ?_
    refine wl_ex (ex_move rfl) rfl rfl ?_
    refine wl_ex (ex_move rfl) rfl rfl ?_
    refine wl_ex (ex_len Try.underlying25 rfl) rfl rfl ?_
    refine wl_callV [.tmp 19, .tmp 21] rfl ok_36 rfl (fun w hm => c_pickR p (l.length : Int) w   (by omega) (by omega)) rfl ?_
    refine wl_ex (ex_assign rfl) rfl rfl ?_
    refine wl_nil ?_
    refine pe_seq ?_
    refine wc_seq ?_
    refine wc_seq ?_
    refine wc_region ?_
    refine wl_ex (ex_move rfl) rfl rfl ?_
    refine wl_callV [.tmp 23, .const (.int .i64 4)] rfl ok_36 rfl (fun w hm => c_pickR how 4 w   (by omega) (by omega)) rfl ?_
    refine wl_nil ?_
    refine pe_seq ?_
    refine wc_block ?_
    refine wc_seq ?_
    refine wc_region ?_
    refine wl_ex (ex_eql rfl rfl) rfl rfl ?_
    refine wl_ex (ex_assign rfl) rfl rfl ?_
    refine wl_nil ?_
    refine pe_seq ?_
    refine wc_ite rfl (fun c28 => ?_) (fun c28 => ?_)
    · refine wc_region ?_
      refine wl_ex (ex_move rfl) rfl rfl ?_
      refine wl_ex (ex_move rfl) rfl rfl ?_
      refine wl_ex (ex_move rfl) rfl rfl ?_
      refine wl_ex (ex_indexAddr rfl rfl Try.underlying25 sz_3 (sl_own (.head _ _)) (by omega) (by omega) (enc_pos encI_len (by omega))) rfl rfl ?_
      refine wl_storeI rfl rfl sz_3 (.head _ _) (by omega) (by omega) ?_
      refine wl_nil ?_
      refine pe_block _ ?_
      refine pe_seq ?_
      refine wc_seq ?_
      refine wc_region ?_
      refine wl_ex (ex_move rfl) rfl rfl ?_
      refine wl_ex (ex_assign rfl) rfl rfl ?_
      refine wl_nil ?_
      refine pe_seq ?_
      refine wc_ret ?_
      refine pe_ret1 rfl rfl rfl (fun w' hm => isS_mk hm (.head _ _) ?_ ?_)
      · unfold bentN; rw [if_neg (by omega), if_pos c28]
      · unfold bentN; rw [if_neg (by omega), if_pos c28, List.length_set]
    · refine wc_seq ?_
      refine wc_region ?_
      refine wl_ex (ex_eql rfl rfl) rfl rfl ?_
      refine wl_ex (ex_assign rfl) rfl rfl ?_
      refine wl_nil ?_
      refine pe_seq ?_
      refine wc_ite rfl (fun c34 => ?_) (fun c34 => ?_)
      · refine wc_region ?_
        refine wl_ex (ex_move rfl) rfl rfl ?_
        refine wl_ex (ex_move rfl) rfl rfl ?_
        refine wl_ex (ex_move rfl) rfl rfl ?_
        refine wl_ex (ex_move rfl) rfl rfl ?_
        refine wl_ex (ex_indexAddr rfl rfl Try.underlying25 sz_3 (sl_own (.head _ _)) (by omega) (by omega) (enc_pos encI_len (by omega))) rfl rfl ?_
        obtain ⟨d_l_pickI_p_l_length_Int, hd_l_pickI_p_l_length_Int⟩ := get_if l (pickI p (l.length : Int))
        refine wl_ex (ex_load rfl ag_3 (rd_int (sl_own (.head _ _)) (hd_l_pickI_p_l_length_Int (by omega) (by omega)))) rfl rfl ?_
        have hwp := hw _ (mem_at (hd_l_pickI_p_l_length_Int (by omega) (by omega)))
        refine wl_ex (ex_add rfl rfl (by omega) (by omega)) rfl rfl ?_
        refine wl_ex (ex_indexAddr rfl rfl Try.underlying25 sz_3 (sl_own (.head _ _)) (by omega) (by omega) (enc_pos encI_len (by omega))) rfl rfl ?_
        refine wl_storeI rfl rfl sz_3 (.head _ _) (by omega) (by omega) ?_
        refine wl_nil ?_
        refine pe_block _ ?_
        refine pe_seq ?_
        refine wc_seq ?_
        refine wc_region ?_
        refine wl_ex (ex_move rfl) rfl rfl ?_
        refine wl_ex (ex_assign rfl) rfl rfl ?_
        refine wl_nil ?_
        refine pe_seq ?_
        refine wc_ret ?_
        refine pe_ret1 rfl rfl rfl (fun w' hm => isS_mk hm (.head _ _) ?_ ?_)
        · unfold bentN; rw [if_neg (by omega), if_neg c28, if_pos c34, getD_of (hd_l_pickI_p_l_length_Int (by omega) (by omega))]
        · unfold bentN; rw [if_neg (by omega), if_neg c28, if_pos c34, List.length_set]
      · refine wc_seq ?_
        refine wc_region ?_
        refine wl_ex (ex_eql rfl rfl) rfl rfl ?_
        refine wl_ex (ex_assign rfl) rfl rfl ?_
        refine wl_nil ?_
        refine pe_seq ?_
        refine wc_ite rfl (fun c44 => ?_) (fun c44 => ?_)
        · refine wc_region ?_
          refine wl_ex (ex_move rfl) rfl rfl ?_
          refine wl_buildSlice [.const (.int .i64 0)] rfl rfl Try.underlying25 sz_3 ze_3 rfl (by simp [Value.cells]) (by omega) (by omega) rfl fun r5 => ?_
          rw [show List.flatMap (fun x => x.cells.toList) ([Value.int .i64 0] : List Value) = encs encI [0] from rfl]
          refine wl_appendE encI_len encI_one rfl rfl Try.underlying25 sz_3 ze_3 rfl by_3 rfl (.tail (.head _ _)) (sl_own (.head _ _)) (by rfl) (by first | rfl | simp) (by first | omega | (simp; omega)) (by first | omega | (simp; omega)) rfl fun A6 c7 => ?_
          refine wl_ex (ex_assign rfl) rfl rfl ?_
          refine wl_nil ?_
          refine pe_block _ ?_
          refine pe_seq ?_
          refine wc_seq ?_
          refine wc_region ?_
          refine wl_ex (ex_move rfl) rfl rfl ?_
          refine wl_ex (ex_assign rfl) rfl rfl ?_
          refine wl_nil ?_
          refine pe_seq ?_
          refine wc_ret ?_
          refine pe_ret1 rfl rfl rfl (fun w' hm => isS_mk hm (.head _ _) ?_ ?_)
          · unfold bentN; rw [if_neg (by omega), if_neg c28, if_neg c34, if_pos c44]
          · unfold bentN; rw [if_neg (by omega), if_neg c28, if_neg c34, if_pos c44]
        · refine wc_region ?_
          refine wl_ex (ex_move rfl) rfl rfl ?_
          refine wl_ex (ex_move rfl) rfl rfl ?_
          refine wl_own (.head _ _) fun hcap hcap2 hspot => ?_
          refine wl_ex (ex_sliceH0 rfl rfl Try.underlying25 sz_3 (by omega) (by omega)) rfl rfl ?_
          refine wl_ex (ex_assign rfl) rfl rfl ?_
          refine wl_nil ?_
          refine pe_block _ ?_
          refine pe_seq ?_
          refine wc_seq ?_
          refine wc_region ?_
          refine wl_ex (ex_move rfl) rfl rfl ?_
          refine wl_ex (ex_assign rfl) rfl rfl ?_
          refine wl_nil ?_
          refine pe_seq ?_
          refine wc_ret ?_
          refine pe_takeOwn (pickI p (l.length : Int)).toNat (.head _ _) (by omega) ?_
          refine pe_ret1 rfl rfl rfl (fun w' hm => isS_mk hm (.head _ _) ?_ ?_)
          · rw [← encs_take encI_len]; unfold bentN; rw [if_neg (by omega), if_neg c28, if_neg c34, if_neg c44]
          · unfold bentN; rw [if_neg (by omega), if_neg c28, if_neg c34, if_neg c44, List.length_take]; omega

end Go.Proofs.Ytolfgdkdghhidaa
