/- Walks. -/
import Derived.Test.YteglbaidaekccaaTc
import Derived.Test.YteglbaidaekccaaE10
set_option linter.unusedVariables false
set_option linter.unusedSimpArgs false
set_option maxRecDepth 10000
namespace Go.Proofs.Yteglbaidaekccaa
open Go Go.RowKit
theorem nxt_in {c : List Int} {o t e d : Int} (h : cntI c (locI o t % 86400 + 1) < (c.length : Int)) (hd : c[(cntI c (locI o t % 86400 + 1)).toNat]? = some d) : min (t + d - locI o t % 86400) e = nxtT o c e t := by
  unfold nxtT nxtC
  unfold cntI at h hd
  rw [Int.toNat_natCast] at hd
  rw [if_pos (by omega), List.getD_eq_getElem?_getD, hd]; rfl
theorem nxt_out {c : List Int} {o t e : Int} (h : ¬ cntI c (locI o t % 86400 + 1) < (c.length : Int)) : min (t + 86400 - locI o t % 86400) e = nxtT o c e t := by
  unfold nxtT nxtC
  unfold cntI at h
  rw [if_neg (by omega)]
theorem pl_33 : (match Try.prog.underlying 33 with | some (.struct fs) => placesT Try.prog fs | _ => none) = some [(0, 1), (1, 1)] := by kernel_rfl
theorem pl_77 : (match Try.prog.underlying 77 with | some (.struct fs) => placesT Try.prog fs | _ => none) = some [(0, 2), (2, 1)] := by kernel_rfl
theorem ze_33 : zeT Try.prog 33 = some (.agg #[.int .i64 0, .int .i64 0]) := by kernel_rfl
theorem ze_77 : zeT Try.prog 77 = some (.agg #[.int .i64 0, .int .i64 0, .int .i64 0]) := by kernel_rfl
theorem ok_50 : callOK Try.prog 50 = true := by kernel_rfl
theorem ok_51 : callOK Try.prog 51 = true := by kernel_rfl
theorem ok_52 : callOK Try.prog 52 = true := by kernel_rfl
theorem ok_53 : callOK Try.prog 53 = true := by kernel_rfl

theorem c_spells1 (b : Int) (Al : Option Addr) (cl : Nat) (l : List Rate) (o q e : Int) (lp s1 s2 s3 : Nat) (T : List Nat) (Inv : Int → World → Prop) (w : World) (hT : tarOK b l) (ho : zoneOK o) (hs : 0 ≤ q ∧ q ≤ e ∧ e ≤ 10000000) (hI : ∀ t w, Inv t w → RowAt w s1 26 [.slice Al l.length cl, .int .i64 b] ∧ RowAt w s2 33 [.int .i64 q, .int .i64 e] ∧ RowAt w s3 3 [.int .i64 o] ∧ Sl w Al (encs encR l)) (hU : ∀ t w w', Inv t w → Upd [] w w' → Inv t w') (hY : ∀ t w0 w, Inv t w → Upd [] w0 w → q ≤ t → t < e → YCl Try.prog lp (.agg #[.int .i64 t, .int .i64 (nxtT o (chgC l) e t), .int .i64 (rateI b l (locI o t))]) w (fun v w' => v = .bool true ∧ Inv (nxtT o (chgC l) e t) w' ∧ Upd T w0 w')) (h0 : Inv q w) (hT0 : ∀ t ∈ T, t < w.heap.size) :
    Cl Try.prog 49 [.func (.yield lp) #[] #[], .pointer (some ⟨s1, 0, none⟩), .pointer (some ⟨s2, 0, none⟩), .pointer (some ⟨s3, 0, none⟩)] w (fun v w' => v = .tuple #[] ∧ Inv e w') := by
  refine cl_of Try.func49 rfl Try.ntmps49 rfl (Mem.refl w) ?_
  have hlen := hT.2.1
  have hco := chgC_ok hT
  have hcl := chgC_len l
  have hcs := hco.sorted
  have ho2 := ho
  unfold zoneOK at ho2
  have hf1 : RowB w [] s1 26 [.slice Al l.length cl, .int .i64 b] := ⟨(hI _ _ h0).1, by simp⟩
  have hf2 : RowB w [] s2 33 [.int .i64 q, .int .i64 e] := ⟨(hI _ _ h0).2.1, by simp⟩
  have hf3 : RowB w [] s3 3 [.int .i64 o] := ⟨(hI _ _ h0).2.2.1, by simp⟩
  have hl : SlB w [] Al (encs encR l) := ⟨(hI _ _ h0).2.2.2, .inr (by simp)⟩
  refine wc_seq ?_
  refine wc_region ?_
  refine wl_ex (ex_loadS (vs := [.slice Al l.length cl, .int .i64 b]) rfl ag_26 sz_26 rfl (rd_fix hf1.1 hf1.2 (fun j v h => by simpa using h))) rfl rfl ?_
  refine wl_callS [.tmp 12] rfl ok_50 rfl (fun w hm => c_changes b Al cl l w (((sl_argB hl)).at hm)  (by assumption)) rfl fun A1 c2 => ?_
  refine wl_ex (ex_assign rfl) rfl rfl ?_
  refine wl_nil ?_
  refine pe_seq ?_
  refine wc_seq ?_
  refine wc_region ?_
  refine wl_ex (ex_fieldAddr (off' := 0) rfl Try.underlying33 rfl sz_3 rfl rfl) rfl rfl ?_
  refine wl_ex (ex_load rfl ag_3 (rd_fix1 hf2.1 hf2.2 rfl)) rfl rfl ?_
  refine wl_ex (ex_assign rfl) rfl rfl ?_
  refine wl_nil ?_
  refine pe_seq ?_
  refine wc_block ?_
  refine wc_loopS (σ := Int) (fun s => [(5, .slice A1 ((chgC l).length) c2), (6, .int .i64 s), (0, .func (.yield lp) #[] #[]), (1, .pointer (some ⟨s1, 0, none⟩)), (2, .pointer (some ⟨s2, 0, none⟩)), (3, .pointer (some ⟨s3, 0, none⟩))]) (fun s w => Inv s w ∧ SlB w T A1 (encs encI (chgC l)) ∧ q ≤ s ∧ s ≤ e) (fun s => (e - s).toNat) q (Sub.cons rfl rfl (Sub.cons rfl rfl (Sub.cons rfl rfl (Sub.cons rfl rfl (Sub.cons rfl rfl (Sub.cons rfl rfl (Sub.nil _))))))) (fun w hm => by exact ⟨hU _ _ w h0 hm.upd, own_slB (H1 := []) hm (.head _ _) (by simp [blks]) hT0, by omega, hs.2.1⟩) ?_
  rintro t w hG
  show WC _ _ _ [(5, .slice A1 ((chgC l).length) c2), (6, .int .i64 t), (0, .func (.yield lp) #[] #[]), (1, .pointer (some ⟨s1, 0, none⟩)), (2, .pointer (some ⟨s2, 0, none⟩)), (3, .pointer (some ⟨s3, 0, none⟩))] []
  replace hG : Inv t w ∧ SlB w T A1 (encs encI (chgC l)) ∧ q ≤ t ∧ t ≤ e := hG
  obtain ⟨h1, hsl, h3, h4⟩ := hG
  have hf1 : RowB w [] s1 26 [.slice Al l.length cl, .int .i64 b] := ⟨(hI _ _ h1).1, by simp⟩
  have hf2 : RowB w [] s2 33 [.int .i64 q, .int .i64 e] := ⟨(hI _ _ h1).2.1, by simp⟩
  have hf3 : RowB w [] s3 3 [.int .i64 o] := ⟨(hI _ _ h1).2.2.1, by simp⟩
  have hl : SlB w [] Al (encs encR l) := ⟨(hI _ _ h1).2.2.2, .inr (by simp)⟩
  have hcB : SlB w [] A1 (encs encI (chgC l)) := hsl.less (by simp)
  have hlo : 0 ≤ locI o t ∧ locI o t < 604800 := by unfold locI; omega
  have hcn : 0 ≤ cntI (chgC l) (locI o t % 86400 + 1) := Int.natCast_nonneg _
  refine wc_seq ?_
  refine wc_seq ?_
  refine wc_region ?_
  refine wl_ex (ex_move rfl) rfl rfl ?_
  refine wl_ex (ex_fieldAddr (off' := 1) rfl Try.underlying33 rfl sz_3 rfl rfl) rfl rfl ?_
  refine wl_ex (ex_load rfl ag_3 (rd_fix1 hf2.1 hf2.2 rfl)) rfl rfl ?_
  refine wl_ex (ex_lss rfl rfl) rfl rfl ?_
  refine wl_nil ?_
  refine pe_seq ?_
  refine wc_ite rfl (fun c19 => ?_) (fun c19 => ?_)
  · refine wc_skip ?_
    refine pe_seq ?_
    refine wc_block ?_
    refine wc_seq ?_
    refine wc_region ?_
    refine wl_ex (ex_load rfl ag_3 (rd_fix1 hf3.1 hf3.2 rfl)) rfl rfl ?_
    refine wl_ex (ex_move rfl) rfl rfl ?_
    refine wl_callV [.tmp 20, .tmp 21] rfl ok_51 rfl (fun w hm => c_local o t w   (by assumption) (by omega)) rfl ?_
    refine wl_ex (ex_assign rfl) rfl rfl ?_
    refine wl_nil ?_
    refine pe_seq ?_
    refine wc_seq ?_
    refine wc_region ?_
    refine wl_ex (ex_assign rfl) rfl rfl ?_
    refine wl_nil ?_
    refine pe_seq ?_
    refine wc_seq ?_
    refine wc_seq ?_
    refine wc_region ?_
    refine wl_ex (ex_move rfl) rfl rfl ?_
    refine wl_ex (ex_move rfl) rfl rfl ?_
    refine wl_ex (ex_rem rfl rfl (by omega) (by omega)) rfl rfl ?_
    refine wl_ex (ex_add rfl rfl (by omega) (by omega)) rfl rfl ?_
    refine wl_callV [.tmp 24, .tmp 27] rfl ok_52 rfl (fun w hm => c_SearchI A1 c2 (chgC l) (((locI o t) % 86400) + 1) w (((sl_argB hcB)).at hm)  (by exact chgC_ne _) (by omega) (by assumption)) rfl ?_
    refine wl_ex (ex_move rfl) rfl rfl ?_
    refine wl_ex (ex_extract rfl rfl) rfl rfl ?_
    refine wl_ex (ex_extract rfl rfl) rfl rfl ?_
    refine wl_ex (ex_assign rfl) rfl rfl ?_
    refine wl_ex (ex_assign rfl) rfl rfl ?_
    refine wl_nil ?_
    refine pe_seq ?_
    refine wc_seq ?_
    refine wc_region ?_
    refine wl_ex (ex_move rfl) rfl rfl ?_
    refine wl_ex (ex_move rfl) rfl rfl ?_
    refine wl_ex (ex_len Try.underlying41 rfl) rfl rfl ?_
    refine wl_ex (ex_lss rfl rfl) rfl rfl ?_
    refine wl_nil ?_
    refine pe_seq ?_
    refine wc_ite rfl (fun c34 => ?_) (fun c34 => ?_)
    · refine wc_region ?_
      refine wl_ex (ex_move rfl) rfl rfl ?_
      refine wl_ex (ex_move rfl) rfl rfl ?_
      refine wl_ex (ex_indexAddr rfl rfl Try.underlying41 sz_3 (sl_argB hcB) (by omega) (by omega) (enc_pos encI_len (by omega))) rfl rfl ?_
      obtain ⟨d_chgC_l_cntI_chgC_l_locI_o_t_86400_1, hd_chgC_l_cntI_chgC_l_locI_o_t_86400_1⟩ := get_if (chgC l) (cntI (chgC l) (((locI o t) % 86400) + 1))
      refine wl_ex (ex_load rfl ag_3 (rd_int (sl_argB hcB) (hd_chgC_l_cntI_chgC_l_locI_o_t_86400_1 (by omega) (by omega)))) rfl rfl ?_
      refine wl_ex (ex_assign rfl) rfl rfl ?_
      refine wl_nil ?_
      refine pe_seq ?_
      refine wc_seq ?_
      refine wc_region ?_
      refine wl_ex (ex_move rfl) rfl rfl ?_
      refine wl_ex (ex_move rfl) rfl rfl ?_
      have hdb := hco.bd _ (mem_at (hd_chgC_l_cntI_chgC_l_locI_o_t_86400_1 (by omega) (by omega)))
      refine wl_ex (ex_add rfl rfl (by omega) (by omega)) rfl rfl ?_
      refine wl_ex (ex_move rfl) rfl rfl ?_
      refine wl_ex (ex_rem rfl rfl (by omega) (by omega)) rfl rfl ?_
      refine wl_ex (ex_sub rfl rfl (by omega) (by omega)) rfl rfl ?_
      refine wl_ex (ex_fieldAddr (off' := 1) rfl Try.underlying33 rfl sz_3 rfl rfl) rfl rfl ?_
      refine wl_ex (ex_load rfl ag_3 (rd_fix1 hf2.1 hf2.2 rfl)) rfl rfl ?_
      refine wl_ex (ex_min rfl rfl) rfl rfl ?_
      refine wl_ex (ex_assign rfl) rfl rfl ?_
      refine wl_nil ?_
      refine pe_seq ?_
      refine wc_seq ?_
      refine wc_seq ?_
      refine wc_region ?_
      rw [show min ((t + d_chgC_l_cntI_chgC_l_locI_o_t_86400_1) - ((locI o t) % 86400)) e = nxtT o (chgC l) e t from nxt_in c34 (hd_chgC_l_cntI_chgC_l_locI_o_t_86400_1 (by omega) (by omega))]
      refine wl_ex (ex_move rfl) rfl rfl ?_
      refine wl_ex (ex_move rfl) rfl rfl ?_
      refine wl_ex (ex_move rfl) rfl rfl ?_
      refine wl_ex (ex_build (cells := #[.int .i64 t, .int .i64 (nxtT o (chgC l) e t)]) [0, 1] [.tmp 49, .tmp 50] rfl rfl Try.underlying33 ze_33 pl_33 rfl) rfl rfl ?_
      refine wl_ex (ex_loadS (vs := [.slice Al l.length cl, .int .i64 b]) rfl ag_26 sz_26 rfl (rd_fix hf1.1 hf1.2 (fun j v h => by simpa using h))) rfl rfl ?_
      refine wl_ex (ex_move rfl) rfl rfl ?_
      refine wl_callV [.tmp 52, .tmp 53] rfl ok_53 rfl (fun w hm => c_rated b Al cl l (locI o t) w (((sl_argB hl)).at hm)  (by first | assumption | omega) (by first | omega | (unfold locI; omega))) rfl ?_
      refine wl_ex (ex_build (cells := #[.int .i64 t, .int .i64 (nxtT o (chgC l) e t), .int .i64 (rateI b l (locI o t))]) [0, 1] [.tmp 51, .tmp 54] rfl rfl Try.underlying77 ze_77 pl_77 rfl) rfl rfl ?_
      refine wl_yield rfl rfl rfl (fun w hm => hY t _ w (hU t _ w h1 hm.upd) hm.upd h3 (by omega)) rfl ?_
      rintro w _ ⟨rfl, h1, hu⟩
      replace hsl := hsl.upd hu (fun _ h => h)
      refine wl_ex (ex_notb rfl) rfl rfl ?_
      refine wl_nil ?_
      refine pe_seq ?_
      refine wc_iff rfl ?_
      refine wc_skip ?_
      refine pe_seq ?_
      refine wc_region ?_
      refine wl_ex (ex_move rfl) rfl rfl ?_
      refine wl_ex (ex_assign rfl) rfl rfl ?_
      refine wl_nil ?_
      refine pe_block _ ?_
      refine pe_againS rfl rfl (nxtT o (chgC l) e t) (Sub.cons rfl rfl (Sub.cons rfl rfl (Sub.cons rfl rfl (Sub.cons rfl rfl (Sub.cons rfl rfl (Sub.cons rfl rfl (Sub.nil _))))))) (fun w hm => ?_) ?_
      · show Inv (nxtT o (chgC l) e t) w ∧ SlB w T A1 (encs encI (chgC l)) ∧ q ≤ (nxtT o (chgC l) e t) ∧ (nxtT o (chgC l) e t) ≤ e
        have hns := nxtT_spec (b := b) hT ho (chgC_ok hT) (show 0 ≤ t by omega) (show t < e by omega)
        exact ⟨hU _ _ _ h1 hm.upd, hsl.upd hm.upd (fun _ h => by cases h), by omega, by omega⟩
      · (have hns := nxtT_spec (b := b) hT ho (chgC_ok hT) (show 0 ≤ t by omega) (show t < e by omega)); (show (e - nxtT o (chgC l) e t).toNat < _); omega
    · refine wc_skip ?_
      refine pe_seq ?_
      refine wc_seq ?_
      refine wc_region ?_
      refine wl_ex (ex_move rfl) rfl rfl ?_
      refine wl_ex (ex_move rfl) rfl rfl ?_
      refine wl_ex (ex_add rfl rfl (by omega) (by omega)) rfl rfl ?_
      refine wl_ex (ex_move rfl) rfl rfl ?_
      refine wl_ex (ex_rem rfl rfl (by omega) (by omega)) rfl rfl ?_
      refine wl_ex (ex_sub rfl rfl (by omega) (by omega)) rfl rfl ?_
      refine wl_ex (ex_fieldAddr (off' := 1) rfl Try.underlying33 rfl sz_3 rfl rfl) rfl rfl ?_
      refine wl_ex (ex_load rfl ag_3 (rd_fix1 hf2.1 hf2.2 rfl)) rfl rfl ?_
      refine wl_ex (ex_min rfl rfl) rfl rfl ?_
      refine wl_ex (ex_assign rfl) rfl rfl ?_
      refine wl_nil ?_
      refine pe_seq ?_
      refine wc_seq ?_
      refine wc_seq ?_
      refine wc_region ?_
      rw [show min ((t + 86400) - ((locI o t) % 86400)) e = nxtT o (chgC l) e t from nxt_out c34]
      refine wl_ex (ex_move rfl) rfl rfl ?_
      refine wl_ex (ex_move rfl) rfl rfl ?_
      refine wl_ex (ex_move rfl) rfl rfl ?_
      refine wl_ex (ex_build (cells := #[.int .i64 t, .int .i64 (nxtT o (chgC l) e t)]) [0, 1] [.tmp 49, .tmp 50] rfl rfl Try.underlying33 ze_33 pl_33 rfl) rfl rfl ?_
      refine wl_ex (ex_loadS (vs := [.slice Al l.length cl, .int .i64 b]) rfl ag_26 sz_26 rfl (rd_fix hf1.1 hf1.2 (fun j v h => by simpa using h))) rfl rfl ?_
      refine wl_ex (ex_move rfl) rfl rfl ?_
      refine wl_callV [.tmp 52, .tmp 53] rfl ok_53 rfl (fun w hm => c_rated b Al cl l (locI o t) w (((sl_argB hl)).at hm)  (by first | assumption | omega) (by first | omega | (unfold locI; omega))) rfl ?_
      refine wl_ex (ex_build (cells := #[.int .i64 t, .int .i64 (nxtT o (chgC l) e t), .int .i64 (rateI b l (locI o t))]) [0, 1] [.tmp 51, .tmp 54] rfl rfl Try.underlying77 ze_77 pl_77 rfl) rfl rfl ?_
      refine wl_yield rfl rfl rfl (fun w hm => hY t _ w (hU t _ w h1 hm.upd) hm.upd h3 (by omega)) rfl ?_
      rintro w _ ⟨rfl, h1, hu⟩
      replace hsl := hsl.upd hu (fun _ h => h)
      refine wl_ex (ex_notb rfl) rfl rfl ?_
      refine wl_nil ?_
      refine pe_seq ?_
      refine wc_iff rfl ?_
      refine wc_skip ?_
      refine pe_seq ?_
      refine wc_region ?_
      refine wl_ex (ex_move rfl) rfl rfl ?_
      refine wl_ex (ex_assign rfl) rfl rfl ?_
      refine wl_nil ?_
      refine pe_block _ ?_
      refine pe_againS rfl rfl (nxtT o (chgC l) e t) (Sub.cons rfl rfl (Sub.cons rfl rfl (Sub.cons rfl rfl (Sub.cons rfl rfl (Sub.cons rfl rfl (Sub.cons rfl rfl (Sub.nil _))))))) (fun w hm => ?_) ?_
      · show Inv (nxtT o (chgC l) e t) w ∧ SlB w T A1 (encs encI (chgC l)) ∧ q ≤ (nxtT o (chgC l) e t) ∧ (nxtT o (chgC l) e t) ≤ e
        have hns := nxtT_spec (b := b) hT ho (chgC_ok hT) (show 0 ≤ t by omega) (show t < e by omega)
        exact ⟨hU _ _ _ h1 hm.upd, hsl.upd hm.upd (fun _ h => by cases h), by omega, by omega⟩
      · (have hns := nxtT_spec (b := b) hT ho (chgC_ok hT) (show 0 ≤ t by omega) (show t < e by omega)); (show (e - nxtT o (chgC l) e t).toNat < _); omega
  · refine wc_exit ?_
    refine pe_seq_exit ?_
    refine pe_loopS_exit ?_
    refine pe_block_exit ?_
    have e1 : t = e := by omega
    subst e1
    refine pe_ret0n rfl rfl (fun w' hm => ⟨rfl, hU _ _ _ h1 hm.upd⟩)

end Go.Proofs.Yteglbaidaekccaa
