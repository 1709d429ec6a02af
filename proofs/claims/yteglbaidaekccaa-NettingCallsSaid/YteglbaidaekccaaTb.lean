/- Walks. -/
import Derived.Test.YteglbaidaekccaaTa
set_option linter.unusedVariables false
set_option linter.unusedSimpArgs false
set_option maxRecDepth 10000
namespace Go.Proofs.Yteglbaidaekccaa
open Go Go.RowKit

theorem ok_62 : callOK Try.prog 62 = true := by kernel_rfl

theorem c_rated1 (d : Rate) (r : Nat) (s : Int) (w : World) (hr : RowAt w r 3 [.int .i64 s]) (hd : okR d) (hs : 0 ≤ s ∧ s < 604800) :
    Cl Try.prog 62 [.agg (encR d).toArray, .pointer (some ⟨r, 0, none⟩)] w (IsV (.bool (decide (hitR s d))) w) := by
  refine cl_of Try.func62 rfl Try.ntmps62 rfl (Mem.refl w) ?_
  unfold okR at hd
  have hsb := shr_bd (k := s / 86400) (show 0 ≤ d.days by omega)
  have hh : hitR s d ↔ (andI (shrI d.days (s / 86400)) 1 = 1 ∧ d.frm ≤ s % 86400 ∧ s % 86400 ≤ d.to - 1) := by unfold hitR; rw [hit_and]
  refine wc_seq ?_
  refine wc_region ?_
  refine wl_box rfl rfl rfl fun r1 => ?_
  refine wl_ex (ex_assign rfl) rfl rfl ?_
  refine wl_nil ?_
  refine pe_seq ?_
  refine wc_seq ?_
  refine wc_region ?_
  refine wl_ex (ex_fieldAddr (off' := 0) rfl Try.underlying56 rfl sz_3 rfl rfl) rfl rfl ?_
  refine wl_ex (ex_load rfl ag_3 (rd_row1 (.head _ _) rfl)) rfl rfl ?_
  refine wl_ex (ex_load rfl ag_3 (rd_fix1 hr (by simp) rfl)) rfl rfl ?_
  refine wl_ex (ex_quo rfl rfl (by omega) (by omega) (by omega)) rfl rfl ?_
  refine wl_ex (ex_shr rfl rfl (by omega) (by omega)) rfl rfl ?_
  refine wl_ex (ex_and rfl rfl (by omega) (by omega)) rfl rfl ?_
  refine wl_ex (ex_eql rfl rfl) rfl rfl ?_
  refine wl_ex (ex_move rfl) rfl rfl ?_
  by_cases g2 : andI (shrI d.days (s / 86400)) 1 = 1
  · refine wl_pass rfl rfl rfl (decide_eq_true g2) ?_
    refine wl_ex (ex_load rfl ag_3 (rd_fix1 hr (by simp) rfl)) rfl rfl ?_
    refine wl_pass rfl rfl rfl (decide_eq_true g2) ?_
    refine wl_ex (ex_rem rfl rfl (by omega) (by omega)) rfl rfl ?_
    refine wl_pass rfl rfl rfl (decide_eq_true g2) ?_
    refine wl_ex (ex_fieldAddr (off' := 1) rfl Try.underlying56 rfl sz_3 rfl rfl) rfl rfl ?_
    refine wl_pass rfl rfl rfl (decide_eq_true g2) ?_
    refine wl_ex (ex_load rfl ag_3 (rd_row1 (.head _ _) rfl)) rfl rfl ?_
    refine wl_pass rfl rfl rfl (decide_eq_true g2) ?_
    refine wl_ex (ex_fieldAddr (off' := 2) rfl Try.underlying56 rfl sz_3 rfl rfl) rfl rfl ?_
    refine wl_pass rfl rfl rfl (decide_eq_true g2) ?_
    refine wl_ex (ex_load rfl ag_3 (rd_row1 (.head _ _) rfl)) rfl rfl ?_
    refine wl_pass rfl rfl rfl (decide_eq_true g2) ?_
    refine wl_ex (ex_sub rfl rfl (by omega) (by omega)) rfl rfl ?_
    refine wl_pass rfl rfl rfl (decide_eq_true g2) ?_
    refine wl_callV [.tmp 13, .tmp 15, .tmp 18] rfl ok_47 rfl (fun w hm => c_isInT (s % 86400) d.frm (d.to - 1) w   ) rfl ?_
    refine wl_ex (ex_pickt rfl (decide_eq_true g2) rfl) rfl rfl ?_
    refine wl_ex (ex_assign rfl) rfl rfl ?_
    refine wl_nil ?_
    refine pe_seq ?_
    refine wc_ret ?_
    refine pe_ret1 rfl rfl rfl (fun w' hm => ⟨?_, hm.ent (.nil _)⟩)
    first | exact congrArg Value.bool (decide_eq_true (by rw [hh]; omega)).symm | exact congrArg Value.bool (decide_eq_false (by rw [hh]; omega)).symm | exact congrArg Value.bool (decide_eq_decide.2 (by rw [hh]; omega))
  · refine wl_skip rfl rfl rfl (fun h => g2 (of_decide_eq_true (Value.bool.inj h))) rfl rfl ?_
    refine wl_skip rfl rfl rfl (fun h => g2 (of_decide_eq_true (Value.bool.inj h))) rfl rfl ?_
    refine wl_skip rfl rfl rfl (fun h => g2 (of_decide_eq_true (Value.bool.inj h))) rfl rfl ?_
    refine wl_skip rfl rfl rfl (fun h => g2 (of_decide_eq_true (Value.bool.inj h))) rfl rfl ?_
    refine wl_skip rfl rfl rfl (fun h => g2 (of_decide_eq_true (Value.bool.inj h))) rfl rfl ?_
    refine wl_skip rfl rfl rfl (fun h => g2 (of_decide_eq_true (Value.bool.inj h))) rfl rfl ?_
    refine wl_skip rfl rfl rfl (fun h => g2 (of_decide_eq_true (Value.bool.inj h))) rfl rfl ?_
    refine wl_skip rfl rfl rfl (fun h => g2 (of_decide_eq_true (Value.bool.inj h))) rfl rfl ?_
    refine wl_ex (ex_pickf rfl (decide_eq_false g2) rfl) rfl rfl ?_
    refine wl_ex (ex_assign rfl) rfl rfl ?_
    refine wl_nil ?_
    refine pe_seq ?_
    refine wc_ret ?_
    refine pe_ret1 rfl rfl rfl (fun w' hm => ⟨?_, hm.ent (.nil _)⟩)
    first | exact congrArg Value.bool (decide_eq_true (by rw [hh]; omega)).symm | exact congrArg Value.bool (decide_eq_false (by rw [hh]; omega)).symm | exact congrArg Value.bool (decide_eq_decide.2 (by rw [hh]; omega))

theorem c_rated (b : Int) (Al : Option Addr) (cl : Nat) (l : List Rate) (s : Int) (w : World) (hl : Sl w Al (encs encR l)) (hT : tarOK b l) (hs : 0 ≤ s ∧ s < 604800) :
    Cl Try.prog 53 [.agg #[.slice Al l.length cl, .int .i64 b], .int .i64 s] w (IsV (.int .i64 (rateI b l s)) w) := by
  refine cl_of Try.func53 rfl Try.ntmps53 rfl (Mem.refl w) ?_
  have hlen := hT.2.1
  have hbd := hT.2.2
  have hix : idxI (hitR s) l < (l.length : Int) := by
    rcases idxI_spec (hitR s) l with ⟨e, _⟩ | ⟨k, d, e, hk, _, _⟩
    · omega
    · have := (List.getElem?_eq_some_iff.1 hk).1; omega
  refine wc_seq ?_
  refine wc_region ?_
  refine wl_box rfl rfl rfl fun r1 => ?_
  refine wl_box rfl rfl rfl fun r2 => ?_
  refine wl_ex (ex_assign rfl) rfl rfl ?_
  refine wl_nil ?_
  refine pe_seq ?_
  refine wc_seq ?_
  refine wc_region ?_
  refine wl_ex (ex_fieldAddr (off' := 0) rfl Try.underlying26 rfl sz_24 rfl rfl) rfl rfl ?_
  refine wl_ex (ex_load rfl ag_24 (rd_row1 (.tail (.head _ _)) rfl)) rfl rfl ?_
  refine wl_ex (ex_makeFunc (os := []) (cs := [.tmp 3]) rfl rfl) rfl rfl ?_
  refine wl_callV [.tmp 7, .tmp 8] rfl ok_57 rfl (fun w hm => c_IndexFuncR Al cl l 62 [.pointer (some ⟨r2, 0, none⟩)] (hitR s) w (((sl_arg hl rfl)).at hm) (by first | omega | assumption | (simp only [List.length_cons, List.length_nil]; omega)) ok_62 (fun d hd w' hu => c_rated1 d r2 s w' ((hm.rowAt (.head _ _)).upd hu (by simp)) (hbd d hd) (by omega))  ) rfl ?_
  refine wl_ex (ex_assign rfl) rfl rfl ?_
  refine wl_nil ?_
  refine pe_seq ?_
  refine wc_seq ?_
  refine wc_seq ?_
  refine wc_region ?_
  refine wl_ex (ex_move rfl) rfl rfl ?_
  refine wl_ex (ex_lss rfl rfl) rfl rfl ?_
  refine wl_nil ?_
  refine pe_seq ?_
  refine wc_ite rfl (fun c11 => ?_) (fun c11 => ?_)
  · refine wc_seq ?_
    refine wc_region ?_
    refine wl_ex (ex_fieldAddr (off' := 1) rfl Try.underlying26 rfl sz_3 rfl rfl) rfl rfl ?_
    refine wl_ex (ex_load rfl ag_3 (rd_row1 (.tail (.head _ _)) rfl)) rfl rfl ?_
    refine wl_ex (ex_assign rfl) rfl rfl ?_
    refine wl_nil ?_
    refine pe_seq ?_
    refine wc_ret ?_
    refine pe_seq_ret ?_
    refine pe_ret1 rfl rfl rfl (fun w' hm => ⟨?_, hm.ent (.nil _)⟩)
    exact congrArg (Value.int .i64) (by unfold rateI; rw [if_pos c11])
  · refine wc_skip ?_
    refine pe_seq ?_
    refine wc_seq ?_
    refine wc_region ?_
    refine wl_ex (ex_fieldAddr (off' := 0) rfl Try.underlying26 rfl sz_24 rfl rfl) rfl rfl ?_
    refine wl_ex (ex_load rfl ag_24 (rd_row1 (.tail (.head _ _)) rfl)) rfl rfl ?_
    refine wl_ex (ex_move rfl) rfl rfl ?_
    refine wl_ex (ex_indexAddr rfl rfl Try.underlying24 sz_56 (sl_arg hl rfl) (by omega) (by omega) (enc_pos encR_len (by omega))) rfl rfl ?_
    refine wl_ex (ex_fieldAddr (off' := oOf Al + (idxI (hitR s) l).toNat * 4 + 3) rfl Try.underlying56 rfl sz_3 rfl rfl) rfl rfl ?_
    obtain ⟨d_l_idxI_hitR_s_l, hd_l_idxI_hitR_s_l⟩ := get_if l (idxI (hitR s) l)
    refine wl_ex (ex_load rfl ag_3 (rd_enc (j := 3) encR_len (sl_arg hl rfl) (hd_l_idxI_hitR_s_l (by omega) (by omega)) rfl)) rfl rfl ?_
    refine wl_ex (ex_assign rfl) rfl rfl ?_
    refine wl_nil ?_
    refine pe_seq ?_
    refine wc_ret ?_
    refine pe_ret1 rfl rfl rfl (fun w' hm => ⟨?_, hm.ent (.nil _)⟩)
    refine congrArg (Value.int .i64) ?_
    unfold rateI
    rw [if_neg c11, List.getD_eq_getElem?_getD, hd_l_idxI_hitR_s_l (by omega) (by omega)]
    rfl

end Go.Proofs.Yteglbaidaekccaa
