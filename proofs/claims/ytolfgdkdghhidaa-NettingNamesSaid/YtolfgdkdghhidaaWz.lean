/- Walks. -/
import Derived.Test.YtolfgdkdghhidaaWy
import Derived.Test.YtolfgdkdghhidaaP39
set_option linter.unusedVariables false
set_option linter.unusedSimpArgs false
namespace Go.Proofs.Ytolfgdkdghhidaa
open Go Go.RowKit

theorem ok_35 : callOK Try.prog 35 = true := by kernel_rfl

theorem c_renamed (c a b : Int) (w : World)  :
    Cl Try.prog 35 [.int .i64 c, .int .i64 a, .int .i64 b] w (IsV (.int .i64 (ren a b c)) w) := by
  refine cl_of Try.func35 rfl Try.ntmps35 rfl (Mem.refl w) ?_
  refine wc_seq ?_
  refine wc_region ?_
  refine wl_ex (ex_assign rfl) rfl rfl ?_
  refine wl_nil ?_
  refine pe_seq ?_
  refine wc_seq ?_
  refine wc_seq ?_
  refine wc_region ?_
  refine wl_ex (ex_move rfl) rfl rfl ?_
  refine wl_ex (ex_move rfl) rfl rfl ?_
  refine wl_ex (ex_eql rfl rfl) rfl rfl ?_
  refine wl_nil ?_
  refine pe_seq ?_
  refine wc_ite rfl (fun c9 => ?_) (fun c9 => ?_)
  · refine wc_seq ?_
    refine wc_region ?_
    refine wl_ex (ex_move rfl) rfl rfl ?_
    refine wl_ex (ex_assign rfl) rfl rfl ?_
    refine wl_nil ?_
    refine pe_seq ?_
    refine wc_ret ?_
    refine pe_seq_ret ?_
    refine pe_ret1 rfl rfl rfl (fun w' hm => ⟨?_, hm.ent (.nil _)⟩)
    exact congrArg (Value.int .i64) (by unfold ren; grind)
  · refine wc_skip ?_
    refine pe_seq ?_
    refine wc_seq ?_
    refine wc_seq ?_
    refine wc_region ?_
    refine wl_ex (ex_move rfl) rfl rfl ?_
    refine wl_ex (ex_move rfl) rfl rfl ?_
    refine wl_ex (ex_eql rfl rfl) rfl rfl ?_
    refine wl_nil ?_
    refine pe_seq ?_
    refine wc_ite rfl (fun c13 => ?_) (fun c13 => ?_)
    · refine wc_seq ?_
      refine wc_region ?_
      refine wl_ex (ex_move rfl) rfl rfl ?_
      refine wl_ex (ex_assign rfl) rfl rfl ?_
      refine wl_nil ?_
      refine pe_seq ?_
      refine wc_ret ?_
      refine pe_seq_ret ?_
      refine pe_ret1 rfl rfl rfl (fun w' hm => ⟨?_, hm.ent (.nil _)⟩)
      exact congrArg (Value.int .i64) (by unfold ren; grind)
    · refine wc_skip ?_
      refine pe_seq ?_
      refine wc_seq ?_
      refine wc_region ?_
      refine wl_ex (ex_move rfl) rfl rfl ?_
      refine wl_ex (ex_assign rfl) rfl rfl ?_
      refine wl_nil ?_
      refine pe_seq ?_
      refine wc_ret ?_
      refine pe_ret1 rfl rfl rfl (fun w' hm => ⟨?_, hm.ent (.nil _)⟩)
      exact congrArg (Value.int .i64) (by unfold ren; grind)

theorem c_Names (Ax : Option Addr) (cx : Nat) (x : List Tri) (Ay : Option Addr) (cy : Nat) (y : List Int) (p1 p2 p3 : Int) (w : World) (hx : Sl w Ax (encs encT x)) (hy : Sl w Ay (encs encI y)) (hxk : ∀ t ∈ x, t.ok) (hyk : ∀ n ∈ y, i64 n) (b1 : i64 p1) (b2 : i64 p2) (b3 : i64 p3) :
    Cl Try.prog 10 [.slice Ax x.length cx, .slice Ay y.length cy, .int .i64 p1, .int .i64 p2, .int .i64 p3] w (IsV (.bool true) w) := by
  refine cl_of Try.func10 rfl Try.ntmps10 rfl (Mem.refl w) ?_
  unfold i64 at b1 b2 b3
  have ha := pick_bd p1 8 (by omega)
  have hb := pick_bd p2 8 (by omega)
  have hm5 := pick_bd p3 5 (by omega)
  have hmd := made_debts x
  have hml := made_len x
  have hbb : balR (madeI x) = balI (madeI x) := if_pos hmd
  have he : errN (madeI x) = 0 := if_pos hmd
  have hz1 : ¬ (errN (madeI x) ≠ 0) := fun h => h he
  have hz2 : ¬ (((balR (madeI x)).length : Int) ≠ 8) := by rw [hbb, balI_length]; simp
  have hb8 : (balR (madeI x)).length = 8 := by rw [hbb]; exact balI_length _
  have hg := even_good y
  have he8 : (evenI y).length = 8 := hg.2.1
  refine wc_seq ?_
  refine wc_region ?_
  refine wl_ex (ex_assign rfl) rfl rfl ?_
  refine wl_nil ?_
  refine pe_seq ?_
  refine wc_seq ?_
  refine wc_seq ?_
  refine wc_region ?_
  refine wl_callV [] rfl ok_11 rfl (fun w hm => c_sane  w   ) rfl ?_
  refine wl_ex (ex_notb rfl) rfl rfl ?_
  refine wl_nil ?_
  refine pe_seq ?_
  refine wc_iff rfl ?_
  refine wc_skip ?_
  refine pe_seq ?_
  refine wc_seq ?_
  refine wc_region ?_
  refine wl_ex (ex_move rfl) rfl rfl ?_
  refine wl_callV [.tmp 42, .const (.int .i64 8)] rfl ok_34 rfl (fun w hm => c_pickL p1 8 w   (by omega) (by omega)) rfl ?_
  refine wl_ex (ex_assign rfl) rfl rfl ?_
  refine wl_nil ?_
  refine pe_seq ?_
  refine wc_seq ?_
  refine wc_region ?_
  refine wl_ex (ex_move rfl) rfl rfl ?_
  refine wl_callV [.tmp 44, .const (.int .i64 8)] rfl ok_34 rfl (fun w hm => c_pickL p2 8 w   (by omega) (by omega)) rfl ?_
  refine wl_ex (ex_assign rfl) rfl rfl ?_
  refine wl_nil ?_
  refine pe_seq ?_
  refine wc_seq ?_
  refine wc_region ?_
  refine wl_ex (ex_move rfl) rfl rfl ?_
  refine wl_callS [.tmp 46] rfl ok_12 rfl (fun w hm => c_Made Ax cx x w (((sl_arg hx rfl)).at hm)  (by assumption)) rfl fun A1 c2 => ?_
  refine wl_ex (ex_assign rfl) rfl rfl ?_
  refine wl_nil ?_
  refine pe_seq ?_
  refine wc_seq ?_
  refine wc_region ?_
  refine wl_ex (ex_assign rfl) rfl rfl ?_
  refine wl_nil ?_
  refine pe_seq ?_
  refine wc_seq ?_
  refine wc_seq ?_
  refine wc_region ?_
  refine wl_ex (ex_assign rfl) rfl rfl ?_
  refine wl_nil ?_
  refine pe_seq ?_
  refine wc_block ?_
  refine wc_nilOwn 47 3 ?_
  refine wc_loop (σ := Int × (List Debt) × (Option Addr) × Nat) (fun s => [(14, .slice s.2.2.1 s.2.1.length s.2.2.2), (15, .int .i64 s.1), (1, .slice Ay y.length cy), (4, .int .i64 p3), (11, .int .i64 (pickI p1 8)), (12, .int .i64 (pickI p2 8)), (13, .slice A1 ((madeI x).length) c2)]) (fun s => [.own s.2.2.1 s.2.1.length s.2.2.2 47 3 (encs encD s.2.1), .own A1 ((madeI x).length) c2 47 3 (encs encD (madeI x))]) (fun s => (0 ≤ s.1 ∧ s.1 ≤ ((madeI x).length : Int)) ∧ s.2.1 = ((madeI x).take s.1.toNat).map (renD (pickI p1 8) (pickI p2 8))) (fun s => (((madeI x).length : Int) - s.1).toNat) ((0 : Int), ([] : List Debt), none, 0) (Sub.cons rfl rfl (Sub.cons rfl rfl (Sub.cons rfl rfl (Sub.cons rfl rfl (Sub.cons rfl rfl (Sub.cons rfl rfl (Sub.cons rfl rfl (Sub.nil _)))))))) (.cons (.head _ _) (by first | rfl | simp) (.cons (.head _ _) rfl (.nil _))) (by first | (simp; done) | (simp; omega)) ?_
  rintro ⟨i, m, AM, cM⟩ hG
  show WC _ _ _ [(14, .slice AM m.length cM), (15, .int .i64 i), (1, .slice Ay y.length cy), (4, .int .i64 p3), (11, .int .i64 (pickI p1 8)), (12, .int .i64 (pickI p2 8)), (13, .slice A1 ((madeI x).length) c2)] [.own AM m.length cM 47 3 (encs encD m), .own A1 ((madeI x).length) c2 47 3 (encs encD (madeI x))]
  replace hG : (0 ≤ i ∧ i ≤ ((madeI x).length : Int)) ∧ m = ((madeI x).take i.toNat).map (renD (pickI p1 8) (pickI p2 8)) := hG
  obtain ⟨h1, h2⟩ := hG
  have hmln : m.length ≤ 20 := by rw [h2]; simp; omega
  refine wc_seq ?_
  refine wc_seq ?_
  refine wc_region ?_
  refine wl_ex (ex_move rfl) rfl rfl ?_
  refine wl_ex (ex_move rfl) rfl rfl ?_
  refine wl_ex (ex_len Try.underlying24 rfl) rfl rfl ?_
  refine wl_ex (ex_lss rfl rfl) rfl rfl ?_
  refine wl_nil ?_
  refine pe_seq ?_
  refine wc_ite rfl (fun c51 => ?_) (fun c51 => ?_)
  · refine wc_skip ?_
    refine pe_seq ?_
    refine wc_seq ?_
    refine wc_block ?_
    refine wc_draw [.own A1 ((madeI x).length) c2 47 3 (encs encD (madeI x))] [(0, true), (1, true), (2, true), (3, true), (4, true), (5, true), (6, true), (7, true), (9, true), (10, true), (11, true), (12, true), (13, true), (14, true), (15, true), (17, true), (18, true), (19, true), (20, true), (21, true), (8, false), (16, false), (22, true), (23, false), (24, false), (25, true)] mixed (by kernel_rfl) (.cons (.tail (.head _ _)) rfl (.nil _)) ?_
    refine cn_ex rfl (ex_move rfl) rfl rfl ?_
    refine cn_ex rfl (ex_move rfl) rfl rfl ?_
    refine cn_ex rfl (ex_move rfl) rfl rfl ?_
    refine cn_ex rfl (ex_indexAddr rfl rfl Try.underlying24 sz_47 (sl_own (.head _ _)) (by omega) (by omega) (enc_pos encD_len (by omega))) rfl rfl ?_
    refine cn_ex rfl (ex_fieldAddr (off' := oOf A1 + (i).toNat * 3 + 0) rfl Try.underlying47 rfl sz_3 rfl rfl) rfl rfl ?_
    obtain ⟨d_madeI_x_i, hd_madeI_x_i⟩ := get_if (madeI x) i
    refine cn_ex rfl (ex_load rfl ag_3 (rd_enc (j := 0) encD_len (sl_own (.head _ _)) (hd_madeI_x_i (by omega) (by omega)) rfl)) rfl rfl ?_
    refine cn_ex rfl (ex_move rfl) rfl rfl ?_
    refine cn_ex rfl (ex_move rfl) rfl rfl ?_
    refine cn_ex rfl (ex_move rfl) rfl rfl ?_
    refine cn_ex rfl (ex_move rfl) rfl rfl ?_
    refine cn_ex rfl (ex_indexAddr rfl rfl Try.underlying24 sz_47 (sl_own (.head _ _)) (by omega) (by omega) (enc_pos encD_len (by omega))) rfl rfl ?_
    refine cn_ex rfl (ex_fieldAddr (off' := oOf A1 + (i).toNat * 3 + 1) rfl Try.underlying47 rfl sz_3 rfl rfl) rfl rfl ?_
    refine cn_ex rfl (ex_load rfl ag_3 (rd_enc (j := 1) encD_len (sl_own (.head _ _)) (hd_madeI_x_i (by omega) (by omega)) rfl)) rfl rfl ?_
    refine cn_ex rfl (ex_move rfl) rfl rfl ?_
    refine cn_ex rfl (ex_move rfl) rfl rfl ?_
    refine cn_ex rfl (ex_move rfl) rfl rfl ?_
    refine cn_ex rfl (ex_move rfl) rfl rfl ?_
    refine cn_ex rfl (ex_indexAddr rfl rfl Try.underlying24 sz_47 (sl_own (.head _ _)) (by omega) (by omega) (enc_pos encD_len (by omega))) rfl rfl ?_
    refine cn_ex rfl (ex_fieldAddr (off' := oOf A1 + (i).toNat * 3 + 2) rfl Try.underlying47 rfl sz_3 rfl rfl) rfl rfl ?_
    refine cn_ex rfl (ex_load rfl ag_3 (rd_enc (j := 2) encD_len (sl_own (.head _ _)) (hd_madeI_x_i (by omega) (by omega)) rfl)) rfl rfl ?_
    refine cn_tail rfl ?_
    refine wl_callV [.tmp 59, .tmp 60, .tmp 61] rfl ok_35 rfl (fun w hm => c_renamed d_madeI_x_i.frm (pickI p1 8) (pickI p2 8) w   ) rfl ?_
    refine cn_back (.cons (.tail (.head _ _)) rfl (.nil _)) ?_
    refine cn_tail rfl ?_
    refine wl_callV [.tmp 67, .tmp 68, .tmp 69] rfl ok_35 rfl (fun w hm => c_renamed d_madeI_x_i.to (pickI p1 8) (pickI p2 8) w   ) rfl ?_
    refine cn_back (.cons (.tail (.head _ _)) rfl (.nil _)) ?_
    refine cn_ex rfl (ex_build (cells := #[.int .i64 (ren (pickI p1 8) (pickI p2 8) d_madeI_x_i.frm), .int .i64 (ren (pickI p1 8) (pickI p2 8) d_madeI_x_i.to), .int .i64 d_madeI_x_i.amt]) [0, 1, 2] [.tmp 62, .tmp 70, .tmp 75] rfl rfl Try.underlying47 ze_47 pl_47 rfl) rfl rfl ?_
    refine cn_tail rfl ?_
    refine wl_buildSlice [.tmp 76] rfl rfl Try.underlying24 sz_47 ze_47 rfl (by simp [Value.cells]) (by omega) (by omega) rfl fun r6 => ?_
    rw [show List.flatMap (fun x => x.cells.toList) [(.agg #[.int .i64 (ren (pickI p1 8) (pickI p2 8) d_madeI_x_i.frm), .int .i64 (ren (pickI p1 8) (pickI p2 8) d_madeI_x_i.to), .int .i64 d_madeI_x_i.amt] : Value)] = encs encD [⟨ren (pickI p1 8) (pickI p2 8) d_madeI_x_i.frm, ren (pickI p1 8) (pickI p2 8) d_madeI_x_i.to, d_madeI_x_i.amt⟩] from rfl]
    refine cn_back (.cons (.tail (.tail (.head _ _))) rfl (.nil _)) ?_
    refine cn_tail rfl ?_
    refine wl_appendE encD_len encD_one rfl rfl Try.underlying24 sz_47 ze_47 rfl by_47 rfl (.tail (.head _ _)) (sl_own (.head _ _)) (by rfl) (by first | rfl | simp) (by first | omega | (simp; omega)) (by first | omega | (simp; omega)) rfl fun A7 c8 => ?_
    refine cn_back (.cons (.tail (.tail (.head _ _))) rfl (.nil _)) ?_
    refine cn_ex rfl (ex_assign rfl) rfl rfl ?_
    refine cn_nil ?_
    refine pe_block _ ?_
    refine pe_seq ?_
    refine wc_region ?_
    refine wl_ex (ex_move rfl) rfl rfl ?_
    refine wl_ex (ex_add rfl rfl (by omega) (by omega)) rfl rfl ?_
    refine wl_ex (ex_assign rfl) rfl rfl ?_
    refine wl_nil ?_
    refine pe_again ⟨i + 1, m ++ ([⟨ren (pickI p1 8) (pickI p2 8) d_madeI_x_i.frm, ren (pickI p1 8) (pickI p2 8) d_madeI_x_i.to, d_madeI_x_i.amt⟩]), A7, c8⟩ (Sub.cons rfl (by first | rfl | simp) (Sub.cons rfl rfl (Sub.cons rfl rfl (Sub.cons rfl rfl (Sub.cons rfl rfl (Sub.cons rfl rfl (Sub.cons rfl rfl (Sub.nil _)))))))) (.cons (.head _ _) (by first | rfl | simp) (.cons (.tail (.head _ _)) rfl (.nil _))) ?_ ?_
    · show (0 ≤ (i + 1) ∧ (i + 1) ≤ ((madeI x).length : Int)) ∧ (m ++ ([⟨ren (pickI p1 8) (pickI p2 8) d_madeI_x_i.frm, ren (pickI p1 8) (pickI p2 8) d_madeI_x_i.to, d_madeI_x_i.amt⟩])) = ((madeI x).take (i + 1).toNat).map (renD (pickI p1 8) (pickI p2 8))
      refine ⟨by omega, ?_⟩
      rw [show (i + 1).toNat = i.toNat + 1 by omega, map_take1 (renD (pickI p1 8) (pickI p2 8)) (hd_madeI_x_i (by omega) (by omega)), ← h2]
      rfl
    · first | omega | (simp only []; omega)
  · have hmm : m = (madeI x).map (renD (pickI p1 8) (pickI p2 8)) := by rw [h2, List.take_of_length_le (by omega)]
    have hmt : DebtsOK 1000000000 m := by rw [hmm]; exact ren_debts ha hb hmd
    have hzm : ¬ (errN m ≠ 0) := fun h => h (if_pos hmt)
    have hmb : balR m = balI ((madeI x).map (renD (pickI p1 8) (pickI p2 8))) := by rw [← hmm]; exact if_pos hmt
    have hzl : ¬ (((balR m).length : Int) ≠ 8) := by rw [hmb, balI_length]; simp
    have hm8 : (balR m).length = 8 := by rw [hmb]; exact balI_length _
    refine wc_exit ?_
    refine pe_seq_exit ?_
    refine pe_loop_exit ?_
    refine pe_block_exit ?_
    refine pe_seq ?_
    refine wc_seq ?_
    refine wc_region ?_
    refine wl_ex (ex_move rfl) rfl rfl ?_
    refine wl_callS2 [.tmp 80] rfl ok_14 rfl (fun w hm => c_BalancesN A1 c2 (madeI x) w (((sl_own (.tail (.head _ _)))).at hm)  (by first | omega | assumption)) rfl fun A9 c10 => ?_
    refine wl_ex (ex_move rfl) rfl rfl ?_
    refine wl_ex (ex_extract rfl rfl) rfl rfl ?_
    refine wl_ex (ex_extract rfl rfl) rfl rfl ?_
    refine wl_ex (ex_assign rfl) rfl rfl ?_
    refine wl_ex (ex_assign rfl) rfl rfl ?_
    refine wl_nil ?_
    refine pe_seq ?_
    refine wc_seq ?_
    refine wc_region ?_
    refine wl_ex (ex_move rfl) rfl rfl ?_
    refine wl_callS2 [.tmp 85] rfl ok_14 rfl (fun w hm => c_BalancesN AM cM m w (((sl_own (.tail (.head _ _)))).at hm)  (by first | omega | assumption)) rfl fun A11 c12 => ?_
    refine wl_ex (ex_move rfl) rfl rfl ?_
    refine wl_ex (ex_extract rfl rfl) rfl rfl ?_
    refine wl_ex (ex_extract rfl rfl) rfl rfl ?_
    refine wl_ex (ex_assign rfl) rfl rfl ?_
    refine wl_ex (ex_assign rfl) rfl rfl ?_
    refine wl_nil ?_
    refine pe_seq ?_
    refine wc_seq ?_
    refine wc_seq ?_
    refine wc_region ?_
    refine wl_ex (ex_move rfl) rfl rfl ?_
    refine wl_ex (ex_neq rfl rfl) rfl rfl ?_
    refine wl_ex (ex_move rfl) rfl rfl ?_
    refine wl_pass rfl rfl rfl (decide_eq_false hz1) ?_
    refine wl_ex (ex_move rfl) rfl rfl ?_
    refine wl_pass rfl rfl rfl (decide_eq_false hz1) ?_
    refine wl_ex (ex_neq rfl rfl) rfl rfl ?_
    refine wl_ex (ex_pickf rfl (decide_eq_false hz1) rfl) rfl rfl ?_
    refine wl_ex (ex_move rfl) rfl rfl ?_
    refine wl_pass rfl rfl rfl (decide_eq_false hzm) ?_
    refine wl_ex (ex_move rfl) rfl rfl ?_
    refine wl_pass rfl rfl rfl (decide_eq_false hzm) ?_
    refine wl_ex (ex_len Try.underlying25 rfl) rfl rfl ?_
    refine wl_pass rfl rfl rfl (decide_eq_false hzm) ?_
    refine wl_ex (ex_neq rfl rfl) rfl rfl ?_
    refine wl_ex (ex_pickf rfl (decide_eq_false hzm) rfl) rfl rfl ?_
    refine wl_ex (ex_move rfl) rfl rfl ?_
    refine wl_pass rfl rfl rfl (decide_eq_false hz2) ?_
    refine wl_ex (ex_move rfl) rfl rfl ?_
    refine wl_pass rfl rfl rfl (decide_eq_false hz2) ?_
    refine wl_ex (ex_len Try.underlying25 rfl) rfl rfl ?_
    refine wl_pass rfl rfl rfl (decide_eq_false hz2) ?_
    refine wl_ex (ex_neq rfl rfl) rfl rfl ?_
    refine wl_ex (ex_pickf rfl (decide_eq_false hz2) rfl) rfl rfl ?_
    refine wl_nil ?_
    refine pe_seq ?_
    refine wc_ite rfl (fun c104 => absurd c104 hzl) (fun c104 => ?_)
    refine wc_skip ?_
    refine pe_seq ?_
    refine wc_seq ?_
    refine wc_seq ?_
    refine wc_region ?_
    refine wl_ex (ex_assign rfl) rfl rfl ?_
    refine wl_nil ?_
    refine pe_seq ?_
    refine wc_block ?_
    refine wc_loop (σ := Int) (fun s => [(20, .int .i64 s), (1, .slice Ay y.length cy), (4, .int .i64 p3), (11, .int .i64 (pickI p1 8)), (12, .int .i64 (pickI p2 8)), (16, .slice A9 ((balR (madeI x)).length) c10), (18, .slice A11 ((balR m).length) c12)]) (fun s => [.own A11 ((balR m).length) c12 3 1 (encs encI (balR m)), .own A9 ((balR (madeI x)).length) c10 3 1 (encs encI (balR (madeI x))), .own AM m.length cM 47 3 (encs encD m), .own A1 ((madeI x).length) c2 47 3 (encs encD (madeI x))]) (fun s => 0 ≤ s ∧ s ≤ ((balR (madeI x)).length : Int)) (fun s => (((balR (madeI x)).length : Int) - s).toNat) (0 : Int) (Sub.cons rfl rfl (Sub.cons rfl rfl (Sub.cons rfl rfl (Sub.cons rfl rfl (Sub.cons rfl rfl (Sub.cons rfl rfl (Sub.cons rfl rfl (Sub.nil _)))))))) (.cons (.head _ _) rfl (.cons (.head _ _) rfl (.cons (.head _ _) rfl (.cons (.head _ _) rfl (.nil _))))) (by simp) ?_
    rintro j hG
    show WC _ _ _ [(20, .int .i64 j), (1, .slice Ay y.length cy), (4, .int .i64 p3), (11, .int .i64 (pickI p1 8)), (12, .int .i64 (pickI p2 8)), (16, .slice A9 ((balR (madeI x)).length) c10), (18, .slice A11 ((balR m).length) c12)] [.own A11 ((balR m).length) c12 3 1 (encs encI (balR m)), .own A9 ((balR (madeI x)).length) c10 3 1 (encs encI (balR (madeI x))), .own AM m.length cM 47 3 (encs encD m), .own A1 ((madeI x).length) c2 47 3 (encs encD (madeI x))]
    replace hG : 0 ≤ j ∧ j ≤ ((balR (madeI x)).length : Int) := hG
    obtain ⟨j1, j2⟩ := hG
    refine wc_seq ?_
    refine wc_seq ?_
    refine wc_region ?_
    refine wl_ex (ex_move rfl) rfl rfl ?_
    refine wl_ex (ex_move rfl) rfl rfl ?_
    refine wl_ex (ex_len Try.underlying25 rfl) rfl rfl ?_
    refine wl_ex (ex_lss rfl rfl) rfl rfl ?_
    refine wl_nil ?_
    refine pe_seq ?_
    refine wc_ite rfl (fun c108 => ?_) (fun c108 => ?_)
    · refine wc_skip ?_
      refine pe_seq ?_
      refine wc_seq ?_
      refine wc_block ?_
      refine wc_seq ?_
      refine wc_draw [.own A11 ((balR m).length) c12 3 1 (encs encI (balR m)), .own A9 ((balR (madeI x)).length) c10 3 1 (encs encI (balR (madeI x))), .own AM m.length cM 47 3 (encs encD m), .own A1 ((madeI x).length) c2 47 3 (encs encD (madeI x))] [(0, true), (1, true), (2, true), (3, true), (4, true), (5, true), (6, true), (7, true), (8, false), (9, true), (10, true), (11, true)] mixed (by kernel_rfl) (.cons (.head _ _) rfl (.cons (.head _ _) rfl (.cons (.head _ _) rfl (.cons (.head _ _) rfl (.nil _))))) ?_
      refine cn_ex rfl (ex_move rfl) rfl rfl ?_
      refine cn_ex rfl (ex_move rfl) rfl rfl ?_
      refine cn_ex rfl (ex_indexAddr rfl rfl Try.underlying25 sz_3 (sl_own (.tail (.head _ _))) (by omega) (by omega) (enc_pos encI_len (by omega))) rfl rfl ?_
      obtain ⟨d_balR_madeI_x__j, hd_balR_madeI_x__j⟩ := get_if (balR (madeI x)) j
      refine cn_ex rfl (ex_load rfl ag_3 (rd_int (sl_own (.tail (.head _ _))) (hd_balR_madeI_x__j (by omega) (by omega)))) rfl rfl ?_
      refine cn_ex rfl (ex_move rfl) rfl rfl ?_
      refine cn_ex rfl (ex_move rfl) rfl rfl ?_
      refine cn_ex rfl (ex_move rfl) rfl rfl ?_
      refine cn_ex rfl (ex_move rfl) rfl rfl ?_
      have hrj := ren_bd ha hb (c := j) (by omega)
      refine cn_tail rfl ?_
      refine wl_callV [.tmp 116, .tmp 117, .tmp 118] rfl ok_35 rfl (fun w hm => c_renamed j (pickI p1 8) (pickI p2 8) w   ) rfl ?_
      refine cn_back (.cons (.head _ _) rfl (.cons (.head _ _) rfl (.cons (.head _ _) rfl (.cons (.head _ _) rfl (.nil _))))) ?_
      refine cn_ex rfl (ex_indexAddr rfl rfl Try.underlying25 sz_3 (sl_own (.head _ _)) (by omega) (by omega) (enc_pos encI_len (by omega))) rfl rfl ?_
      obtain ⟨d_balR_m_ren_pickI_p1_8_pickI_p2_8_j, hd_balR_m_ren_pickI_p1_8_pickI_p2_8_j⟩ := get_if (balR m) (ren (pickI p1 8) (pickI p2 8) j)
      refine cn_ex rfl (ex_load rfl ag_3 (rd_int (sl_own (.head _ _)) (hd_balR_m_ren_pickI_p1_8_pickI_p2_8_j (by omega) (by omega)))) rfl rfl ?_
      refine cn_ex rfl (ex_neq rfl rfl) rfl rfl ?_
      refine cn_nil ?_
      refine pe_seq ?_
      refine wc_ite rfl (fun c122 => ?_) (fun c122 => ?_)
      · exact absurd (ren_at (c := j) ha hb hmd (by omega) (by rw [← hbb]; exact (hd_balR_madeI_x__j (by omega) (by omega))) (by rw [← hmb]; exact hd_balR_m_ren_pickI_p1_8_pickI_p2_8_j (by omega) (by omega))) c122
      · refine wc_skip ?_
        refine pe_block _ ?_
        refine pe_seq ?_
        refine wc_region ?_
        refine wl_ex (ex_move rfl) rfl rfl ?_
        refine wl_ex (ex_add rfl rfl (by omega) (by omega)) rfl rfl ?_
        refine wl_ex (ex_assign rfl) rfl rfl ?_
        refine wl_nil ?_
        refine pe_again (j + 1) (Sub.cons rfl rfl (Sub.cons rfl rfl (Sub.cons rfl rfl (Sub.cons rfl rfl (Sub.cons rfl rfl (Sub.cons rfl rfl (Sub.cons rfl rfl (Sub.nil _)))))))) (.cons (.head _ _) rfl (.cons (.head _ _) rfl (.cons (.head _ _) rfl (.cons (.head _ _) rfl (.nil _))))) ?_ ?_
        · show 0 ≤ (j + 1) ∧ (j + 1) ≤ ((balR (madeI x)).length : Int)
          refine ⟨?_, ?_⟩ <;> omega
        · first | omega | (simp only []; omega)
    · refine wc_exit ?_
      refine pe_seq_exit ?_
      refine pe_loop_exit ?_
      refine pe_block_exit ?_
      refine pe_seq ?_
      refine wc_seq ?_
      refine wc_region ?_
      refine wl_ex (ex_move rfl) rfl rfl ?_
      refine wl_callS [.tmp 123] rfl ok_26 rfl (fun w hm => c_Even Ay cy y w (((sl_arg hy rfl)).at hm)  (by first | assumption)) rfl fun A13 c14 => ?_
      refine wl_ex (ex_assign rfl) rfl rfl ?_
      refine wl_nil ?_
      refine pe_seq ?_
      refine wc_seq ?_
      refine wc_region ?_
      refine wl_ex (ex_move rfl) rfl rfl ?_
      refine wl_callV [.tmp 125, .const (.int .i64 5)] rfl ok_34 rfl (fun w hm => c_pickL p3 5 w   (by omega) (by omega)) rfl ?_
      refine wl_ex (ex_add rfl rfl (by omega) (by omega)) rfl rfl ?_
      refine wl_ex (ex_assign rfl) rfl rfl ?_
      refine wl_nil ?_
      refine pe_seq ?_
      refine wc_seq ?_
      refine wc_region ?_
      refine wl_make (n := 8) rfl rfl Try.underlying25 sz_3 ze_3 rfl by_3 (by omega) (by omega) rfl fun r15 => ?_
      rw [rep_enc]
      refine wl_ex (ex_assign rfl) rfl rfl ?_
      refine wl_nil ?_
      refine pe_seq ?_
      refine wc_seq ?_
      refine wc_region ?_
      refine wl_make (n := 8) rfl rfl Try.underlying25 sz_3 ze_3 rfl by_3 (by omega) (by omega) rfl fun r16 => ?_
      rw [rep_enc]
      refine wl_ex (ex_assign rfl) rfl rfl ?_
      refine wl_nil ?_
      refine pe_seq ?_
      refine wc_seq ?_
      refine wc_region ?_
      refine wl_make (n := 8) rfl rfl Try.underlying25 sz_3 ze_3 rfl by_3 (by omega) (by omega) rfl fun r17 => ?_
      rw [rep_enc]
      refine wl_ex (ex_assign rfl) rfl rfl ?_
      refine wl_nil ?_
      refine pe_seq ?_
      refine wc_seq ?_
      refine wc_seq ?_
      refine wc_region ?_
      refine wl_ex (ex_assign rfl) rfl rfl ?_
      refine wl_nil ?_
      refine pe_seq ?_
      refine wc_block ?_
      refine wc_loop (σ := Int) (fun s => [(26, .int .i64 s), (11, .int .i64 (pickI p1 8)), (12, .int .i64 (pickI p2 8)), (21, .slice A13 ((evenI y).length) c14), (22, .int .i64 (1 + (pickI p3 5))), (23, .slice (some ⟨r15, 0, none⟩) 8 8), (24, .slice (some ⟨r16, 0, none⟩) 8 8), (25, .slice (some ⟨r17, 0, none⟩) 8 8)]) (fun s => [.own (some ⟨r17, 0, none⟩) 8 8 3 1 (encs encI (timesT (1 + pickI p3 5) (evenI y) s.toNat)), .own (some ⟨r16, 0, none⟩) 8 8 3 1 (encs encI (signsT (evenI y) s.toNat)), .own (some ⟨r15, 0, none⟩) 8 8 3 1 (encs encI (otherT (pickI p1 8) (pickI p2 8) (evenI y) s)), .own A13 ((evenI y).length) c14 3 1 (encs encI (evenI y)), .own A11 ((balR m).length) c12 3 1 (encs encI (balR m)), .own A9 ((balR (madeI x)).length) c10 3 1 (encs encI (balR (madeI x))), .own AM m.length cM 47 3 (encs encD m), .own A1 ((madeI x).length) c2 47 3 (encs encD (madeI x))]) (fun s => 0 ≤ s ∧ s ≤ 8) (fun s => (8 - s).toNat) (0 : Int) (Sub.cons rfl rfl (Sub.cons rfl rfl (Sub.cons rfl rfl (Sub.cons rfl rfl (Sub.cons rfl rfl (Sub.cons rfl rfl (Sub.cons rfl rfl (Sub.cons rfl rfl (Sub.nil _))))))))) (.cons (.head _ _) rfl (.cons (.head _ _) rfl (.cons (.head _ _) (by rw [show otherT (pickI p1 8) (pickI p2 8) (evenI y) 0 = List.replicate 8 0 from other_zero ha hb _]) (.cons (.head _ _) rfl (.cons (.head _ _) rfl (.cons (.head _ _) rfl (.cons (.head _ _) rfl (.cons (.head _ _) rfl (.nil _))))))))) (by omega) ?_
      rintro k hG
      show WC _ _ _ [(26, .int .i64 k), (11, .int .i64 (pickI p1 8)), (12, .int .i64 (pickI p2 8)), (21, .slice A13 ((evenI y).length) c14), (22, .int .i64 (1 + (pickI p3 5))), (23, .slice (some ⟨r15, 0, none⟩) 8 8), (24, .slice (some ⟨r16, 0, none⟩) 8 8), (25, .slice (some ⟨r17, 0, none⟩) 8 8)] [.own (some ⟨r17, 0, none⟩) 8 8 3 1 (encs encI (timesT (1 + pickI p3 5) (evenI y) k.toNat)), .own (some ⟨r16, 0, none⟩) 8 8 3 1 (encs encI (signsT (evenI y) k.toNat)), .own (some ⟨r15, 0, none⟩) 8 8 3 1 (encs encI (otherT (pickI p1 8) (pickI p2 8) (evenI y) k)), .own A13 ((evenI y).length) c14 3 1 (encs encI (evenI y)), .own A11 ((balR m).length) c12 3 1 (encs encI (balR m)), .own A9 ((balR (madeI x)).length) c10 3 1 (encs encI (balR (madeI x))), .own AM m.length cM 47 3 (encs encD m), .own A1 ((madeI x).length) c2 47 3 (encs encD (madeI x))]
      replace hG : 0 ≤ k ∧ k ≤ 8 := hG
      obtain ⟨k1, k2⟩ := hG
      have ho8 : (otherT (pickI p1 8) (pickI p2 8) (evenI y) k).length = 8 := otherT_len _ _ _ _
      have hs8 : (signsT (evenI y) k.toNat).length = 8 := signsT_len _ _
      have ht8 : (timesT (1 + pickI p3 5) (evenI y) k.toNat).length = 8 := timesT_len _ _ _
      refine wc_seq ?_
      refine wc_seq ?_
      refine wc_region ?_
      refine wl_ex (ex_move rfl) rfl rfl ?_
      refine wl_ex (ex_move rfl) rfl rfl ?_
      refine wl_ex (ex_len Try.underlying25 rfl) rfl rfl ?_
      refine wl_ex (ex_lss rfl rfl) rfl rfl ?_
      refine wl_nil ?_
      refine pe_seq ?_
      refine wc_ite rfl (fun c134 => ?_) (fun c134 => ?_)
      · refine wc_skip ?_
        refine pe_seq ?_
        refine wc_seq ?_
        refine wc_block ?_
        refine wc_seq ?_
        refine wc_draw [.own (some ⟨r17, 0, none⟩) 8 8 3 1 (encs encI (timesT (1 + pickI p3 5) (evenI y) k.toNat)), .own (some ⟨r16, 0, none⟩) 8 8 3 1 (encs encI (signsT (evenI y) k.toNat)), .own A13 ((evenI y).length) c14 3 1 (encs encI (evenI y)), .own A11 ((balR m).length) c12 3 1 (encs encI (balR m)), .own A9 ((balR (madeI x)).length) c10 3 1 (encs encI (balR (madeI x))), .own AM m.length cM 47 3 (encs encD m), .own A1 ((madeI x).length) c2 47 3 (encs encD (madeI x))] [(0, true), (1, true), (2, true), (3, true), (5, true), (6, true), (7, true), (8, true), (4, false), (9, true), (10, false)] mixed (by kernel_rfl) (.cons (.head _ _) rfl (.cons (.head _ _) rfl (.cons (.tail (.head _ _)) rfl (.cons (.tail (.head _ _)) rfl (.cons (.tail (.head _ _)) rfl (.cons (.tail (.head _ _)) rfl (.cons (.tail (.head _ _)) rfl (.nil _)))))))) ?_
        refine cn_ex rfl (ex_move rfl) rfl rfl ?_
        refine cn_ex rfl (ex_move rfl) rfl rfl ?_
        refine cn_ex rfl (ex_move rfl) rfl rfl ?_
        refine cn_ex rfl (ex_move rfl) rfl rfl ?_
        refine cn_ex rfl (ex_move rfl) rfl rfl ?_
        refine cn_ex rfl (ex_move rfl) rfl rfl ?_
        refine cn_ex rfl (ex_indexAddr rfl rfl Try.underlying25 sz_3 (sl_own (.tail (.tail (.head _ _)))) (by omega) (by omega) (enc_pos encI_len (by omega))) rfl rfl ?_
        obtain ⟨d_evenI_y_k, hd_evenI_y_k⟩ := get_if (evenI y) k
        refine cn_ex rfl (ex_load rfl ag_3 (rd_int (sl_own (.tail (.tail (.head _ _)))) (hd_evenI_y_k (by omega) (by omega)))) rfl rfl ?_
        have hrk := ren_bd ha hb (c := k) (by omega)
        refine cn_tail rfl ?_
        refine wl_callV [.tmp 138, .tmp 139, .tmp 140] rfl ok_35 rfl (fun w hm => c_renamed k (pickI p1 8) (pickI p2 8) w   ) rfl ?_
        refine cn_back (.cons (.head _ _) rfl (.cons (.head _ _) rfl (.cons (.tail (.head _ _)) rfl (.cons (.tail (.head _ _)) rfl (.cons (.tail (.head _ _)) rfl (.cons (.tail (.head _ _)) rfl (.cons (.tail (.head _ _)) rfl (.nil _)))))))) ?_
        refine cn_ex rfl (ex_indexAddrN rfl rfl rfl Try.underlying25 sz_3 (by omega) (by omega)) rfl rfl ?_
        refine cn_tail rfl ?_
        refine wl_storeI rfl rfl sz_3 (.tail (.tail (.head _ _))) (by omega) (by omega) ?_
        refine cn_back (.cons (.tail (.head _ _)) rfl (.cons (.tail (.head _ _)) rfl (.cons (.tail (.head _ _)) rfl (.cons (.tail (.head _ _)) rfl (.cons (.tail (.head _ _)) rfl (.cons (.tail (.head _ _)) rfl (.cons (.tail (.head _ _)) rfl (.nil _)))))))) ?_
        refine cn_nil ?_
        refine pe_seq ?_
        refine wc_seq ?_
        refine wc_region ?_
        refine wl_ex (ex_move rfl) rfl rfl ?_
        refine wl_ex (ex_move rfl) rfl rfl ?_
        refine wl_ex (ex_move rfl) rfl rfl ?_
        refine wl_ex (ex_move rfl) rfl rfl ?_
        refine wl_ex (ex_indexAddr rfl rfl Try.underlying25 sz_3 (sl_own (.tail (.tail (.tail (.head _ _))))) (by omega) (by omega) (enc_pos encI_len (by omega))) rfl rfl ?_
        refine wl_ex (ex_load rfl ag_3 (rd_int (sl_own (.tail (.tail (.tail (.head _ _))))) (hd_evenI_y_k (by omega) (by omega)))) rfl rfl ?_
        have hev := hg.1 _ (mem_at (hd_evenI_y_k (by omega) (by omega)))
        refine wl_ex (ex_neg rfl (by omega) (by omega)) rfl rfl ?_
        refine wl_ex (ex_indexAddrN rfl rfl rfl Try.underlying25 sz_3 (by omega) (by omega)) rfl rfl ?_
        refine wl_storeI rfl rfl sz_3 (.tail (.tail (.head _ _))) (by omega) (by omega) ?_
        refine wl_nil ?_
        refine pe_seq ?_
        refine wc_region ?_
        refine wl_ex (ex_move rfl) rfl rfl ?_
        refine wl_ex (ex_move rfl) rfl rfl ?_
        refine wl_ex (ex_move rfl) rfl rfl ?_
        refine wl_ex (ex_move rfl) rfl rfl ?_
        refine wl_ex (ex_move rfl) rfl rfl ?_
        refine wl_ex (ex_indexAddr rfl rfl Try.underlying25 sz_3 (sl_own (.tail (.tail (.tail (.head _ _))))) (by omega) (by omega) (enc_pos encI_len (by omega))) rfl rfl ?_
        refine wl_ex (ex_load rfl ag_3 (rd_int (sl_own (.tail (.tail (.tail (.head _ _))))) (hd_evenI_y_k (by omega) (by omega)))) rfl rfl ?_
        refine wl_ex (ex_remt rfl rfl (by omega)) rfl rfl ?_
        refine wl_ex (ex_mul rfl rfl (by (have := mul_bd (m := (1 + pickI p3 5)) (by omega) (tm_bd d_evenI_y_k); omega)) (by (have := mul_bd (m := (1 + pickI p3 5)) (by omega) (tm_bd d_evenI_y_k); omega))) rfl rfl ?_
        refine wl_ex (ex_indexAddrN rfl rfl rfl Try.underlying25 sz_3 (by omega) (by omega)) rfl rfl ?_
        refine wl_storeI rfl rfl sz_3 (.tail (.tail (.head _ _))) (by omega) (by omega) ?_
        refine wl_nil ?_
        refine pe_block _ ?_
        refine pe_seq ?_
        refine wc_region ?_
        refine wl_ex (ex_move rfl) rfl rfl ?_
        refine wl_ex (ex_add rfl rfl (by omega) (by omega)) rfl rfl ?_
        refine wl_ex (ex_assign rfl) rfl rfl ?_
        refine wl_nil ?_
        refine pe_again (k + 1) (Sub.cons rfl rfl (Sub.cons rfl rfl (Sub.cons rfl rfl (Sub.cons rfl rfl (Sub.cons rfl rfl (Sub.cons rfl rfl (Sub.cons rfl rfl (Sub.cons rfl rfl (Sub.nil _))))))))) (.cons (.head _ _) (by rw [times_step _ (by omega) (hd_evenI_y_k (by omega) (by omega)), show (k + 1).toNat = k.toNat + 1 by omega]) (.cons (.head _ _) (by rw [signs_step (by omega) (hd_evenI_y_k (by omega) (by omega)), show (k + 1).toNat = k.toNat + 1 by omega]) (.cons (.head _ _) (by rw [otherT_step ha hb (by omega) (hd_evenI_y_k (by omega) (by omega))]) (.cons (.head _ _) rfl (.cons (.head _ _) rfl (.cons (.head _ _) rfl (.cons (.head _ _) rfl (.cons (.head _ _) rfl (.nil _))))))))) ?_ ?_
        · show 0 ≤ (k + 1) ∧ (k + 1) ≤ 8
          refine ⟨?_, ?_⟩ <;> omega
        · first | omega | (simp only []; omega)
      · have hk8 : k.toNat = 8 := by omega
        rw [hk8, show k = 8 by omega]
        refine wc_exit ?_
        refine pe_seq_exit ?_
        refine pe_loop_exit ?_
        refine pe_block_exit ?_
        refine pe_seq ?_
        refine wc_seq ?_
        refine wc_region ?_
        refine wl_make (n := 8) rfl rfl Try.underlying25 sz_3 ze_3 rfl by_3 (by omega) (by omega) rfl fun r18 => ?_
        rw [rep_enc]
        refine wl_ex (ex_assign rfl) rfl rfl ?_
        refine wl_nil ?_
        refine pe_seq ?_
        refine wc_seq ?_
        refine wc_region ?_
        refine wl_ex (ex_assign rfl) rfl rfl ?_
        refine wl_nil ?_
        refine pe_seq ?_
        refine wc_seq ?_
        refine wc_seq ?_
        refine wc_region ?_
        refine wl_ex (ex_assign rfl) rfl rfl ?_
        refine wl_nil ?_
        refine pe_seq ?_
        refine wc_block ?_
        refine wc_loop (σ := Int × Int) (fun s => [(28, .int .i64 s.2), (29, .int .i64 s.1), (21, .slice A13 ((evenI y).length) c14), (23, .slice (some ⟨r15, 0, none⟩) 8 8), (24, .slice (some ⟨r16, 0, none⟩) 8 8), (25, .slice (some ⟨r17, 0, none⟩) 8 8), (27, .slice (some ⟨r18, 0, none⟩) 8 8)]) (fun s => [.own (some ⟨r18, 0, none⟩) 8 8 3 1 (encs encI (baseT (evenI y) s.1.toNat)), .own (some ⟨r17, 0, none⟩) 8 8 3 1 (encs encI (timesT (1 + pickI p3 5) (evenI y) 8)), .own (some ⟨r16, 0, none⟩) 8 8 3 1 (encs encI (signsT (evenI y) 8)), .own (some ⟨r15, 0, none⟩) 8 8 3 1 (encs encI (otherT (pickI p1 8) (pickI p2 8) (evenI y) 8)), .own A13 ((evenI y).length) c14 3 1 (encs encI (evenI y)), .own A11 ((balR m).length) c12 3 1 (encs encI (balR m)), .own A9 ((balR (madeI x)).length) c10 3 1 (encs encI (balR (madeI x))), .own AM m.length cM 47 3 (encs encD m), .own A1 ((madeI x).length) c2 47 3 (encs encD (madeI x))]) (fun s => (0 ≤ s.1 ∧ s.1 ≤ 8) ∧ s.2 = (baseT (evenI y) s.1.toNat).sum) (fun s => (8 - s.1).toNat) ((0 : Int), (0 : Int)) (Sub.cons rfl rfl (Sub.cons rfl rfl (Sub.cons rfl rfl (Sub.cons rfl rfl (Sub.cons rfl rfl (Sub.cons rfl rfl (Sub.cons rfl rfl (Sub.nil _)))))))) (.cons (.head _ _) (by first | rfl | simp) (.cons (.head _ _) rfl (.cons (.head _ _) rfl (.cons (.head _ _) rfl (.cons (.head _ _) rfl (.cons (.head _ _) rfl (.cons (.head _ _) rfl (.cons (.head _ _) rfl (.cons (.head _ _) rfl (.nil _)))))))))) (by exact ⟨by omega, rfl⟩) ?_
        rintro ⟨q, nn⟩ hG
        show WC _ _ _ [(28, .int .i64 nn), (29, .int .i64 q), (21, .slice A13 ((evenI y).length) c14), (23, .slice (some ⟨r15, 0, none⟩) 8 8), (24, .slice (some ⟨r16, 0, none⟩) 8 8), (25, .slice (some ⟨r17, 0, none⟩) 8 8), (27, .slice (some ⟨r18, 0, none⟩) 8 8)] [.own (some ⟨r18, 0, none⟩) 8 8 3 1 (encs encI (baseT (evenI y) q.toNat)), .own (some ⟨r17, 0, none⟩) 8 8 3 1 (encs encI (timesT (1 + pickI p3 5) (evenI y) 8)), .own (some ⟨r16, 0, none⟩) 8 8 3 1 (encs encI (signsT (evenI y) 8)), .own (some ⟨r15, 0, none⟩) 8 8 3 1 (encs encI (otherT (pickI p1 8) (pickI p2 8) (evenI y) 8)), .own A13 ((evenI y).length) c14 3 1 (encs encI (evenI y)), .own A11 ((balR m).length) c12 3 1 (encs encI (balR m)), .own A9 ((balR (madeI x)).length) c10 3 1 (encs encI (balR (madeI x))), .own AM m.length cM 47 3 (encs encD m), .own A1 ((madeI x).length) c2 47 3 (encs encD (madeI x))]
        replace hG : (0 ≤ q ∧ q ≤ 8) ∧ nn = (baseT (evenI y) q.toNat).sum := hG
        obtain ⟨q1, n2⟩ := hG
        have hb88 : (baseT (evenI y) q.toNat).length = 8 := baseT_len _ _
        have hb89 : (baseT (evenI y) (q.toNat + 1)).length = 8 := baseT_len _ _
        have hsb := base_sum_bd (evenI y) q.toNat
        refine wc_seq ?_
        refine wc_seq ?_
        refine wc_region ?_
        refine wl_ex (ex_move rfl) rfl rfl ?_
        refine wl_ex (ex_move rfl) rfl rfl ?_
        refine wl_ex (ex_len Try.underlying25 rfl) rfl rfl ?_
        refine wl_ex (ex_lss rfl rfl) rfl rfl ?_
        refine wl_nil ?_
        refine pe_seq ?_
        refine wc_ite rfl (fun c169 => ?_) (fun c169 => ?_)
        · refine wc_skip ?_
          refine pe_seq ?_
          refine wc_seq ?_
          refine wc_block ?_
          refine wc_seq ?_
          refine wc_region ?_
          refine wl_ex (ex_move rfl) rfl rfl ?_
          refine wl_ex (ex_move rfl) rfl rfl ?_
          refine wl_ex (ex_move rfl) rfl rfl ?_
          refine wl_ex (ex_move rfl) rfl rfl ?_
          refine wl_ex (ex_indexAddr rfl rfl Try.underlying25 sz_3 (sl_own (.tail (.tail (.tail (.tail (.head _ _)))))) (by omega) (by omega) (enc_pos encI_len (by omega))) rfl rfl ?_
          obtain ⟨d_evenI_y_q, hd_evenI_y_q⟩ := get_if (evenI y) q
          refine wl_ex (ex_load rfl ag_3 (rd_int (sl_own (.tail (.tail (.tail (.tail (.head _ _)))))) (hd_evenI_y_q (by omega) (by omega)))) rfl rfl ?_
          refine wl_ex (ex_remt rfl rfl (by omega)) rfl rfl ?_
          refine wl_ex (ex_indexAddrN rfl rfl rfl Try.underlying25 sz_3 (by omega) (by omega)) rfl rfl ?_
          refine wl_storeI rfl rfl sz_3 (.head _ _) (by omega) (by omega) ?_
          rw [base_step (by omega) (hd_evenI_y_q (by omega) (by omega))]
          refine wl_nil ?_
          refine pe_seq ?_
          refine wc_region ?_
          refine wl_ex (ex_move rfl) rfl rfl ?_
          refine wl_ex (ex_move rfl) rfl rfl ?_
          refine wl_ex (ex_move rfl) rfl rfl ?_
          refine wl_ex (ex_indexAddrN rfl rfl rfl Try.underlying25 sz_3 (by omega) (by omega)) rfl rfl ?_
          obtain ⟨d_baseT_evenI_y_q_toNat_1__q, hd_baseT_evenI_y_q_toNat_1__q⟩ := get_if (baseT (evenI y) (q.toNat + 1)) q
          refine wl_ex (ex_load rfl ag_3 (rd_int (sl_own (.head _ _)) (hd_baseT_evenI_y_q_toNat_1__q (by omega) (by omega)))) rfl rfl ?_
          have hbw := base_within _ _ _ (mem_at (hd_baseT_evenI_y_q_toNat_1__q (by omega) (by omega)))
          refine wl_ex (ex_add rfl rfl (by omega) (by omega)) rfl rfl ?_
          refine wl_ex (ex_assign rfl) rfl rfl ?_
          refine wl_nil ?_
          refine pe_block _ ?_
          refine pe_seq ?_
          refine wc_region ?_
          refine wl_ex (ex_move rfl) rfl rfl ?_
          refine wl_ex (ex_add rfl rfl (by omega) (by omega)) rfl rfl ?_
          refine wl_ex (ex_assign rfl) rfl rfl ?_
          refine wl_nil ?_
          refine pe_again ⟨q + 1, nn + d_baseT_evenI_y_q_toNat_1__q⟩ (Sub.cons rfl rfl (Sub.cons rfl rfl (Sub.cons rfl rfl (Sub.cons rfl rfl (Sub.cons rfl rfl (Sub.cons rfl rfl (Sub.cons rfl rfl (Sub.nil _)))))))) (.cons (.head _ _) (by rw [show (q + 1).toNat = q.toNat + 1 by omega]) (.cons (.head _ _) rfl (.cons (.head _ _) rfl (.cons (.head _ _) rfl (.cons (.head _ _) rfl (.cons (.head _ _) rfl (.cons (.head _ _) rfl (.cons (.head _ _) rfl (.cons (.head _ _) rfl (.nil _)))))))))) ?_ ?_
          · show (0 ≤ (q + 1) ∧ (q + 1) ≤ 8) ∧ (nn + d_baseT_evenI_y_q_toNat_1__q) = (baseT (evenI y) (q + 1).toNat).sum
            refine ⟨by omega, ?_⟩
            rw [show (q + 1).toNat = q.toNat + 1 by omega, base_sum (by omega) (hd_evenI_y_q (by omega) (by omega)) (hd_baseT_evenI_y_q_toNat_1__q (by omega) (by omega)), ← n2]
          · first | omega | (simp only []; omega)
        · have hq8 : q.toNat = 8 := by omega
          rw [hq8] at n2 ⊢
          obtain ⟨ho, hos⟩ := other_same ha hb hg
          obtain ⟨hs, hss⟩ := signs_same hg
          have hs : goodI (signsT (evenI y) 8) := hs
          have hss : (stlI (evenI y)).length = (stlI (signsT (evenI y) 8)).length := hss
          rw [← stlR_good hg, ← stlR_good ho] at hos
          rw [← stlR_good hg, ← stlR_good hs] at hss
          have hq0 : errI (evenI y) = 0 := if_pos hg
          have hq1 : errI (otherT (pickI p1 8) (pickI p2 8) (evenI y) 8) = 0 := if_pos ho
          have hq2 : errI (signsT (evenI y) 8) = 0 := if_pos hs
          have h8a : (evenI y).length ≤ 1000 := by rw [hg.2.1]; omega
          have h8b : (otherT (pickI p1 8) (pickI p2 8) (evenI y) 8).length ≤ 1000 := by rw [otherT_len]; omega
          have h8c : (signsT (evenI y) 8).length ≤ 1000 := by rw [signsT_len]; omega
          have h8d : (baseT (evenI y) 8).length ≤ 1000 := by rw [baseT_len]; omega
          have h8e : (timesT (1 + pickI p3 5) (evenI y) 8).length ≤ 1000 := by rw [timesT_len]; omega
          refine wc_exit ?_
          refine pe_seq_exit ?_
          refine pe_loop_exit ?_
          refine pe_block_exit ?_
          refine pe_seq ?_
          refine wc_seq ?_
          refine wc_region ?_
          refine wl_ex (ex_move rfl) rfl rfl ?_
          refine wl_callV [.tmp 187] rfl ok_28 rfl (fun w hm => c_Fewest A13 c14 (evenI y) w (((sl_own (.tail (.tail (.tail (.tail (.head _ _))))))).at hm)  (by first | assumption | omega)) rfl ?_
          refine wl_ex (ex_move rfl) rfl rfl ?_
          refine wl_ex (ex_extract rfl rfl) rfl rfl ?_
          refine wl_ex (ex_extract rfl rfl) rfl rfl ?_
          refine wl_ex (ex_assign rfl) rfl rfl ?_
          refine wl_ex (ex_assign rfl) rfl rfl ?_
          refine wl_nil ?_
          refine pe_seq ?_
          refine wc_seq ?_
          refine wc_region ?_
          refine wl_ex (ex_move rfl) rfl rfl ?_
          refine wl_callV [.tmp 192] rfl ok_28 rfl (fun w hm => c_Fewest (some ⟨r15, 0, none⟩) 8 (otherT (pickI p1 8) (pickI p2 8) (evenI y) 8) w (((sl_own (.tail (.tail (.tail (.head _ _)))))).at hm)  (by first | assumption | omega)) rfl ?_
          refine wl_ex (ex_move rfl) rfl rfl ?_
          refine wl_ex (ex_extract rfl rfl) rfl rfl ?_
          refine wl_ex (ex_extract rfl rfl) rfl rfl ?_
          refine wl_ex (ex_assign rfl) rfl rfl ?_
          refine wl_ex (ex_assign rfl) rfl rfl ?_
          refine wl_nil ?_
          refine pe_seq ?_
          refine wc_seq ?_
          refine wc_region ?_
          refine wl_ex (ex_move rfl) rfl rfl ?_
          refine wl_callV [.tmp 197] rfl ok_28 rfl (fun w hm => c_Fewest (some ⟨r16, 0, none⟩) 8 (signsT (evenI y) 8) w (((sl_own (.tail (.tail (.head _ _))))).at hm)  (by first | assumption | omega)) rfl ?_
          refine wl_ex (ex_move rfl) rfl rfl ?_
          refine wl_ex (ex_extract rfl rfl) rfl rfl ?_
          refine wl_ex (ex_extract rfl rfl) rfl rfl ?_
          refine wl_ex (ex_assign rfl) rfl rfl ?_
          refine wl_ex (ex_assign rfl) rfl rfl ?_
          refine wl_nil ?_
          refine pe_seq ?_
          refine wc_seq ?_
          refine wc_cut (σ := Unit) (fun _ => [(25, .slice (some ⟨r17, 0, none⟩) 8 8), (27, .slice (some ⟨r18, 0, none⟩) 8 8), (28, .int .i64 nn), (220, .bool (decide (((((errI (evenI y) ≠ 0) ∨ (errI (otherT (pickI p1 8) (pickI p2 8) (evenI y) 8) ≠ 0)) ∨ (errI (signsT (evenI y) 8) ≠ 0)) ∨ (((stlR (evenI y)).length : Int) ≠ ((stlR (otherT (pickI p1 8) (pickI p2 8) (evenI y) 8)).length : Int))) ∨ (((stlR (evenI y)).length : Int) ≠ ((stlR (signsT (evenI y) 8)).length : Int)))))]) (fun _ => [.own (some ⟨r18, 0, none⟩) 8 8 3 1 (encs encI (baseT (evenI y) 8)), .own (some ⟨r17, 0, none⟩) 8 8 3 1 (encs encI (timesT (1 + pickI p3 5) (evenI y) 8)), .own (some ⟨r16, 0, none⟩) 8 8 3 1 (encs encI (signsT (evenI y) 8)), .own (some ⟨r15, 0, none⟩) 8 8 3 1 (encs encI (otherT (pickI p1 8) (pickI p2 8) (evenI y) 8)), .own A13 ((evenI y).length) c14 3 1 (encs encI (evenI y)), .own A11 ((balR m).length) c12 3 1 (encs encI (balR m)), .own A9 ((balR (madeI x)).length) c10 3 1 (encs encI (balR (madeI x))), .own AM m.length cM 47 3 (encs encD m), .own A1 ((madeI x).length) c2 47 3 (encs encD (madeI x))]) (fun _ => True) ?_ ?_
          · refine wc_region ?_
            refine wl_ex (ex_move rfl) rfl rfl ?_
            refine wl_ex (ex_neq rfl rfl) rfl rfl ?_
            refine wl_ex (ex_move rfl) rfl rfl ?_
            by_cases g19 : errI (evenI y) ≠ 0
            · refine wl_skip rfl rfl rfl (fun h => of_decide_eq_false (Value.bool.inj h) g19) rfl rfl ?_
              refine wl_skip rfl rfl rfl (fun h => of_decide_eq_false (Value.bool.inj h) g19) rfl rfl ?_
              refine wl_ex (ex_pickt rfl (decide_eq_true g19) rfl) rfl rfl ?_
              refine wl_ex (ex_move rfl) rfl rfl ?_
              refine wl_skip rfl rfl rfl (by simp) rfl rfl ?_
              refine wl_skip rfl rfl rfl (by simp) rfl rfl ?_
              refine wl_ex (ex_pickt rfl rfl rfl) rfl rfl ?_
              refine wl_ex (ex_move rfl) rfl rfl ?_
              refine wl_skip rfl rfl rfl (by simp) rfl rfl ?_
              refine wl_skip rfl rfl rfl (by simp) rfl rfl ?_
              refine wl_skip rfl rfl rfl (by simp) rfl rfl ?_
              refine wl_ex (ex_pickt rfl rfl rfl) rfl rfl ?_
              refine wl_ex (ex_move rfl) rfl rfl ?_
              refine wl_skip rfl rfl rfl (by simp) rfl rfl ?_
              refine wl_skip rfl rfl rfl (by simp) rfl rfl ?_
              refine wl_skip rfl rfl rfl (by simp) rfl rfl ?_
              refine wl_ex (ex_pickt rfl rfl rfl) rfl rfl ?_
              refine wl_nil ?_
              refine pe_cut () (Sub.cons rfl rfl (Sub.cons rfl rfl (Sub.cons rfl rfl (Sub.cons rfl (congrArg Value.bool (by first | (simp [g19]; done) | grind)) (Sub.nil _))))) (.cons (.head _ _) rfl (.cons (.head _ _) rfl (.cons (.head _ _) rfl (.cons (.head _ _) rfl (.cons (.head _ _) rfl (.cons (.head _ _) rfl (.cons (.head _ _) rfl (.cons (.head _ _) rfl (.cons (.head _ _) rfl (.nil _)))))))))) trivial
            · refine wl_pass rfl rfl rfl (decide_eq_false g19) ?_
              refine wl_ex (ex_move rfl) rfl rfl ?_
              refine wl_pass rfl rfl rfl (decide_eq_false g19) ?_
              refine wl_ex (ex_neq rfl rfl) rfl rfl ?_
              refine wl_ex (ex_pickf rfl (decide_eq_false g19) rfl) rfl rfl ?_
              refine wl_ex (ex_move rfl) rfl rfl ?_
              by_cases g20 : errI (otherT (pickI p1 8) (pickI p2 8) (evenI y) 8) ≠ 0
              · refine wl_skip rfl rfl rfl (fun h => of_decide_eq_false (Value.bool.inj h) g20) rfl rfl ?_
                refine wl_skip rfl rfl rfl (fun h => of_decide_eq_false (Value.bool.inj h) g20) rfl rfl ?_
                refine wl_ex (ex_pickt rfl (decide_eq_true g20) rfl) rfl rfl ?_
                refine wl_ex (ex_move rfl) rfl rfl ?_
                refine wl_skip rfl rfl rfl (by simp) rfl rfl ?_
                refine wl_skip rfl rfl rfl (by simp) rfl rfl ?_
                refine wl_skip rfl rfl rfl (by simp) rfl rfl ?_
                refine wl_ex (ex_pickt rfl rfl rfl) rfl rfl ?_
                refine wl_ex (ex_move rfl) rfl rfl ?_
                refine wl_skip rfl rfl rfl (by simp) rfl rfl ?_
                refine wl_skip rfl rfl rfl (by simp) rfl rfl ?_
                refine wl_skip rfl rfl rfl (by simp) rfl rfl ?_
                refine wl_ex (ex_pickt rfl rfl rfl) rfl rfl ?_
                refine wl_nil ?_
                refine pe_cut () (Sub.cons rfl rfl (Sub.cons rfl rfl (Sub.cons rfl rfl (Sub.cons rfl (congrArg Value.bool (by first | (simp [g19, g20]; done) | grind)) (Sub.nil _))))) (.cons (.head _ _) rfl (.cons (.head _ _) rfl (.cons (.head _ _) rfl (.cons (.head _ _) rfl (.cons (.head _ _) rfl (.cons (.head _ _) rfl (.cons (.head _ _) rfl (.cons (.head _ _) rfl (.cons (.head _ _) rfl (.nil _)))))))))) trivial
              · refine wl_pass rfl rfl rfl (decide_eq_false g20) ?_
                refine wl_ex (ex_move rfl) rfl rfl ?_
                refine wl_pass rfl rfl rfl (decide_eq_false g20) ?_
                refine wl_ex (ex_neq rfl rfl) rfl rfl ?_
                refine wl_ex (ex_pickf rfl (decide_eq_false g20) rfl) rfl rfl ?_
                refine wl_ex (ex_move rfl) rfl rfl ?_
                by_cases g21 : errI (signsT (evenI y) 8) ≠ 0
                · refine wl_skip rfl rfl rfl (fun h => of_decide_eq_false (Value.bool.inj h) g21) rfl rfl ?_
                  refine wl_skip rfl rfl rfl (fun h => of_decide_eq_false (Value.bool.inj h) g21) rfl rfl ?_
                  refine wl_skip rfl rfl rfl (fun h => of_decide_eq_false (Value.bool.inj h) g21) rfl rfl ?_
                  refine wl_ex (ex_pickt rfl (decide_eq_true g21) rfl) rfl rfl ?_
                  refine wl_ex (ex_move rfl) rfl rfl ?_
                  refine wl_skip rfl rfl rfl (by simp) rfl rfl ?_
                  refine wl_skip rfl rfl rfl (by simp) rfl rfl ?_
                  refine wl_skip rfl rfl rfl (by simp) rfl rfl ?_
                  refine wl_ex (ex_pickt rfl rfl rfl) rfl rfl ?_
                  refine wl_nil ?_
                  refine pe_cut () (Sub.cons rfl rfl (Sub.cons rfl rfl (Sub.cons rfl rfl (Sub.cons rfl (congrArg Value.bool (by first | (simp [g19, g20, g21]; done) | grind)) (Sub.nil _))))) (.cons (.head _ _) rfl (.cons (.head _ _) rfl (.cons (.head _ _) rfl (.cons (.head _ _) rfl (.cons (.head _ _) rfl (.cons (.head _ _) rfl (.cons (.head _ _) rfl (.cons (.head _ _) rfl (.cons (.head _ _) rfl (.nil _)))))))))) trivial
                · refine wl_pass rfl rfl rfl (decide_eq_false g21) ?_
                  refine wl_ex (ex_move rfl) rfl rfl ?_
                  refine wl_pass rfl rfl rfl (decide_eq_false g21) ?_
                  refine wl_ex (ex_move rfl) rfl rfl ?_
                  refine wl_pass rfl rfl rfl (decide_eq_false g21) ?_
                  refine wl_ex (ex_neq rfl rfl) rfl rfl ?_
                  refine wl_ex (ex_pickf rfl (decide_eq_false g21) rfl) rfl rfl ?_
                  refine wl_ex (ex_move rfl) rfl rfl ?_
                  by_cases g22 : ((stlR (evenI y)).length : Int) ≠ ((stlR (otherT (pickI p1 8) (pickI p2 8) (evenI y) 8)).length : Int)
                  · refine wl_skip rfl rfl rfl (fun h => of_decide_eq_false (Value.bool.inj h) g22) rfl rfl ?_
                    refine wl_skip rfl rfl rfl (fun h => of_decide_eq_false (Value.bool.inj h) g22) rfl rfl ?_
                    refine wl_skip rfl rfl rfl (fun h => of_decide_eq_false (Value.bool.inj h) g22) rfl rfl ?_
                    refine wl_ex (ex_pickt rfl (decide_eq_true g22) rfl) rfl rfl ?_
                    refine wl_nil ?_
                    refine pe_cut () (Sub.cons rfl rfl (Sub.cons rfl rfl (Sub.cons rfl rfl (Sub.cons rfl (congrArg Value.bool (by first | (simp [g19, g20, g21, g22]; done) | grind)) (Sub.nil _))))) (.cons (.head _ _) rfl (.cons (.head _ _) rfl (.cons (.head _ _) rfl (.cons (.head _ _) rfl (.cons (.head _ _) rfl (.cons (.head _ _) rfl (.cons (.head _ _) rfl (.cons (.head _ _) rfl (.cons (.head _ _) rfl (.nil _)))))))))) trivial
                  · refine wl_pass rfl rfl rfl (decide_eq_false g22) ?_
                    refine wl_ex (ex_move rfl) rfl rfl ?_
                    refine wl_pass rfl rfl rfl (decide_eq_false g22) ?_
                    refine wl_ex (ex_move rfl) rfl rfl ?_
                    refine wl_pass rfl rfl rfl (decide_eq_false g22) ?_
                    refine wl_ex (ex_neq rfl rfl) rfl rfl ?_
                    refine wl_ex (ex_pickf rfl (decide_eq_false g22) rfl) rfl rfl ?_
                    refine wl_nil ?_
                    refine pe_cut () (Sub.cons rfl rfl (Sub.cons rfl rfl (Sub.cons rfl rfl (Sub.cons rfl (congrArg Value.bool (by first | (simp [g19, g20, g21, g22]; done) | grind)) (Sub.nil _))))) (.cons (.head _ _) rfl (.cons (.head _ _) rfl (.cons (.head _ _) rfl (.cons (.head _ _) rfl (.cons (.head _ _) rfl (.cons (.head _ _) rfl (.cons (.head _ _) rfl (.cons (.head _ _) rfl (.cons (.head _ _) rfl (.nil _)))))))))) trivial
          · rintro _ _
            show WC _ _ _ [(25, .slice (some ⟨r17, 0, none⟩) 8 8), (27, .slice (some ⟨r18, 0, none⟩) 8 8), (28, .int .i64 nn), (220, .bool (decide (((((errI (evenI y) ≠ 0) ∨ (errI (otherT (pickI p1 8) (pickI p2 8) (evenI y) 8) ≠ 0)) ∨ (errI (signsT (evenI y) 8) ≠ 0)) ∨ (((stlR (evenI y)).length : Int) ≠ ((stlR (otherT (pickI p1 8) (pickI p2 8) (evenI y) 8)).length : Int))) ∨ (((stlR (evenI y)).length : Int) ≠ ((stlR (signsT (evenI y) 8)).length : Int)))))] [.own (some ⟨r18, 0, none⟩) 8 8 3 1 (encs encI (baseT (evenI y) 8)), .own (some ⟨r17, 0, none⟩) 8 8 3 1 (encs encI (timesT (1 + pickI p3 5) (evenI y) 8)), .own (some ⟨r16, 0, none⟩) 8 8 3 1 (encs encI (signsT (evenI y) 8)), .own (some ⟨r15, 0, none⟩) 8 8 3 1 (encs encI (otherT (pickI p1 8) (pickI p2 8) (evenI y) 8)), .own A13 ((evenI y).length) c14 3 1 (encs encI (evenI y)), .own A11 ((balR m).length) c12 3 1 (encs encI (balR m)), .own A9 ((balR (madeI x)).length) c10 3 1 (encs encI (balR (madeI x))), .own AM m.length cM 47 3 (encs encD m), .own A1 ((madeI x).length) c2 47 3 (encs encD (madeI x))]
            refine wc_ite rfl (fun c220 => ?_) (fun c220 => ?_)
            · exfalso; omega
            · refine wc_skip ?_
              refine pe_seq ?_
              refine wc_seq ?_
              refine wc_seq ?_
              refine wc_region ?_
              refine wl_ex (ex_move rfl) rfl rfl ?_
              refine wl_ex (ex_neq rfl rfl) rfl rfl ?_
              refine wl_nil ?_
              refine pe_seq ?_
              refine wc_ite rfl (fun c222 => ?_) (fun c222 => ?_)
              · refine wc_seq ?_
                refine wc_region ?_
                refine wl_ex (ex_assign rfl) rfl rfl ?_
                refine wl_nil ?_
                refine pe_seq ?_
                refine wc_ret ?_
                refine pe_seq_ret ?_
                refine pe_ret1 rfl rfl rfl (fun w' hm => ⟨?_, hm.ent (.nil _)⟩)
                first | rfl | exact congrArg Value.bool (decide_eq_true (by omega))
              · have hn0 : (baseT (evenI y) 8).sum = 0 := by rw [← n2]; omega
                obtain ⟨hb1, hb2, hb3⟩ := times_same (e := evenI y) (m := (1 + pickI p3 5)) (by omega) hn0
                have hb1 : goodI (baseT (evenI y) 8) := hb1
                have hb2 : goodI (timesT (1 + pickI p3 5) (evenI y) 8) := hb2
                have hb3 : (stlI (baseT (evenI y) 8)).length = (stlI (timesT (1 + pickI p3 5) (evenI y) 8)).length := hb3
                rw [← stlR_good hb1, ← stlR_good hb2] at hb3
                have hq3 : errI (baseT (evenI y) 8) = 0 := if_pos hb1
                have hq4 : errI (timesT (1 + pickI p3 5) (evenI y) 8) = 0 := if_pos hb2
                refine wc_skip ?_
                refine pe_seq ?_
                refine wc_seq ?_
                refine wc_region ?_
                refine wl_ex (ex_move rfl) rfl rfl ?_
                refine wl_callV [.tmp 224] rfl ok_28 rfl (fun w hm => c_Fewest (some ⟨r18, 0, none⟩) 8 (baseT (evenI y) 8) w (((sl_own (.head _ _))).at hm)  (by first | assumption | omega)) rfl ?_
                refine wl_ex (ex_move rfl) rfl rfl ?_
                refine wl_ex (ex_extract rfl rfl) rfl rfl ?_
                refine wl_ex (ex_extract rfl rfl) rfl rfl ?_
                refine wl_ex (ex_assign rfl) rfl rfl ?_
                refine wl_ex (ex_assign rfl) rfl rfl ?_
                refine wl_nil ?_
                refine pe_seq ?_
                refine wc_seq ?_
                refine wc_region ?_
                refine wl_ex (ex_move rfl) rfl rfl ?_
                refine wl_callV [.tmp 229] rfl ok_28 rfl (fun w hm => c_Fewest (some ⟨r17, 0, none⟩) 8 (timesT (1 + pickI p3 5) (evenI y) 8) w (((sl_own (.tail (.head _ _)))).at hm)  (by first | assumption | omega)) rfl ?_
                refine wl_ex (ex_move rfl) rfl rfl ?_
                refine wl_ex (ex_extract rfl rfl) rfl rfl ?_
                refine wl_ex (ex_extract rfl rfl) rfl rfl ?_
                refine wl_ex (ex_assign rfl) rfl rfl ?_
                refine wl_ex (ex_assign rfl) rfl rfl ?_
                refine wl_nil ?_
                refine pe_seq ?_
                refine wc_cut (σ := Unit) (fun _ => [(10, .bool (decide (((errI (baseT (evenI y) 8) = 0) ∧ (errI (timesT (1 + pickI p3 5) (evenI y) 8) = 0)) ∧ (((stlR (baseT (evenI y) 8)).length : Int) = ((stlR (timesT (1 + pickI p3 5) (evenI y) 8)).length : Int)))))]) (fun _ => [.own (some ⟨r18, 0, none⟩) 8 8 3 1 (encs encI (baseT (evenI y) 8)), .own (some ⟨r17, 0, none⟩) 8 8 3 1 (encs encI (timesT (1 + pickI p3 5) (evenI y) 8)), .own (some ⟨r16, 0, none⟩) 8 8 3 1 (encs encI (signsT (evenI y) 8)), .own (some ⟨r15, 0, none⟩) 8 8 3 1 (encs encI (otherT (pickI p1 8) (pickI p2 8) (evenI y) 8)), .own A13 ((evenI y).length) c14 3 1 (encs encI (evenI y)), .own A11 ((balR m).length) c12 3 1 (encs encI (balR m)), .own A9 ((balR (madeI x)).length) c10 3 1 (encs encI (balR (madeI x))), .own AM m.length cM 47 3 (encs encD m), .own A1 ((madeI x).length) c2 47 3 (encs encD (madeI x))]) (fun _ => True) ?_ ?_
                · refine wc_region ?_
                  refine wl_ex (ex_move rfl) rfl rfl ?_
                  refine wl_ex (ex_eql rfl rfl) rfl rfl ?_
                  refine wl_ex (ex_move rfl) rfl rfl ?_
                  by_cases g23 : errI (baseT (evenI y) 8) = 0
                  · refine wl_pass rfl rfl rfl (decide_eq_true g23) ?_
                    refine wl_ex (ex_move rfl) rfl rfl ?_
                    refine wl_pass rfl rfl rfl (decide_eq_true g23) ?_
                    refine wl_ex (ex_eql rfl rfl) rfl rfl ?_
                    refine wl_ex (ex_pickt rfl (decide_eq_true g23) rfl) rfl rfl ?_
                    refine wl_ex (ex_move rfl) rfl rfl ?_
                    by_cases g24 : errI (timesT (1 + pickI p3 5) (evenI y) 8) = 0
                    · refine wl_pass rfl rfl rfl (decide_eq_true g24) ?_
                      refine wl_ex (ex_move rfl) rfl rfl ?_
                      refine wl_pass rfl rfl rfl (decide_eq_true g24) ?_
                      refine wl_ex (ex_move rfl) rfl rfl ?_
                      refine wl_pass rfl rfl rfl (decide_eq_true g24) ?_
                      refine wl_ex (ex_eql rfl rfl) rfl rfl ?_
                      refine wl_ex (ex_pickt rfl (decide_eq_true g24) rfl) rfl rfl ?_
                      refine wl_ex (ex_assign rfl) rfl rfl ?_
                      refine wl_nil ?_
                      refine pe_cut () (Sub.cons rfl (congrArg Value.bool (by first | (simp [g23, g24]; done) | grind)) (Sub.nil _)) (.cons (.head _ _) rfl (.cons (.head _ _) rfl (.cons (.head _ _) rfl (.cons (.head _ _) rfl (.cons (.head _ _) rfl (.cons (.head _ _) rfl (.cons (.head _ _) rfl (.cons (.head _ _) rfl (.cons (.head _ _) rfl (.nil _)))))))))) trivial
                    · refine wl_skip rfl rfl rfl (fun h => g24 (of_decide_eq_true (Value.bool.inj h))) rfl rfl ?_
                      refine wl_skip rfl rfl rfl (fun h => g24 (of_decide_eq_true (Value.bool.inj h))) rfl rfl ?_
                      refine wl_skip rfl rfl rfl (fun h => g24 (of_decide_eq_true (Value.bool.inj h))) rfl rfl ?_
                      refine wl_ex (ex_pickf rfl (decide_eq_false g24) rfl) rfl rfl ?_
                      refine wl_ex (ex_assign rfl) rfl rfl ?_
                      refine wl_nil ?_
                      refine pe_cut () (Sub.cons rfl (congrArg Value.bool (by first | (simp [g23, g24]; done) | grind)) (Sub.nil _)) (.cons (.head _ _) rfl (.cons (.head _ _) rfl (.cons (.head _ _) rfl (.cons (.head _ _) rfl (.cons (.head _ _) rfl (.cons (.head _ _) rfl (.cons (.head _ _) rfl (.cons (.head _ _) rfl (.cons (.head _ _) rfl (.nil _)))))))))) trivial
                  · refine wl_skip rfl rfl rfl (fun h => g23 (of_decide_eq_true (Value.bool.inj h))) rfl rfl ?_
                    refine wl_skip rfl rfl rfl (fun h => g23 (of_decide_eq_true (Value.bool.inj h))) rfl rfl ?_
                    refine wl_ex (ex_pickf rfl (decide_eq_false g23) rfl) rfl rfl ?_
                    refine wl_ex (ex_move rfl) rfl rfl ?_
                    refine wl_skip rfl rfl rfl (by simp) rfl rfl ?_
                    refine wl_skip rfl rfl rfl (by simp) rfl rfl ?_
                    refine wl_skip rfl rfl rfl (by simp) rfl rfl ?_
                    refine wl_ex (ex_pickf rfl rfl rfl) rfl rfl ?_
                    refine wl_ex (ex_assign rfl) rfl rfl ?_
                    refine wl_nil ?_
                    refine pe_cut () (Sub.cons rfl (congrArg Value.bool (by first | (simp [g23]; done) | grind)) (Sub.nil _)) (.cons (.head _ _) rfl (.cons (.head _ _) rfl (.cons (.head _ _) rfl (.cons (.head _ _) rfl (.cons (.head _ _) rfl (.cons (.head _ _) rfl (.cons (.head _ _) rfl (.cons (.head _ _) rfl (.cons (.head _ _) rfl (.nil _)))))))))) trivial
                · rintro _ _
                  show WC _ _ _ [(10, .bool (decide (((errI (baseT (evenI y) 8) = 0) ∧ (errI (timesT (1 + pickI p3 5) (evenI y) 8) = 0)) ∧ (((stlR (baseT (evenI y) 8)).length : Int) = ((stlR (timesT (1 + pickI p3 5) (evenI y) 8)).length : Int)))))] [.own (some ⟨r18, 0, none⟩) 8 8 3 1 (encs encI (baseT (evenI y) 8)), .own (some ⟨r17, 0, none⟩) 8 8 3 1 (encs encI (timesT (1 + pickI p3 5) (evenI y) 8)), .own (some ⟨r16, 0, none⟩) 8 8 3 1 (encs encI (signsT (evenI y) 8)), .own (some ⟨r15, 0, none⟩) 8 8 3 1 (encs encI (otherT (pickI p1 8) (pickI p2 8) (evenI y) 8)), .own A13 ((evenI y).length) c14 3 1 (encs encI (evenI y)), .own A11 ((balR m).length) c12 3 1 (encs encI (balR m)), .own A9 ((balR (madeI x)).length) c10 3 1 (encs encI (balR (madeI x))), .own AM m.length cM 47 3 (encs encD m), .own A1 ((madeI x).length) c2 47 3 (encs encD (madeI x))]
                  refine wc_ret ?_
                  refine pe_ret1 rfl rfl rfl (fun w' hm => ⟨?_, hm.ent (.nil _)⟩)
                  first | rfl | exact congrArg Value.bool (decide_eq_true (by omega))

end Go.Proofs.Ytolfgdkdghhidaa
