/- Walks. -/
import Derived.Test.YtolfgdkdghhidaaXa
import Derived.Test.YtolfgdkdghhidaaWu
set_option linter.unusedVariables false
set_option linter.unusedSimpArgs false
namespace Go.Proofs.Ytolfgdkdghhidaa
open Go Go.RowKit
theorem made_good (x : List Tri) : goodI (balI (madeI x)) := by
  have hmd := made_debts x
  have hml := made_len x
  refine ⟨?_, balI_length _, bal_sum _ hmd.1⟩
  have h := balI_within (lim := 1000000000) (by omega) (madeI x) (fun d hd => debts_amt hmd d hd) (fun d hd => debts_idx hmd d hd)
  have h2 : Within 1000000000000 (balI (madeI x)) := within_mono h (by omega)
  exact h2
theorem ok_13 : callOK Try.prog 13 = true := by kernel_rfl

theorem c_Fewest4 (Ax : Option Addr) (cx : Nat) (x : List Tri) (bd : Tri) (w : World) (hx : Sl w Ax (encs encT x)) (hxk : ∀ t ∈ x, t.ok) (hbd : bd.ok) :
    Cl Try.prog 6 [.slice Ax x.length cx, .agg (encT bd).toArray] w (IsV (.bool true) w) := by
  refine cl_of Try.func6 rfl Try.ntmps6 rfl (Mem.refl w) ?_
  unfold Tri.ok at hbd
  obtain ⟨hba, hbb_, hbc⟩ := hbd
  have hbc2 := hbc
  unfold i64 at hbc2
  have hmd := made_debts x
  have hml := made_len x
  have hb : balR (madeI x) = balI (madeI x) := if_pos hmd
  have he : errN (madeI x) = 0 := if_pos hmd
  have hg : goodI (balR (madeI x)) := by rw [hb]; exact made_good x
  have hs := stlR_good hg
  have heb : errI (balR (madeI x)) = 0 := if_pos hg
  have hck : CheckP (balR (madeI x)) (madeI x) := ⟨hg, debts_mono (a := 1000000000) (by decide) hmd, hb.symm⟩
  have hcs : CheckP (balR (madeI x)) (stlR (balR (madeI x))) := by rw [hs]; exact stl_check hg
  have hsl := hcs.2.1.2
  have hle := check_few hck
  rw [← hs] at hle
  have hbl : (balR (madeI x)).length ≤ 1000 := by rw [hg.2.1]; omega
  have hfw : ∀ q, CheckP (balR (madeI x)) q → (stlR (balR (madeI x))).length ≤ q.length := fun q hq => by rw [hs]; exact check_few hq
  have hol := bentD_len bd.a bd.b bd.c (l := stlR (balR (madeI x))) (by omega)
  have hz1 : ¬ (errN (madeI x) ≠ 0) := fun h => h he
  have hz2 : ¬ (errI (balR (madeI x)) ≠ 0) := fun h => h heb
  have hz3 : ¬ (¬ (CheckP (balR (madeI x)) (madeI x))) := fun h => h hck
  have hz4 : ¬ (((madeI x).length : Int) < ((stlR (balR (madeI x))).length : Int)) := by omega
  refine wc_seq ?_
  refine wc_region ?_
  refine wl_box rfl rfl rfl fun r1 => ?_
  refine wl_ex (ex_assign rfl) rfl rfl ?_
  refine wl_nil ?_
  refine pe_seq ?_
  refine wc_seq ?_
  refine wc_seq ?_
  refine wc_region ?_
  refine wl_callV [] rfl ok_11 rfl (fun w hm => c_sane  w   ) rfl ?_
  refine wl_ex (ex_notb rfl) rfl rfl ?_
  refine wl_nil ?_
  refine pe_seq ?_
  refine wc_iff rfl ?_
  refine wc_skip ?_
  refine pe_seq ?_
  refine wc_seq ?_
  refine wc_region ?_
  refine wl_ex (ex_move rfl) rfl rfl ?_
  refine wl_callS [.tmp 16] rfl ok_12 rfl (fun w hm => c_Made Ax cx x w (((sl_arg hx rfl)).at hm)  (by assumption)) rfl fun A2 c3 => ?_
  refine wl_ex (ex_assign rfl) rfl rfl ?_
  refine wl_nil ?_
  refine pe_seq ?_
  refine wc_seq ?_
  refine wc_region ?_
  refine wl_ex (ex_move rfl) rfl rfl ?_
  refine wl_callS2 [.tmp 19] rfl ok_14 rfl (fun w hm => c_BalancesN A2 c3 (madeI x) w (((sl_own (.head _ _))).at hm)  (by first | omega | assumption)) rfl fun A4 c5 => ?_
  refine wl_ex (ex_move rfl) rfl rfl ?_
  refine wl_ex (ex_extract rfl rfl) rfl rfl ?_
  refine wl_ex (ex_extract rfl rfl) rfl rfl ?_
  refine wl_ex (ex_assign rfl) rfl rfl ?_
  refine wl_ex (ex_assign rfl) rfl rfl ?_
  refine wl_nil ?_
  refine pe_seq ?_
  refine wc_seq ?_
  refine wc_region ?_
  refine wl_ex (ex_move rfl) rfl rfl ?_
  refine wl_callV [.tmp 24] rfl ok_28 rfl (fun w hm => c_Fewest A4 c5 (balR (madeI x)) w (((sl_own (.head _ _))).at hm)  (by first | assumption | omega)) rfl ?_
  refine wl_ex (ex_move rfl) rfl rfl ?_
  refine wl_ex (ex_extract rfl rfl) rfl rfl ?_
  refine wl_ex (ex_extract rfl rfl) rfl rfl ?_
  refine wl_ex (ex_assign rfl) rfl rfl ?_
  refine wl_ex (ex_assign rfl) rfl rfl ?_
  refine wl_nil ?_
  refine pe_seq ?_
  refine wc_seq ?_
  refine wc_region ?_
  refine wl_ex (ex_move rfl) rfl rfl ?_
  refine wl_callS2 [.tmp 29] rfl ok_30 rfl (fun w hm => c_Settle A4 c5 (balR (madeI x)) w (((sl_own (.head _ _))).at hm)  (by first | assumption | omega)) rfl fun A6 c7 => ?_
  refine wl_ex (ex_move rfl) rfl rfl ?_
  refine wl_ex (ex_extract rfl rfl) rfl rfl ?_
  refine wl_ex (ex_extract rfl rfl) rfl rfl ?_
  refine wl_ex (ex_assign rfl) rfl rfl ?_
  refine wl_ex (ex_assign rfl) rfl rfl ?_
  refine wl_nil ?_
  refine pe_seq ?_
  refine wc_seq ?_
  refine wc_seq ?_
  refine wc_region ?_
  refine wl_ex (ex_move rfl) rfl rfl ?_
  refine wl_ex (ex_neq rfl rfl) rfl rfl ?_
  refine wl_ex (ex_move rfl) rfl rfl ?_
  refine wl_pass rfl rfl rfl (decide_eq_false hz1) ?_
  refine wl_ex (ex_move rfl) rfl rfl ?_
  refine wl_pass rfl rfl rfl (decide_eq_false hz1) ?_
  refine wl_ex (ex_neq rfl rfl) rfl rfl ?_
  refine wl_ex (ex_pickf rfl (decide_eq_false hz1) rfl) rfl rfl ?_
  refine wl_ex (ex_move rfl) rfl rfl ?_
  refine wl_pass rfl rfl rfl (decide_eq_false hz2) ?_
  refine wl_ex (ex_move rfl) rfl rfl ?_
  refine wl_pass rfl rfl rfl (decide_eq_false hz2) ?_
  refine wl_ex (ex_neq rfl rfl) rfl rfl ?_
  refine wl_ex (ex_pickf rfl (decide_eq_false hz2) rfl) rfl rfl ?_
  refine wl_ex (ex_move rfl) rfl rfl ?_
  refine wl_pass rfl rfl rfl (decide_eq_false hz2) ?_
  refine wl_ex (ex_move rfl) rfl rfl ?_
  refine wl_pass rfl rfl rfl (decide_eq_false hz2) ?_
  refine wl_ex (ex_move rfl) rfl rfl ?_
  refine wl_pass rfl rfl rfl (decide_eq_false hz2) ?_
  refine wl_callV [.tmp 44, .tmp 45] rfl ok_31 rfl (fun w hm => c_Check A4 c5 (balR (madeI x)) A2 c3 (madeI x) w (((sl_own (.tail (.head _ _)))).at hm) (((sl_own (.tail (.tail (.head _ _))))).at hm)  (by first | assumption | omega) (by first | assumption | omega)) rfl ?_
  refine wl_pass rfl rfl rfl (decide_eq_false hz2) ?_
  refine wl_ex (ex_not rfl) rfl rfl ?_
  refine wl_ex (ex_pickf rfl (decide_eq_false hz2) rfl) rfl rfl ?_
  refine wl_ex (ex_move rfl) rfl rfl ?_
  refine wl_pass rfl rfl rfl (decide_eq_false hz3) ?_
  refine wl_ex (ex_move rfl) rfl rfl ?_
  refine wl_pass rfl rfl rfl (decide_eq_false hz3) ?_
  refine wl_ex (ex_move rfl) rfl rfl ?_
  refine wl_pass rfl rfl rfl (decide_eq_false hz3) ?_
  refine wl_ex (ex_len Try.underlying24 rfl) rfl rfl ?_
  refine wl_pass rfl rfl rfl (decide_eq_false hz3) ?_
  refine wl_ex (ex_gtr rfl rfl) rfl rfl ?_
  refine wl_ex (ex_pickf rfl (decide_eq_false hz3) rfl) rfl rfl ?_
  refine wl_nil ?_
  refine pe_seq ?_
  refine wc_ite rfl (fun c54 => absurd c54 hz4) (fun c54 => ?_)
  refine wc_skip ?_
  refine pe_seq ?_
  refine wc_seq ?_
  refine wc_region ?_
  refine wl_ex (ex_move rfl) rfl rfl ?_
  refine wl_ex (ex_indexAddrA (off' := 0) rfl rfl Try.underlying23 sz_3 (by omega) (by omega) (by simp)) rfl rfl ?_
  refine wl_ex (ex_load rfl ag_3 (rd_row1 (.tail (.tail (.tail (.head _ _)))) rfl)) rfl rfl ?_
  refine wl_ex (ex_indexAddrA (off' := 1) rfl rfl Try.underlying23 sz_3 (by omega) (by omega) (by simp)) rfl rfl ?_
  refine wl_ex (ex_load rfl ag_3 (rd_row1 (.tail (.tail (.tail (.head _ _)))) rfl)) rfl rfl ?_
  refine wl_ex (ex_indexAddrA (off' := 2) rfl rfl Try.underlying23 sz_3 (by omega) (by omega) (by simp)) rfl rfl ?_
  refine wl_ex (ex_load rfl ag_3 (rd_row1 (.tail (.tail (.tail (.head _ _)))) rfl)) rfl rfl ?_
  refine wl_callS [.tmp 55, .tmp 57, .tmp 59, .tmp 61] rfl ok_13 rfl (fun w hm => c_Bent A6 c7 (stlR (balR (madeI x))) bd.a bd.b bd.c w (((sl_own (.head _ _))).at hm)  (by omega) (by assumption) (by assumption) (by assumption)) rfl fun A8 c9 => ?_
  refine wl_ex (ex_assign rfl) rfl rfl ?_
  refine wl_nil ?_
  refine pe_seq ?_
  refine wc_seq ?_
  refine wc_cut (σ := Unit) (fun _ => [(3, .pointer (some ⟨r1, 0, none⟩)), (6, .slice A4 ((balR (madeI x)).length) c5), (8, .int .i64 ((stlR (balR (madeI x))).length : Int)), (10, .slice A6 ((stlR (balR (madeI x))).length) c7), (71, .bool (decide ((CheckP (balR (madeI x)) (bentD (stlR (balR (madeI x))) bd.a bd.b bd.c)) ∧ (((bentD (stlR (balR (madeI x))) bd.a bd.b bd.c).length : Int) < ((stlR (balR (madeI x))).length : Int)))))]) (fun _ => [.own A8 ((bentD (stlR (balR (madeI x))) bd.a bd.b bd.c).length) c9 47 3 (encs encD (bentD (stlR (balR (madeI x))) bd.a bd.b bd.c)), .own A6 ((stlR (balR (madeI x))).length) c7 47 3 (encs encD (stlR (balR (madeI x)))), .own A4 ((balR (madeI x)).length) c5 3 1 (encs encI (balR (madeI x))), .own A2 ((madeI x).length) c3 47 3 (encs encD (madeI x)), .row r1 23 [.int .i64 bd.a, .int .i64 bd.b, .int .i64 bd.c]]) (fun _ => True) ?_ ?_
  · refine wc_region ?_
    refine wl_ex (ex_move rfl) rfl rfl ?_
    refine wl_ex (ex_move rfl) rfl rfl ?_
    refine wl_callV [.tmp 63, .tmp 64] rfl ok_31 rfl (fun w hm => c_Check A4 c5 (balR (madeI x)) A8 c9 (bentD (stlR (balR (madeI x))) bd.a bd.b bd.c) w (((sl_own (.tail (.tail (.head _ _))))).at hm) (((sl_own (.head _ _))).at hm)  (by first | assumption | omega) (by first | assumption | omega)) rfl ?_
    refine wl_ex (ex_move rfl) rfl rfl ?_
    by_cases g10 : CheckP (balR (madeI x)) (bentD (stlR (balR (madeI x))) bd.a bd.b bd.c)
    · refine wl_pass rfl rfl rfl (decide_eq_true g10) ?_
      refine wl_ex (ex_move rfl) rfl rfl ?_
      refine wl_pass rfl rfl rfl (decide_eq_true g10) ?_
      refine wl_ex (ex_len Try.underlying24 rfl) rfl rfl ?_
      refine wl_pass rfl rfl rfl (decide_eq_true g10) ?_
      refine wl_ex (ex_move rfl) rfl rfl ?_
      refine wl_pass rfl rfl rfl (decide_eq_true g10) ?_
      refine wl_ex (ex_lss rfl rfl) rfl rfl ?_
      refine wl_ex (ex_pickt rfl (decide_eq_true g10) rfl) rfl rfl ?_
      refine wl_nil ?_
      refine pe_cut () (Sub.cons rfl rfl (Sub.cons rfl rfl (Sub.cons rfl rfl (Sub.cons rfl rfl (Sub.cons rfl (congrArg Value.bool (by first | (simp [g10]; done) | grind)) (Sub.nil _)))))) (.cons (.head _ _) rfl (.cons (.head _ _) rfl (.cons (.head _ _) rfl (.cons (.head _ _) rfl (.cons (.head _ _) rfl (.nil _)))))) trivial
    · refine wl_skip rfl rfl rfl (fun h => g10 (of_decide_eq_true (Value.bool.inj h))) rfl rfl ?_
      refine wl_skip rfl rfl rfl (fun h => g10 (of_decide_eq_true (Value.bool.inj h))) rfl rfl ?_
      refine wl_skip rfl rfl rfl (fun h => g10 (of_decide_eq_true (Value.bool.inj h))) rfl rfl ?_
      refine wl_skip rfl rfl rfl (fun h => g10 (of_decide_eq_true (Value.bool.inj h))) rfl rfl ?_
      refine wl_ex (ex_pickf rfl (decide_eq_false g10) rfl) rfl rfl ?_
      refine wl_nil ?_
      refine pe_cut () (Sub.cons rfl rfl (Sub.cons rfl rfl (Sub.cons rfl rfl (Sub.cons rfl rfl (Sub.cons rfl (congrArg Value.bool (by first | (simp [g10]; done) | grind)) (Sub.nil _)))))) (.cons (.head _ _) rfl (.cons (.head _ _) rfl (.cons (.head _ _) rfl (.cons (.head _ _) rfl (.cons (.head _ _) rfl (.nil _)))))) trivial
  · rintro _ _
    show WC _ _ _ [(3, .pointer (some ⟨r1, 0, none⟩)), (6, .slice A4 ((balR (madeI x)).length) c5), (8, .int .i64 ((stlR (balR (madeI x))).length : Int)), (10, .slice A6 ((stlR (balR (madeI x))).length) c7), (71, .bool (decide ((CheckP (balR (madeI x)) (bentD (stlR (balR (madeI x))) bd.a bd.b bd.c)) ∧ (((bentD (stlR (balR (madeI x))) bd.a bd.b bd.c).length : Int) < ((stlR (balR (madeI x))).length : Int)))))] [.own A8 ((bentD (stlR (balR (madeI x))) bd.a bd.b bd.c).length) c9 47 3 (encs encD (bentD (stlR (balR (madeI x))) bd.a bd.b bd.c)), .own A6 ((stlR (balR (madeI x))).length) c7 47 3 (encs encD (stlR (balR (madeI x)))), .own A4 ((balR (madeI x)).length) c5 3 1 (encs encI (balR (madeI x))), .own A2 ((madeI x).length) c3 47 3 (encs encD (madeI x)), .row r1 23 [.int .i64 bd.a, .int .i64 bd.b, .int .i64 bd.c]]
    refine wc_ite rfl (fun c71 => ?_) (fun c71 => ?_)
    · exact absurd (hfw _ c71.1) (by have := c71.2; omega)
    · refine wc_skip ?_
      refine pe_seq ?_
      refine wc_seq ?_
      refine wc_seq ?_
      refine wc_region ?_
      refine wl_ex (ex_move rfl) rfl rfl ?_
      refine wl_ex (ex_len Try.underlying24 rfl) rfl rfl ?_
      refine wl_ex (ex_eql rfl rfl) rfl rfl ?_
      refine wl_nil ?_
      refine pe_seq ?_
      refine wc_ite rfl (fun c74 => ?_) (fun c74 => ?_)
      · refine wc_seq ?_
        refine wc_region ?_
        refine wl_ex (ex_move rfl) rfl rfl ?_
        refine wl_ex (ex_eql rfl rfl) rfl rfl ?_
        refine wl_ex (ex_assign rfl) rfl rfl ?_
        refine wl_nil ?_
        refine pe_seq ?_
        refine wc_ret ?_
        refine pe_seq_ret ?_
        refine pe_ret1 rfl rfl rfl (fun w' hm => ⟨?_, hm.ent (.nil _)⟩)
        first | rfl | exact congrArg Value.bool (decide_eq_true (by omega)) | exact congrArg Value.bool (decide_eq_true (fun h => by have := hfw _ h; omega))
      · refine wc_skip ?_
        refine pe_seq ?_
        refine wc_seq ?_
        refine wc_region ?_
        refine wl_ex (ex_indexAddrA (off' := 2) rfl rfl Try.underlying23 sz_3 (by omega) (by omega) (by simp)) rfl rfl ?_
        refine wl_own (.tail (.head _ _)) fun hcap hcap2 hspot => ?_
        refine wl_ex (ex_load rfl ag_3 (rd_row1 (.tail (.tail (.tail (.tail (.head _ _))))) rfl)) rfl rfl ?_
        refine wl_ex (ex_move rfl) rfl rfl ?_
        refine wl_ex (ex_len Try.underlying24 rfl) rfl rfl ?_
        refine wl_callV [.tmp 78, .tmp 80] rfl ok_34 rfl (fun w hm => c_pickL bd.c ((stlR (balR (madeI x))).length : Int) w   (by omega) (by omega)) rfl ?_
        refine wl_ex (ex_assign rfl) rfl rfl ?_
        refine wl_nil ?_
        refine pe_seq ?_
        refine wc_seq ?_
        refine wc_draw [.own A8 ((bentD (stlR (balR (madeI x))) bd.a bd.b bd.c).length) c9 47 3 (encs encD (bentD (stlR (balR (madeI x))) bd.a bd.b bd.c)), .own A6 ((stlR (balR (madeI x))).length) c7 47 3 (encs encD (stlR (balR (madeI x)))), .own A4 ((balR (madeI x)).length) c5 3 1 (encs encI (balR (madeI x))), .own A2 ((madeI x).length) c3 47 3 (encs encD (madeI x)), .row r1 23 [.int .i64 bd.a, .int .i64 bd.b, .int .i64 bd.c]] [(0, true), (2, true), (3, true), (4, true), (6, true), (7, true), (8, true), (9, true), (1, false), (5, false), (10, false), (11, false), (12, true), (13, true)] mixed (by kernel_rfl) (.cons (.head _ _) rfl (.cons (.head _ _) rfl (.cons (.head _ _) rfl (.cons (.head _ _) rfl (.cons (.head _ _) rfl (.nil _)))))) ?_
        refine cn_ex rfl (ex_move rfl) rfl rfl ?_
        refine cn_ex rfl (ex_move rfl) rfl rfl ?_
        refine cn_ex rfl (ex_move rfl) rfl rfl ?_
        have hkk := pick_bd bd.c ((stlR (balR (madeI x))).length : Int) (by omega)
        have hxl : (((stlR (balR (madeI x))).take (pickI bd.c ((stlR (balR (madeI x))).length : Int)).toNat) ++ ((stlR (balR (madeI x))).drop ((pickI bd.c ((stlR (balR (madeI x))).length : Int)) + 1).toNat)).length = (stlR (balR (madeI x))).length - 1 := by rw [List.length_append, List.length_take, List.length_drop]; omega
        refine cn_ex rfl (ex_sliceH0 rfl rfl Try.underlying24 sz_47 (by omega) (by omega)) rfl rfl ?_
        refine cn_ex rfl (ex_move rfl) rfl rfl ?_
        refine cn_ex rfl (ex_move rfl) rfl rfl ?_
        refine cn_ex rfl (ex_add rfl rfl (by omega) (by omega)) rfl rfl ?_
        refine cn_ex rfl (ex_sliceL rfl rfl Try.underlying24 sz_47 (by omega) (by omega)) rfl rfl ?_
        refine cn_tail rfl ?_
        refine wl_buildSlice [] rfl rfl Try.underlying24 sz_47 ze_47 rfl (by simp [Value.cells]) (by omega) (by omega) rfl fun r16 => ?_
        rw [show List.flatMap (fun x => x.cells.toList) ([] : List Value) = encs encD [] from rfl]
        refine cn_back (.cons (.tail (.head _ _)) rfl (.cons (.tail (.head _ _)) rfl (.cons (.tail (.head _ _)) rfl (.cons (.tail (.head _ _)) rfl (.cons (.tail (.head _ _)) rfl (.nil _)))))) ?_
        refine cn_tail rfl ?_
        refine wl_appendE encD_len encD_one rfl rfl Try.underlying24 sz_47 ze_47 rfl by_47 rfl (.head _ _) (sl_takeE encD_len (sl_own (.tail (.tail (.head _ _)))) ((pickI bd.c ((stlR (balR (madeI x))).length : Int)).toNat)) (by rw [List.length_take]; omega) (by first | rfl | simp) (by first | omega | (simp; omega)) (by first | omega | (simp; omega)) rfl fun A17 c18 => ?_
        rw [List.nil_append]
        refine cn_back (.cons (.tail (.head _ _)) rfl (.cons (.tail (.head _ _)) rfl (.cons (.tail (.head _ _)) rfl (.cons (.tail (.head _ _)) rfl (.cons (.tail (.head _ _)) rfl (.nil _)))))) ?_
        refine cn_tail rfl ?_
        refine wl_appendE encD_len encD_one rfl rfl Try.underlying24 sz_47 ze_47 rfl by_47 rfl (.head _ _) (sl_ownDrop encD_len (.tail (.tail (.head _ _))) (((pickI bd.c ((stlR (balR (madeI x))).length : Int)) + 1).toNat)) (by rw [List.length_drop]) (by first | rfl | simp) (by first | omega | (simp; omega)) (by first | omega | (simp; omega)) rfl fun A19 c20 => ?_
        refine cn_back (.cons (.tail (.head _ _)) rfl (.cons (.tail (.head _ _)) rfl (.cons (.tail (.head _ _)) rfl (.cons (.tail (.head _ _)) rfl (.cons (.tail (.head _ _)) rfl (.nil _)))))) ?_
        refine cn_tail rfl ?_
        refine wl_callV [.tmp 82, .tmp 92] rfl ok_31 rfl (fun w hm => c_Check A4 c5 (balR (madeI x)) A19 c20 (((stlR (balR (madeI x))).take (pickI bd.c ((stlR (balR (madeI x))).length : Int)).toNat) ++ ((stlR (balR (madeI x))).drop ((pickI bd.c ((stlR (balR (madeI x))).length : Int)) + 1).toNat)) w (((sl_own (.tail (.tail (.tail (.head _ _)))))).at hm) (((sl_own (.head _ _))).at hm)  (by first | assumption | omega) (by first | assumption | omega)) rfl ?_
        refine cn_back (.cons (.tail (.head _ _)) rfl (.cons (.tail (.head _ _)) rfl (.cons (.tail (.head _ _)) rfl (.cons (.tail (.head _ _)) rfl (.cons (.tail (.head _ _)) rfl (.nil _)))))) ?_
        refine cn_ex rfl (ex_not rfl) rfl rfl ?_
        refine cn_ex rfl (ex_assign rfl) rfl rfl ?_
        refine cn_nil ?_
        refine pe_seq ?_
        refine wc_ret ?_
        refine pe_ret1 rfl rfl rfl (fun w' hm => ⟨?_, hm.ent (.nil _)⟩)
        first | rfl | exact congrArg Value.bool (decide_eq_true (by omega)) | exact congrArg Value.bool (decide_eq_true (fun h => by have := hfw _ h; omega))

end Go.Proofs.Ytolfgdkdghhidaa
