/- Walks. -/
import Derived.Test.YtolfgdkdghhidaaWu
import Derived.Test.YtolfgdkdghhidaaP39
set_option linter.unusedVariables false
set_option linter.unusedSimpArgs false
namespace Go.Proofs.Ytolfgdkdghhidaa
open Go Go.RowKit



theorem c_Order (Ax : Option Addr) (cx : Nat) (x : List Tri) (Ay : Option Addr) (cy : Nat) (y : List Tri) (t : Int) (w : World) (hx : Sl w Ax (encs encT x)) (hy : Sl w Ay (encs encT y)) (hxk : ∀ t ∈ x, t.ok) (hyk : ∀ t ∈ y, t.ok) (bt : i64 t) :
    Cl Try.prog 9 [.slice Ax x.length cx, .slice Ay y.length cy, .int .i64 t] w (IsV (.bool true) w) := by
  refine cl_of Try.func9 rfl Try.ntmps9 rfl (Mem.refl w) ?_
  unfold i64 at bt
  have hmd := made_debts x
  have hyd := made_debts y
  have hml := made_len x
  have hyl := made_len y
  have hb : balR (madeI x) = balI (madeI x) := if_pos hmd
  have hby : balR (madeI y) = balI (madeI y) := if_pos hyd
  have he : errN (madeI x) = 0 := if_pos hmd
  have hey : errN (madeI y) = 0 := if_pos hyd
  have hz1 : ¬ (errN (madeI x) ≠ 0) := fun h => h he
  have hz2 : ¬ (errN (madeI y) ≠ 0) := fun h => h hey
  have hz3 : ¬ (((balR (madeI x)).length : Int) ≠ ((balR (madeI y)).length : Int)) := by rw [hb, hby, balI_length, balI_length]; simp
  have hlb : (balR (madeI x)).length = 8 := by rw [hb]; exact balI_length _
  have hly : (balR (madeI y)).length = 8 := by rw [hby]; exact balI_length _
  have hlp : (pairR (madeI x)).length ≤ 100 := by rw [show pairR (madeI x) = pairsI (madeI x) from if_pos hmd]; have := pairsI_length (madeI x); omega
  have hlr : (rndR (madeI x)).length ≤ 100 := by rw [show rndR (madeI x) = roundI (madeI x) from if_pos hmd]; have := list_le (roundS 64 (bookOf (madeI x))); exact Nat.le_trans this (by omega)
  have hwb : Within 120000000000000 (balR (madeI x)) := by have := balI_bound (debts_mono (a := 1000000000) (by decide) hmd) (madeI x).length; rw [List.take_of_length_le (Nat.le_refl _)] at this; rw [hb]; exact this
  have hwy : Within 120000000000000 (balR (madeI y)) := by have := balI_bound (debts_mono (a := 1000000000) (by decide) hyd) (madeI y).length; rw [List.take_of_length_le (Nat.le_refl _)] at this; rw [hby]; exact this
  refine wc_seq ?_
  refine wc_region ?_
  refine wl_ex (ex_assign rfl) rfl rfl ?_
  refine wl_nil ?_
  refine pe_seq ?_
  refine wc_seq ?_
  refine wc_seq ?_
  refine wc_region ?_
  refine wl_callV [] rfl ok_11 rfl (fun w hm => c_sane  w   ) rfl ?_
  refine wl_ex (ex_notb rfl) rfl rfl ?_
  refine wl_nil ?_
  refine pe_seq ?_
  refine wc_iff rfl ?_
  refine wc_skip ?_
  refine pe_seq ?_
  refine wc_seq ?_
  refine wc_region ?_
  refine wl_ex (ex_move rfl) rfl rfl ?_
  refine wl_callS [.tmp 30] rfl ok_12 rfl (fun w hm => c_Made Ax cx x w (((sl_arg hx rfl)).at hm)  (by assumption)) rfl fun A1 c2 => ?_
  refine wl_ex (ex_assign rfl) rfl rfl ?_
  refine wl_nil ?_
  refine pe_seq ?_
  refine wc_seq ?_
  refine wc_region ?_
  refine wl_ex (ex_assign rfl) rfl rfl ?_
  refine wl_nil ?_
  refine pe_seq ?_
  refine wc_seq ?_
  refine wc_seq ?_
  refine wc_region ?_
  refine wl_ex (ex_assign rfl) rfl rfl ?_
  refine wl_nil ?_
  refine pe_seq ?_
  refine wc_block ?_
  refine wc_nilOwn 47 3 ?_
  refine wc_loop (σ := Int × (List Debt) × (Option Addr) × Nat) (fun s => [(8, .slice s.2.2.1 s.2.1.length s.2.2.2), (9, .int .i64 s.1), (1, .slice Ay y.length cy), (2, .int .i64 t), (7, .slice A1 ((madeI x).length) c2)]) (fun s => [.own s.2.2.1 s.2.1.length s.2.2.2 47 3 (encs encD s.2.1), .own A1 ((madeI x).length) c2 47 3 (encs encD (madeI x))]) (fun s => (0 ≤ s.1 ∧ s.1 ≤ ((madeI x).length : Int)) ∧ s.2.1 = turnTo (madeI x) (pickI t ((madeI x).length : Int)).toNat s.1.toNat) (fun s => (((madeI x).length : Int) - s.1).toNat) ((0 : Int), ([] : List Debt), none, 0) (Sub.cons rfl rfl (Sub.cons rfl rfl (Sub.cons rfl rfl (Sub.cons rfl rfl (Sub.cons rfl rfl (Sub.nil _)))))) (.cons (.head _ _) (by first | rfl | simp) (.cons (.head _ _) rfl (.nil _))) (by first | (simp [turnTo]; done) | (simp [turnTo]; omega)) ?_
  rintro ⟨i, m, AM, cM⟩ hG
  show WC _ _ _ [(8, .slice AM m.length cM), (9, .int .i64 i), (1, .slice Ay y.length cy), (2, .int .i64 t), (7, .slice A1 ((madeI x).length) c2)] [.own AM m.length cM 47 3 (encs encD m), .own A1 ((madeI x).length) c2 47 3 (encs encD (madeI x))]
  replace hG : (0 ≤ i ∧ i ≤ ((madeI x).length : Int)) ∧ m = turnTo (madeI x) (pickI t ((madeI x).length : Int)).toNat i.toNat := hG
  obtain ⟨h1, h2⟩ := hG
  have hmln : m.length ≤ 20 := by rw [h2, turnTo_len]; omega
  refine wc_seq ?_
  refine wc_seq ?_
  refine wc_region ?_
  refine wl_ex (ex_move rfl) rfl rfl ?_
  refine wl_ex (ex_move rfl) rfl rfl ?_
  refine wl_ex (ex_len Try.underlying24 rfl) rfl rfl ?_
  refine wl_ex (ex_lss rfl rfl) rfl rfl ?_
  refine wl_nil ?_
  refine pe_seq ?_
  refine wc_ite rfl (fun c35 => ?_) (fun c35 => ?_)
  · refine wc_skip ?_
    refine pe_seq ?_
    refine wc_seq ?_
    refine wc_block ?_
    refine wc_region ?_
    refine wl_ex (ex_move rfl) rfl rfl ?_
    refine wl_ex (ex_move rfl) rfl rfl ?_
    refine wl_ex (ex_move rfl) rfl rfl ?_
    refine wl_ex (ex_move rfl) rfl rfl ?_
    refine wl_ex (ex_move rfl) rfl rfl ?_
    refine wl_ex (ex_len Try.underlying24 rfl) rfl rfl ?_
    refine wl_callV [.tmp 41, .tmp 43] rfl ok_34 rfl (fun w hm => c_pickL t ((madeI x).length : Int) w   (by omega) (by omega)) rfl ?_
    have hpb := pick_bd t ((madeI x).length : Int) (by omega)
    refine wl_ex (ex_add rfl rfl (by omega) (by omega)) rfl rfl ?_
    refine wl_ex (ex_move rfl) rfl rfl ?_
    refine wl_ex (ex_len Try.underlying24 rfl) rfl rfl ?_
    refine wl_ex (ex_rem rfl rfl (by omega) (by omega)) rfl rfl ?_
    have hm1 := Int.emod_nonneg (i + pickI t ((madeI x).length : Int)) (b := ((madeI x).length : Int)) (by omega)
    have hm2 := Int.emod_lt_of_pos (i + pickI t ((madeI x).length : Int)) (b := ((madeI x).length : Int)) (by omega)
    refine wl_ex (ex_indexAddr rfl rfl Try.underlying24 sz_47 (sl_own (.tail (.head _ _))) (by omega) (by omega) (enc_pos encD_len (by omega))) rfl rfl ?_
    obtain ⟨d_madeI_x__i_pickI_t_madeI_x_length_Int_madeI_x_length_Int, hd_madeI_x__i_pickI_t_madeI_x_length_Int_madeI_x_length_Int⟩ := get_if (madeI x) ((i + (pickI t ((madeI x).length : Int))) % ((madeI x).length : Int))
    refine wl_ex (ex_loadS rfl ag_47 sz_47 (encD_len _) (rd_encs encD_len (sl_own (.tail (.head _ _))) (hd_madeI_x__i_pickI_t_madeI_x_length_Int_madeI_x_length_Int (by omega) (by omega)))) rfl rfl ?_
    refine wl_buildSlice [.tmp 50] rfl rfl Try.underlying24 sz_47 ze_47 rfl (by simp [Value.cells, encD_len]) (by omega) (by omega) rfl fun r3 => ?_
    rw [show List.flatMap (fun x => x.cells.toList) [(.agg (encD d_madeI_x__i_pickI_t_madeI_x_length_Int_madeI_x_length_Int).toArray : Value)] = encs encD [d_madeI_x__i_pickI_t_madeI_x_length_Int_madeI_x_length_Int] from rfl]
    refine wl_appendE encD_len encD_one rfl rfl Try.underlying24 sz_47 ze_47 rfl by_47 rfl (.tail (.head _ _)) (sl_own (.head _ _)) (by rfl) (by first | rfl | simp) (by first | omega | (simp; omega)) (by first | omega | (simp; omega)) rfl fun A4 c5 => ?_
    refine wl_ex (ex_assign rfl) rfl rfl ?_
    refine wl_nil ?_
    refine pe_block _ ?_
    refine pe_seq ?_
    refine wc_region ?_
    refine wl_ex (ex_move rfl) rfl rfl ?_
    refine wl_ex (ex_add rfl rfl (by omega) (by omega)) rfl rfl ?_
    refine wl_ex (ex_assign rfl) rfl rfl ?_
    refine wl_nil ?_
    refine pe_again ⟨i + 1, m ++ ([d_madeI_x__i_pickI_t_madeI_x_length_Int_madeI_x_length_Int]), A4, c5⟩ (Sub.cons rfl (by first | rfl | simp) (Sub.cons rfl rfl (Sub.cons rfl rfl (Sub.cons rfl rfl (Sub.cons rfl rfl (Sub.nil _)))))) (.cons (.head _ _) (by first | rfl | simp) (.cons (.tail (.head _ _)) rfl (.nil _))) ?_ ?_
    · show (0 ≤ (i + 1) ∧ (i + 1) ≤ ((madeI x).length : Int)) ∧ (m ++ ([d_madeI_x__i_pickI_t_madeI_x_length_Int_madeI_x_length_Int])) = turnTo (madeI x) (pickI t ((madeI x).length : Int)).toNat (i + 1).toNat
      refine ⟨by omega, ?_⟩
      rw [turn_at (by omega) (pick_bd t _ (by omega)).1 (hd_madeI_x__i_pickI_t_madeI_x_length_Int_madeI_x_length_Int (by omega) (by omega)), ← h2]
    · first | omega | (simp only []; omega)
  · have hie : i = ((madeI x).length : Int) := by omega
    have hmm : m = turnTo (madeI x) (pickI t ((madeI x).length : Int)).toNat (madeI x).length := by rw [h2, hie, Int.toNat_natCast]
    have hmt : DebtsOK 1000000000 m := by rw [hmm]; exact turn_debts hmd _
    have hmv : DebtsOK 1000000000 (m ++ (madeI y)) := ⟨fun d hd => (List.mem_append.1 hd).elim (hmt.1 d) (hyd.1 d), by rw [List.length_append]; omega⟩
    have hzm : ¬ (errN m ≠ 0) := fun h => h (if_pos hmt)
    have hzv : ¬ (errN (m ++ (madeI y)) ≠ 0) := fun h => h (if_pos hmv)
    have hvb : balR (m ++ (madeI y)) = balI (m ++ (madeI y)) := if_pos hmv
    have hzw : ¬ (((balR (madeI x)).length : Int) ≠ ((balR (m ++ (madeI y))).length : Int)) := by rw [hb, hvb, balI_length, balI_length]; simp
    have hmbb : balI m = balI (madeI x) := by rw [hmm]; exact turn_bal hmd _
    have hq1 : (balR (madeI x)) = (balR m) := by rw [hb, show balR m = balI m from if_pos hmt, hmbb]
    have hq2 : (pairR (madeI x)) = (pairR m) := by rw [show pairR (madeI x) = pairsI (madeI x) from if_pos hmd, show pairR m = pairsI m from if_pos hmt, hmm, turn_pairs]
    have hq3 : (rndR (madeI x)) = (rndR m) := by rw [show rndR (madeI x) = roundI (madeI x) from if_pos hmd, show rndR m = roundI m from if_pos hmt, hmm, turn_round]
    have hsm : ∀ c, (balR (m ++ (madeI y))).getD c 0 = (balR (madeI x)).getD c 0 + (balR (madeI y)).getD c 0 := by rw [hvb, hb, hby, ← hmbb]; exact bal_app hmt.1 hyd.1
    have hwv : Within 120000000000000 (balR (m ++ (madeI y))) := by have := balI_bound (debts_mono (a := 1000000000) (by decide) hmv) (m ++ (madeI y)).length; rw [List.take_of_length_le (Nat.le_refl _)] at this; rw [hvb]; exact this
    have hlv : (m ++ (madeI y)).length ≤ 1000 := by rw [List.length_append]; omega
    have hb8 : (balR m).length = 8 := by rw [← hq1]; exact hlb
    have hv8 : (balR (m ++ (madeI y))).length = 8 := by rw [hvb]; exact balI_length _
    have hp8 : (pairR m).length ≤ 1000 := by rw [← hq2]; omega
    have hr8 : (rndR m).length ≤ 1000 := by rw [← hq3]; omega
    refine wc_exit ?_
    refine pe_seq_exit ?_
    refine pe_loop_exit ?_
    refine pe_block_exit ?_
    refine pe_seq ?_
    refine wc_seq ?_
    refine wc_region ?_
    refine wl_ex (ex_move rfl) rfl rfl ?_
    refine wl_callS [.tmp 53] rfl ok_12 rfl (fun w hm => c_Made Ay cy y w (((sl_arg hy rfl)).at hm)  (by assumption)) rfl fun A6 c7 => ?_
    refine wl_ex (ex_assign rfl) rfl rfl ?_
    refine wl_nil ?_
    refine pe_seq ?_
    refine wc_seq ?_
    refine wc_region ?_
    refine wl_ex (ex_move rfl) rfl rfl ?_
    refine wl_callS2 [.tmp 56] rfl ok_14 rfl (fun w hm => c_BalancesN A1 c2 (madeI x) w (((sl_own (.tail (.tail (.head _ _))))).at hm)  (by first | omega | assumption)) rfl fun A8 c9 => ?_
    refine wl_ex (ex_move rfl) rfl rfl ?_
    refine wl_ex (ex_extract rfl rfl) rfl rfl ?_
    refine wl_ex (ex_extract rfl rfl) rfl rfl ?_
    refine wl_ex (ex_assign rfl) rfl rfl ?_
    refine wl_ex (ex_assign rfl) rfl rfl ?_
    refine wl_nil ?_
    refine pe_seq ?_
    refine wc_seq ?_
    refine wc_region ?_
    refine wl_ex (ex_move rfl) rfl rfl ?_
    refine wl_callS2 [.tmp 61] rfl ok_14 rfl (fun w hm => c_BalancesN AM cM m w (((sl_own (.tail (.tail (.head _ _))))).at hm)  (by first | omega | assumption)) rfl fun A10 c11 => ?_
    refine wl_ex (ex_move rfl) rfl rfl ?_
    refine wl_ex (ex_extract rfl rfl) rfl rfl ?_
    refine wl_ex (ex_extract rfl rfl) rfl rfl ?_
    refine wl_ex (ex_assign rfl) rfl rfl ?_
    refine wl_ex (ex_assign rfl) rfl rfl ?_
    refine wl_nil ?_
    refine pe_seq ?_
    refine wc_seq ?_
    refine wc_region ?_
    refine wl_ex (ex_move rfl) rfl rfl ?_
    refine wl_callS2 [.tmp 66] rfl ok_16 rfl (fun w hm => c_Pairs A1 c2 (madeI x) w (((sl_own (.tail (.tail (.tail (.tail (.head _ _))))))).at hm)  (by first | omega | assumption)) rfl fun A12 c13 => ?_
    refine wl_ex (ex_move rfl) rfl rfl ?_
    refine wl_ex (ex_extract rfl rfl) rfl rfl ?_
    refine wl_ex (ex_extract rfl rfl) rfl rfl ?_
    refine wl_ex (ex_assign rfl) rfl rfl ?_
    refine wl_ex (ex_assign rfl) rfl rfl ?_
    refine wl_nil ?_
    refine pe_seq ?_
    refine wc_seq ?_
    refine wc_region ?_
    refine wl_ex (ex_move rfl) rfl rfl ?_
    refine wl_callS2 [.tmp 71] rfl ok_16 rfl (fun w hm => c_Pairs AM cM m w (((sl_own (.tail (.tail (.tail (.tail (.head _ _))))))).at hm)  (by first | omega | assumption)) rfl fun A14 c15 => ?_
    refine wl_ex (ex_move rfl) rfl rfl ?_
    refine wl_ex (ex_extract rfl rfl) rfl rfl ?_
    refine wl_ex (ex_extract rfl rfl) rfl rfl ?_
    refine wl_ex (ex_assign rfl) rfl rfl ?_
    refine wl_ex (ex_assign rfl) rfl rfl ?_
    refine wl_nil ?_
    refine pe_seq ?_
    refine wc_seq ?_
    refine wc_region ?_
    refine wl_ex (ex_move rfl) rfl rfl ?_
    refine wl_callS2 [.tmp 76] rfl ok_20 rfl (fun w hm => c_Round A1 c2 (madeI x) w (((sl_own (.tail (.tail (.tail (.tail (.tail (.tail (.head _ _))))))))).at hm)  (by first | omega | assumption)) rfl fun A16 c17 => ?_
    refine wl_ex (ex_move rfl) rfl rfl ?_
    refine wl_ex (ex_extract rfl rfl) rfl rfl ?_
    refine wl_ex (ex_extract rfl rfl) rfl rfl ?_
    refine wl_ex (ex_assign rfl) rfl rfl ?_
    refine wl_ex (ex_assign rfl) rfl rfl ?_
    refine wl_nil ?_
    refine pe_seq ?_
    refine wc_seq ?_
    refine wc_region ?_
    refine wl_ex (ex_move rfl) rfl rfl ?_
    refine wl_callS2 [.tmp 81] rfl ok_20 rfl (fun w hm => c_Round AM cM m w (((sl_own (.tail (.tail (.tail (.tail (.tail (.tail (.head _ _))))))))).at hm)  (by first | omega | assumption)) rfl fun A18 c19 => ?_
    refine wl_ex (ex_move rfl) rfl rfl ?_
    refine wl_ex (ex_extract rfl rfl) rfl rfl ?_
    refine wl_ex (ex_extract rfl rfl) rfl rfl ?_
    refine wl_ex (ex_assign rfl) rfl rfl ?_
    refine wl_ex (ex_assign rfl) rfl rfl ?_
    refine wl_nil ?_
    refine pe_seq ?_
    refine wc_seq ?_
    refine wc_region ?_
    refine wl_ex (ex_move rfl) rfl rfl ?_
    refine wl_callS2 [.tmp 86] rfl ok_14 rfl (fun w hm => c_BalancesN A6 c7 (madeI y) w (((sl_own (.tail (.tail (.tail (.tail (.tail (.tail (.head _ _))))))))).at hm)  (by first | omega | assumption)) rfl fun A20 c21 => ?_
    refine wl_ex (ex_move rfl) rfl rfl ?_
    refine wl_ex (ex_extract rfl rfl) rfl rfl ?_
    refine wl_ex (ex_extract rfl rfl) rfl rfl ?_
    refine wl_ex (ex_assign rfl) rfl rfl ?_
    refine wl_ex (ex_assign rfl) rfl rfl ?_
    refine wl_nil ?_
    refine pe_seq ?_
    refine wc_seq ?_
    refine wc_region ?_
    refine wl_ex (ex_move rfl) rfl rfl ?_
    refine wl_ex (ex_move rfl) rfl rfl ?_
    refine wl_appendE encD_len encD_one rfl rfl Try.underlying24 sz_47 ze_47 rfl by_47 rfl (.tail (.tail (.tail (.tail (.tail (.tail (.tail (.tail (.head _ _))))))))) (sl_own (.tail (.tail (.tail (.tail (.tail (.tail (.tail (.head _ _))))))))) (by first | rfl | simp) (by first | rfl | simp) (by first | omega | (simp; omega)) (by first | omega | (simp; omega)) rfl fun A22 c23 => ?_
    refine wl_callS2 [.tmp 93] rfl ok_14 rfl (fun w hm => c_BalancesN A22 c23 (m ++ (madeI y)) w (((sl_own (.head _ _))).at hm)  (by first | omega | assumption)) rfl fun A24 c25 => ?_
    refine wl_ex (ex_move rfl) rfl rfl ?_
    refine wl_ex (ex_extract rfl rfl) rfl rfl ?_
    refine wl_ex (ex_extract rfl rfl) rfl rfl ?_
    refine wl_ex (ex_assign rfl) rfl rfl ?_
    refine wl_ex (ex_assign rfl) rfl rfl ?_
    refine wl_nil ?_
    refine pe_seq ?_
    refine wc_seq ?_
    refine wc_seq ?_
    refine wc_region ?_
    refine wl_ex (ex_move rfl) rfl rfl ?_
    refine wl_ex (ex_neq rfl rfl) rfl rfl ?_
    refine wl_ex (ex_move rfl) rfl rfl ?_
    refine wl_pass rfl rfl rfl (decide_eq_false hz1) ?_
    refine wl_ex (ex_move rfl) rfl rfl ?_
    refine wl_pass rfl rfl rfl (decide_eq_false hz1) ?_
    refine wl_ex (ex_neq rfl rfl) rfl rfl ?_
    refine wl_ex (ex_pickf rfl (decide_eq_false hz1) rfl) rfl rfl ?_
    refine wl_ex (ex_move rfl) rfl rfl ?_
    refine wl_pass rfl rfl rfl (decide_eq_false hzm) ?_
    refine wl_ex (ex_move rfl) rfl rfl ?_
    refine wl_pass rfl rfl rfl (decide_eq_false hzm) ?_
    refine wl_ex (ex_neq rfl rfl) rfl rfl ?_
    refine wl_ex (ex_pickf rfl (decide_eq_false hzm) rfl) rfl rfl ?_
    refine wl_ex (ex_move rfl) rfl rfl ?_
    refine wl_pass rfl rfl rfl (decide_eq_false hz1) ?_
    refine wl_ex (ex_move rfl) rfl rfl ?_
    refine wl_pass rfl rfl rfl (decide_eq_false hz1) ?_
    refine wl_ex (ex_neq rfl rfl) rfl rfl ?_
    refine wl_ex (ex_pickf rfl (decide_eq_false hz1) rfl) rfl rfl ?_
    refine wl_ex (ex_move rfl) rfl rfl ?_
    refine wl_pass rfl rfl rfl (decide_eq_false hzm) ?_
    refine wl_ex (ex_move rfl) rfl rfl ?_
    refine wl_pass rfl rfl rfl (decide_eq_false hzm) ?_
    refine wl_ex (ex_neq rfl rfl) rfl rfl ?_
    refine wl_ex (ex_pickf rfl (decide_eq_false hzm) rfl) rfl rfl ?_
    refine wl_ex (ex_move rfl) rfl rfl ?_
    refine wl_pass rfl rfl rfl (decide_eq_false hz1) ?_
    refine wl_ex (ex_move rfl) rfl rfl ?_
    refine wl_pass rfl rfl rfl (decide_eq_false hz1) ?_
    refine wl_ex (ex_neq rfl rfl) rfl rfl ?_
    refine wl_ex (ex_pickf rfl (decide_eq_false hz1) rfl) rfl rfl ?_
    refine wl_ex (ex_move rfl) rfl rfl ?_
    refine wl_pass rfl rfl rfl (decide_eq_false hzm) ?_
    refine wl_ex (ex_move rfl) rfl rfl ?_
    refine wl_pass rfl rfl rfl (decide_eq_false hzm) ?_
    refine wl_ex (ex_neq rfl rfl) rfl rfl ?_
    refine wl_ex (ex_pickf rfl (decide_eq_false hzm) rfl) rfl rfl ?_
    refine wl_ex (ex_move rfl) rfl rfl ?_
    refine wl_pass rfl rfl rfl (decide_eq_false hz2) ?_
    refine wl_ex (ex_move rfl) rfl rfl ?_
    refine wl_pass rfl rfl rfl (decide_eq_false hz2) ?_
    refine wl_ex (ex_neq rfl rfl) rfl rfl ?_
    refine wl_ex (ex_pickf rfl (decide_eq_false hz2) rfl) rfl rfl ?_
    refine wl_ex (ex_move rfl) rfl rfl ?_
    refine wl_pass rfl rfl rfl (decide_eq_false hzv) ?_
    refine wl_ex (ex_move rfl) rfl rfl ?_
    refine wl_pass rfl rfl rfl (decide_eq_false hzv) ?_
    refine wl_ex (ex_len Try.underlying25 rfl) rfl rfl ?_
    refine wl_pass rfl rfl rfl (decide_eq_false hzv) ?_
    refine wl_ex (ex_move rfl) rfl rfl ?_
    refine wl_pass rfl rfl rfl (decide_eq_false hzv) ?_
    refine wl_ex (ex_len Try.underlying25 rfl) rfl rfl ?_
    refine wl_pass rfl rfl rfl (decide_eq_false hzv) ?_
    refine wl_ex (ex_neq rfl rfl) rfl rfl ?_
    refine wl_ex (ex_pickf rfl (decide_eq_false hzv) rfl) rfl rfl ?_
    refine wl_ex (ex_move rfl) rfl rfl ?_
    refine wl_pass rfl rfl rfl (decide_eq_false hz3) ?_
    refine wl_ex (ex_move rfl) rfl rfl ?_
    refine wl_pass rfl rfl rfl (decide_eq_false hz3) ?_
    refine wl_ex (ex_len Try.underlying25 rfl) rfl rfl ?_
    refine wl_pass rfl rfl rfl (decide_eq_false hz3) ?_
    refine wl_ex (ex_move rfl) rfl rfl ?_
    refine wl_pass rfl rfl rfl (decide_eq_false hz3) ?_
    refine wl_ex (ex_len Try.underlying25 rfl) rfl rfl ?_
    refine wl_pass rfl rfl rfl (decide_eq_false hz3) ?_
    refine wl_ex (ex_neq rfl rfl) rfl rfl ?_
    refine wl_ex (ex_pickf rfl (decide_eq_false hz3) rfl) rfl rfl ?_
    refine wl_nil ?_
    refine pe_seq ?_
    refine wc_ite rfl (fun c140 => absurd c140 hzw) (fun c140 => ?_)
    refine wc_skip ?_
    refine pe_seq ?_
    refine wc_seq ?_
    refine wc_seq ?_
    refine wc_region ?_
    refine wl_ex (ex_assign rfl) rfl rfl ?_
    refine wl_nil ?_
    refine pe_seq ?_
    refine wc_block ?_
    refine wc_loop (σ := Int) (fun s => [(27, .int .i64 s), (11, .slice A8 ((balR (madeI x)).length) c9), (13, .slice A10 ((balR m).length) c11), (15, .slice A12 ((pairR (madeI x)).length) c13), (17, .slice A14 ((pairR m).length) c15), (19, .slice A16 ((rndR (madeI x)).length) c17), (21, .slice A18 ((rndR m).length) c19), (23, .slice A20 ((balR (madeI y)).length) c21), (25, .slice A24 ((balR (m ++ (madeI y))).length) c25)]) (fun s => [.own A24 ((balR (m ++ (madeI y))).length) c25 3 1 (encs encI (balR (m ++ (madeI y)))), .own A22 ((m ++ (madeI y)).length) c23 47 3 (encs encD (m ++ (madeI y))), .own A20 ((balR (madeI y)).length) c21 3 1 (encs encI (balR (madeI y))), .own A18 ((rndR m).length) c19 47 3 (encs encD (rndR m)), .own A16 ((rndR (madeI x)).length) c17 47 3 (encs encD (rndR (madeI x))), .own A14 ((pairR m).length) c15 47 3 (encs encD (pairR m)), .own A12 ((pairR (madeI x)).length) c13 47 3 (encs encD (pairR (madeI x))), .own A10 ((balR m).length) c11 3 1 (encs encI (balR m)), .own A8 ((balR (madeI x)).length) c9 3 1 (encs encI (balR (madeI x))), .own A6 ((madeI y).length) c7 47 3 (encs encD (madeI y)), .own A1 ((madeI x).length) c2 47 3 (encs encD (madeI x))]) (fun s => 0 ≤ s ∧ s ≤ ((balR (madeI x)).length : Int)) (fun s => (((balR (madeI x)).length : Int) - s).toNat) (0 : Int) (Sub.cons rfl rfl (Sub.cons rfl rfl (Sub.cons rfl rfl (Sub.cons rfl rfl (Sub.cons rfl rfl (Sub.cons rfl rfl (Sub.cons rfl rfl (Sub.cons rfl rfl (Sub.cons rfl rfl (Sub.nil _)))))))))) (.cons (.head _ _) rfl (.cons (.head _ _) rfl (.cons (.head _ _) rfl (.cons (.head _ _) rfl (.cons (.head _ _) rfl (.cons (.head _ _) rfl (.cons (.head _ _) rfl (.cons (.head _ _) rfl (.cons (.head _ _) rfl (.cons (.head _ _) rfl (.cons (.head _ _) rfl (.nil _)))))))))))) (by simp) ?_
    rintro n hG
    show WC _ _ _ [(27, .int .i64 n), (11, .slice A8 ((balR (madeI x)).length) c9), (13, .slice A10 ((balR m).length) c11), (15, .slice A12 ((pairR (madeI x)).length) c13), (17, .slice A14 ((pairR m).length) c15), (19, .slice A16 ((rndR (madeI x)).length) c17), (21, .slice A18 ((rndR m).length) c19), (23, .slice A20 ((balR (madeI y)).length) c21), (25, .slice A24 ((balR (m ++ (madeI y))).length) c25)] [.own A24 ((balR (m ++ (madeI y))).length) c25 3 1 (encs encI (balR (m ++ (madeI y)))), .own A22 ((m ++ (madeI y)).length) c23 47 3 (encs encD (m ++ (madeI y))), .own A20 ((balR (madeI y)).length) c21 3 1 (encs encI (balR (madeI y))), .own A18 ((rndR m).length) c19 47 3 (encs encD (rndR m)), .own A16 ((rndR (madeI x)).length) c17 47 3 (encs encD (rndR (madeI x))), .own A14 ((pairR m).length) c15 47 3 (encs encD (pairR m)), .own A12 ((pairR (madeI x)).length) c13 47 3 (encs encD (pairR (madeI x))), .own A10 ((balR m).length) c11 3 1 (encs encI (balR m)), .own A8 ((balR (madeI x)).length) c9 3 1 (encs encI (balR (madeI x))), .own A6 ((madeI y).length) c7 47 3 (encs encD (madeI y)), .own A1 ((madeI x).length) c2 47 3 (encs encD (madeI x))]
    replace hG : 0 ≤ n ∧ n ≤ ((balR (madeI x)).length : Int) := hG
    obtain ⟨h3, h4⟩ := hG
    refine wc_seq ?_
    refine wc_seq ?_
    refine wc_region ?_
    refine wl_ex (ex_move rfl) rfl rfl ?_
    refine wl_ex (ex_move rfl) rfl rfl ?_
    refine wl_ex (ex_len Try.underlying25 rfl) rfl rfl ?_
    refine wl_ex (ex_lss rfl rfl) rfl rfl ?_
    refine wl_nil ?_
    refine pe_seq ?_
    refine wc_ite rfl (fun c144 => ?_) (fun c144 => ?_)
    · refine wc_skip ?_
      refine pe_seq ?_
      refine wc_seq ?_
      refine wc_block ?_
      refine wc_seq ?_
      refine wc_draw [.own A24 ((balR (m ++ (madeI y))).length) c25 3 1 (encs encI (balR (m ++ (madeI y)))), .own A22 ((m ++ (madeI y)).length) c23 47 3 (encs encD (m ++ (madeI y))), .own A20 ((balR (madeI y)).length) c21 3 1 (encs encI (balR (madeI y))), .own A18 ((rndR m).length) c19 47 3 (encs encD (rndR m)), .own A16 ((rndR (madeI x)).length) c17 47 3 (encs encD (rndR (madeI x))), .own A14 ((pairR m).length) c15 47 3 (encs encD (pairR m)), .own A12 ((pairR (madeI x)).length) c13 47 3 (encs encD (pairR (madeI x))), .own A10 ((balR m).length) c11 3 1 (encs encI (balR m)), .own A8 ((balR (madeI x)).length) c9 3 1 (encs encI (balR (madeI x))), .own A6 ((madeI y).length) c7 47 3 (encs encD (madeI y)), .own A1 ((madeI x).length) c2 47 3 (encs encD (madeI x))] [(0, true), (1, true), (2, true), (3, true), (4, true), (5, true), (6, true), (7, true), (8, true), (9, true), (10, true), (11, true), (12, true), (13, true)] mixed (by kernel_rfl) (.cons (.head _ _) rfl (.cons (.head _ _) rfl (.cons (.head _ _) rfl (.cons (.head _ _) rfl (.cons (.head _ _) rfl (.cons (.head _ _) rfl (.cons (.head _ _) rfl (.cons (.head _ _) rfl (.cons (.head _ _) rfl (.cons (.head _ _) rfl (.cons (.head _ _) rfl (.nil _)))))))))))) ?_
      refine cn_ex rfl (ex_move rfl) rfl rfl ?_
      refine cn_ex rfl (ex_move rfl) rfl rfl ?_
      refine cn_ex rfl (ex_indexAddr rfl rfl Try.underlying25 sz_3 (sl_own (.tail (.tail (.tail (.tail (.tail (.tail (.tail (.tail (.head _ _)))))))))) (by omega) (by omega) (enc_pos encI_len (by omega))) rfl rfl ?_
      obtain ⟨d_balR_madeI_x__n, hd_balR_madeI_x__n⟩ := get_if (balR (madeI x)) n
      refine cn_ex rfl (ex_load rfl ag_3 (rd_int (sl_own (.tail (.tail (.tail (.tail (.tail (.tail (.tail (.tail (.head _ _)))))))))) (hd_balR_madeI_x__n (by omega) (by omega)))) rfl rfl ?_
      refine cn_ex rfl (ex_move rfl) rfl rfl ?_
      refine cn_ex rfl (ex_move rfl) rfl rfl ?_
      refine cn_ex rfl (ex_indexAddr rfl rfl Try.underlying25 sz_3 (sl_own (.tail (.tail (.head _ _)))) (by omega) (by omega) (enc_pos encI_len (by omega))) rfl rfl ?_
      obtain ⟨d_balR_madeI_y__n, hd_balR_madeI_y__n⟩ := get_if (balR (madeI y)) n
      refine cn_ex rfl (ex_load rfl ag_3 (rd_int (sl_own (.tail (.tail (.head _ _)))) (hd_balR_madeI_y__n (by omega) (by omega)))) rfl rfl ?_
      have hw1 := hwb _ (mem_at (hd_balR_madeI_x__n (by omega) (by omega)))
      have hw2 := hwy _ (mem_at (hd_balR_madeI_y__n (by omega) (by omega)))
      refine cn_ex rfl (ex_add rfl rfl (by omega) (by omega)) rfl rfl ?_
      refine cn_ex rfl (ex_move rfl) rfl rfl ?_
      refine cn_ex rfl (ex_move rfl) rfl rfl ?_
      refine cn_ex rfl (ex_indexAddr rfl rfl Try.underlying25 sz_3 (sl_own (.head _ _)) (by omega) (by omega) (enc_pos encI_len (by omega))) rfl rfl ?_
      obtain ⟨d_balR_m_madeI_y__n, hd_balR_m_madeI_y__n⟩ := get_if (balR (m ++ (madeI y))) n
      refine cn_ex rfl (ex_load rfl ag_3 (rd_int (sl_own (.head _ _)) (hd_balR_m_madeI_y__n (by omega) (by omega)))) rfl rfl ?_
      refine cn_ex rfl (ex_neq rfl rfl) rfl rfl ?_
      refine cn_nil ?_
      refine pe_seq ?_
      refine wc_ite rfl (fun c160 => ?_) (fun c160 => ?_)
      · exact absurd (app_at hsm (hd_balR_madeI_x__n (by omega) (by omega)) (hd_balR_madeI_y__n (by omega) (by omega)) (hd_balR_m_madeI_y__n (by omega) (by omega))) c160
      · refine wc_skip ?_
        refine pe_block _ ?_
        refine pe_seq ?_
        refine wc_region ?_
        refine wl_ex (ex_move rfl) rfl rfl ?_
        refine wl_ex (ex_add rfl rfl (by omega) (by omega)) rfl rfl ?_
        refine wl_ex (ex_assign rfl) rfl rfl ?_
        refine wl_nil ?_
        refine pe_again (n + 1) (Sub.cons rfl rfl (Sub.cons rfl rfl (Sub.cons rfl rfl (Sub.cons rfl rfl (Sub.cons rfl rfl (Sub.cons rfl rfl (Sub.cons rfl rfl (Sub.cons rfl rfl (Sub.cons rfl rfl (Sub.nil _)))))))))) (.cons (.head _ _) rfl (.cons (.head _ _) rfl (.cons (.head _ _) rfl (.cons (.head _ _) rfl (.cons (.head _ _) rfl (.cons (.head _ _) rfl (.cons (.head _ _) rfl (.cons (.head _ _) rfl (.cons (.head _ _) rfl (.cons (.head _ _) rfl (.cons (.head _ _) rfl (.nil _)))))))))))) ?_ ?_
        · show 0 ≤ (n + 1) ∧ (n + 1) ≤ ((balR (madeI x)).length : Int)
          refine ⟨?_, ?_⟩ <;> omega
        · first | omega | (simp only []; omega)
    · refine wc_exit ?_
      refine pe_seq_exit ?_
      refine pe_loop_exit ?_
      refine pe_block_exit ?_
      refine pe_seq ?_
      refine wc_seq ?_
      refine wc_region ?_
      refine wl_ex (ex_move rfl) rfl rfl ?_
      refine wl_ex (ex_move rfl) rfl rfl ?_
      refine wl_callV [.tmp 161, .tmp 162] rfl ok_24 rfl (fun w hm => c_Ints A8 c9 (balR (madeI x)) A10 c11 (balR m) w (((sl_own (.tail (.tail (.tail (.tail (.tail (.tail (.tail (.tail (.head _ _))))))))))).at hm) (((sl_own (.tail (.tail (.tail (.tail (.tail (.tail (.tail (.head _ _)))))))))).at hm)  (by first | omega | assumption | (simp; omega))) rfl ?_
      refine wl_ex (ex_move rfl) rfl rfl ?_
      refine wl_pass rfl rfl rfl (decide_eq_true hq1) ?_
      refine wl_ex (ex_move rfl) rfl rfl ?_
      refine wl_pass rfl rfl rfl (decide_eq_true hq1) ?_
      refine wl_ex (ex_move rfl) rfl rfl ?_
      refine wl_pass rfl rfl rfl (decide_eq_true hq1) ?_
      refine wl_callV [.tmp 165, .tmp 166] rfl ok_25 rfl (fun w hm => c_Same A12 c13 (pairR (madeI x)) A14 c15 (pairR m) w (((sl_own (.tail (.tail (.tail (.tail (.tail (.tail (.head _ _))))))))).at hm) (((sl_own (.tail (.tail (.tail (.tail (.tail (.head _ _)))))))).at hm)  (by first | omega | assumption | (simp; omega))) rfl ?_
      refine wl_ex (ex_pickt rfl (decide_eq_true hq1) rfl) rfl rfl ?_
      refine wl_ex (ex_move rfl) rfl rfl ?_
      refine wl_pass rfl rfl rfl (decide_eq_true hq2) ?_
      refine wl_ex (ex_move rfl) rfl rfl ?_
      refine wl_pass rfl rfl rfl (decide_eq_true hq2) ?_
      refine wl_ex (ex_move rfl) rfl rfl ?_
      refine wl_pass rfl rfl rfl (decide_eq_true hq2) ?_
      refine wl_callV [.tmp 170, .tmp 171] rfl ok_25 rfl (fun w hm => c_Same A16 c17 (rndR (madeI x)) A18 c19 (rndR m) w (((sl_own (.tail (.tail (.tail (.tail (.head _ _))))))).at hm) (((sl_own (.tail (.tail (.tail (.head _ _)))))).at hm)  (by first | omega | assumption | (simp; omega))) rfl ?_
      refine wl_ex (ex_pickt rfl (decide_eq_true hq2) rfl) rfl rfl ?_
      refine wl_ex (ex_assign rfl) rfl rfl ?_
      refine wl_nil ?_
      refine pe_seq ?_
      refine wc_ret ?_
      refine pe_ret1 rfl rfl rfl (fun w' hm => ⟨?_, hm.ent (.nil _)⟩)
      exact congrArg Value.bool (decide_eq_true hq3)

end Go.Proofs.Ytolfgdkdghhidaa
