/- Walks. -/
import Derived.Test.YtolfgdkdghhidaaWt
set_option linter.unusedVariables false
set_option linter.unusedSimpArgs false
namespace Go.Proofs.Ytolfgdkdghhidaa
open Go Go.RowKit

theorem ok_11 : callOK Try.prog 11 = true := by kernel_rfl
theorem ok_12 : callOK Try.prog 12 = true := by kernel_rfl
theorem ok_33 : callOK Try.prog 33 = true := by kernel_rfl

theorem c_Conserves (Ax : Option Addr) (cx : Nat) (x : List Tri) (w : World) (hx : Sl w Ax (encs encT x)) (hxk : ∀ t ∈ x, t.ok) :
    Cl Try.prog 4 [.slice Ax x.length cx] w (IsV (.bool true) w) := by
  refine cl_of Try.func4 rfl Try.ntmps4 rfl (Mem.refl w) ?_
  have hmd := made_debts x
  have hml := made_len x
  have hb : balR (madeI x) = balI (madeI x) := if_pos hmd
  have hp : pairR (madeI x) = pairsI (madeI x) := if_pos hmd
  have hr : rndR (madeI x) = roundI (madeI x) := if_pos hmd
  have he : errN (madeI x) = 0 := if_pos hmd
  have hz1 : ¬ (errN (madeI x) ≠ 0) := fun h => h he
  have hz2 : ¬ (((balR (madeI x)).length : Int) ≠ 8) := by rw [hb, balI_length]; simp
  have hzp : (balI (pairR (madeI x))) = (balR (madeI x)) := by rw [hp, hb, pairs_bal hmd]
  have hz3 : (balI (rndR (madeI x))) = (balR (madeI x)) := by rw [hr, hb, round_bal hmd]
  have hnn := (round_norm 64 (norm_book hmd)).1
  have hkp : ∀ d ∈ pairR (madeI x), okD 1000000000000 d := by rw [hp]; exact fun d hd => by have := list_okD (norm_book hmd) d hd; unfold okD at *; omega
  have hkr : ∀ d ∈ rndR (madeI x), okD 1000000000000 d := by rw [hr]; exact fun d hd => by have := list_okD hnn d hd; unfold okD at *; omega
  have hlp : (pairR (madeI x)).length ≤ 100 := by rw [hp]; have := pairsI_length (madeI x); omega
  have hlr : (rndR (madeI x)).length ≤ 100 := by rw [hr]; have := list_le (roundS 64 (bookOf (madeI x))); exact Nat.le_trans this (by omega)
  have hx1 : (balI (pairR (madeI x))).length ≤ 1000 := by rw [balI_length]; omega
  have hx2 : (balI (rndR (madeI x))).length ≤ 1000 := by rw [balI_length]; omega
  have hlb : (balR (madeI x)).length = 8 := by rw [hb]; exact balI_length _
  have hsum : (balR (madeI x)).sum = 0 := by rw [hb]; exact bal_sum _ hmd.1
  have hwb : Within 120000000000000 (balR (madeI x)) := by have := balI_bound (debts_mono (a := 1000000000) (by decide) hmd) (madeI x).length; rw [List.take_of_length_le (Nat.le_refl _)] at this; rw [hb]; exact this
  refine wc_seq ?_
  refine wc_region ?_
  refine wl_ex (ex_assign rfl) rfl rfl ?_
  refine wl_nil ?_
  refine pe_seq ?_
  refine wc_seq ?_
  refine wc_seq ?_
  refine wc_region ?_
  refine wl_callV [] rfl ok_11 rfl (fun w hm => c_sane  w   ) rfl ?_
  refine wl_ex (ex_notb rfl) rfl rfl ?_
  refine wl_nil ?_
  refine pe_seq ?_
  refine wc_iff rfl ?_
  refine wc_skip ?_
  refine pe_seq ?_
  refine wc_seq ?_
  refine wc_region ?_
  refine wl_ex (ex_move rfl) rfl rfl ?_
  refine wl_callS [.tmp 14] rfl ok_12 rfl (fun w hm => c_Made Ax cx x w (((sl_arg hx rfl)).at hm)  (by assumption)) rfl fun A1 c2 => ?_
  refine wl_ex (ex_assign rfl) rfl rfl ?_
  refine wl_nil ?_
  refine pe_seq ?_
  refine wc_seq ?_
  refine wc_region ?_
  refine wl_ex (ex_move rfl) rfl rfl ?_
  refine wl_callS2 [.tmp 17] rfl ok_14 rfl (fun w hm => c_BalancesN A1 c2 (madeI x) w (((sl_own (.head _ _))).at hm)  (by first | omega | assumption)) rfl fun A3 c4 => ?_
  refine wl_ex (ex_move rfl) rfl rfl ?_
  refine wl_ex (ex_extract rfl rfl) rfl rfl ?_
  refine wl_ex (ex_extract rfl rfl) rfl rfl ?_
  refine wl_ex (ex_assign rfl) rfl rfl ?_
  refine wl_ex (ex_assign rfl) rfl rfl ?_
  refine wl_nil ?_
  refine pe_seq ?_
  refine wc_seq ?_
  refine wc_region ?_
  refine wl_ex (ex_move rfl) rfl rfl ?_
  refine wl_callS2 [.tmp 22] rfl ok_16 rfl (fun w hm => c_Pairs A1 c2 (madeI x) w (((sl_own (.tail (.head _ _)))).at hm)  (by first | omega | assumption)) rfl fun A5 c6 => ?_
  refine wl_ex (ex_move rfl) rfl rfl ?_
  refine wl_ex (ex_extract rfl rfl) rfl rfl ?_
  refine wl_ex (ex_extract rfl rfl) rfl rfl ?_
  refine wl_ex (ex_assign rfl) rfl rfl ?_
  refine wl_ex (ex_assign rfl) rfl rfl ?_
  refine wl_nil ?_
  refine pe_seq ?_
  refine wc_seq ?_
  refine wc_region ?_
  refine wl_ex (ex_move rfl) rfl rfl ?_
  refine wl_callS2 [.tmp 27] rfl ok_20 rfl (fun w hm => c_Round A1 c2 (madeI x) w (((sl_own (.tail (.tail (.head _ _))))).at hm)  (by first | omega | assumption)) rfl fun A7 c8 => ?_
  refine wl_ex (ex_move rfl) rfl rfl ?_
  refine wl_ex (ex_extract rfl rfl) rfl rfl ?_
  refine wl_ex (ex_extract rfl rfl) rfl rfl ?_
  refine wl_ex (ex_assign rfl) rfl rfl ?_
  refine wl_ex (ex_assign rfl) rfl rfl ?_
  refine wl_nil ?_
  refine pe_seq ?_
  refine wc_seq ?_
  refine wc_seq ?_
  refine wc_region ?_
  refine wl_ex (ex_move rfl) rfl rfl ?_
  refine wl_ex (ex_neq rfl rfl) rfl rfl ?_
  refine wl_ex (ex_move rfl) rfl rfl ?_
  refine wl_pass rfl rfl rfl (decide_eq_false hz1) ?_
  refine wl_ex (ex_move rfl) rfl rfl ?_
  refine wl_pass rfl rfl rfl (decide_eq_false hz1) ?_
  refine wl_ex (ex_neq rfl rfl) rfl rfl ?_
  refine wl_ex (ex_pickf rfl (decide_eq_false hz1) rfl) rfl rfl ?_
  refine wl_ex (ex_move rfl) rfl rfl ?_
  refine wl_pass rfl rfl rfl (decide_eq_false hz1) ?_
  refine wl_ex (ex_move rfl) rfl rfl ?_
  refine wl_pass rfl rfl rfl (decide_eq_false hz1) ?_
  refine wl_ex (ex_neq rfl rfl) rfl rfl ?_
  refine wl_ex (ex_pickf rfl (decide_eq_false hz1) rfl) rfl rfl ?_
  refine wl_ex (ex_move rfl) rfl rfl ?_
  refine wl_pass rfl rfl rfl (decide_eq_false hz1) ?_
  refine wl_ex (ex_move rfl) rfl rfl ?_
  refine wl_pass rfl rfl rfl (decide_eq_false hz1) ?_
  refine wl_ex (ex_len Try.underlying25 rfl) rfl rfl ?_
  refine wl_pass rfl rfl rfl (decide_eq_false hz1) ?_
  refine wl_ex (ex_neq rfl rfl) rfl rfl ?_
  refine wl_ex (ex_pickf rfl (decide_eq_false hz1) rfl) rfl rfl ?_
  refine wl_nil ?_
  refine pe_seq ?_
  refine wc_ite rfl (fun c45 => absurd c45 hz2) (fun c45 => ?_)
  refine wc_skip ?_
  refine pe_seq ?_
  refine wc_seq ?_
  refine wc_region ?_
  refine wl_ex (ex_assign rfl) rfl rfl ?_
  refine wl_nil ?_
  refine pe_seq ?_
  refine wc_seq ?_
  refine wc_seq ?_
  refine wc_region ?_
  refine wl_ex (ex_assign rfl) rfl rfl ?_
  refine wl_nil ?_
  refine pe_seq ?_
  refine wc_block ?_
  refine wc_loop (σ := Int × Int) (fun s => [(10, .int .i64 s.2), (11, .int .i64 s.1), (4, .slice A3 ((balR (madeI x)).length) c4), (6, .slice A5 ((pairR (madeI x)).length) c6), (8, .slice A7 ((rndR (madeI x)).length) c8)]) (fun s => [.own A7 ((rndR (madeI x)).length) c8 47 3 (encs encD (rndR (madeI x))), .own A5 ((pairR (madeI x)).length) c6 47 3 (encs encD (pairR (madeI x))), .own A3 ((balR (madeI x)).length) c4 3 1 (encs encI (balR (madeI x))), .own A1 ((madeI x).length) c2 47 3 (encs encD (madeI x))]) (fun s => 0 ≤ s.1 ∧ s.1 ≤ ((balR (madeI x)).length : Int) ∧ s.2 = ((balR (madeI x)).take s.1.toNat).sum) (fun s => (((balR (madeI x)).length : Int) - s.1).toNat) ((0 : Int), (0 : Int)) (Sub.cons rfl rfl (Sub.cons rfl rfl (Sub.cons rfl rfl (Sub.cons rfl rfl (Sub.cons rfl rfl (Sub.nil _)))))) (.cons (.head _ _) rfl (.cons (.head _ _) rfl (.cons (.head _ _) rfl (.cons (.head _ _) rfl (.nil _))))) (by simp) ?_
  rintro ⟨i, n⟩ hG
  show WC _ _ _ [(10, .int .i64 n), (11, .int .i64 i), (4, .slice A3 ((balR (madeI x)).length) c4), (6, .slice A5 ((pairR (madeI x)).length) c6), (8, .slice A7 ((rndR (madeI x)).length) c8)] [.own A7 ((rndR (madeI x)).length) c8 47 3 (encs encD (rndR (madeI x))), .own A5 ((pairR (madeI x)).length) c6 47 3 (encs encD (pairR (madeI x))), .own A3 ((balR (madeI x)).length) c4 3 1 (encs encI (balR (madeI x))), .own A1 ((madeI x).length) c2 47 3 (encs encD (madeI x))]
  replace hG : 0 ≤ i ∧ i ≤ ((balR (madeI x)).length : Int) ∧ n = ((balR (madeI x)).take i.toNat).sum := hG
  obtain ⟨h1, h2, h3⟩ := hG
  have hsb := sum_within (m := 120000000000000) (by omega) ((balR (madeI x)).take i.toNat) (fun y hy => hwb y (List.mem_of_mem_take hy))
  have htl : ((balR (madeI x)).take i.toNat).length ≤ 8 := by simp; omega
  refine wc_seq ?_
  refine wc_seq ?_
  refine wc_region ?_
  refine wl_ex (ex_move rfl) rfl rfl ?_
  refine wl_ex (ex_move rfl) rfl rfl ?_
  refine wl_ex (ex_len Try.underlying25 rfl) rfl rfl ?_
  refine wl_ex (ex_lss rfl rfl) rfl rfl ?_
  refine wl_nil ?_
  refine pe_seq ?_
  refine wc_ite rfl (fun c49 => ?_) (fun c49 => ?_)
  · refine wc_skip ?_
    refine pe_seq ?_
    refine wc_seq ?_
    refine wc_block ?_
    refine wc_region ?_
    refine wl_ex (ex_move rfl) rfl rfl ?_
    refine wl_ex (ex_move rfl) rfl rfl ?_
    refine wl_ex (ex_move rfl) rfl rfl ?_
    refine wl_ex (ex_indexAddr rfl rfl Try.underlying25 sz_3 (sl_own (.tail (.tail (.head _ _)))) (by omega) (by omega) (enc_pos encI_len (by omega))) rfl rfl ?_
    obtain ⟨d_balR_madeI_x__i, hd_balR_madeI_x__i⟩ := get_if (balR (madeI x)) i
    refine wl_ex (ex_load rfl ag_3 (rd_int (sl_own (.tail (.tail (.head _ _)))) (hd_balR_madeI_x__i (by omega) (by omega)))) rfl rfl ?_
    have hyb := hwb _ (mem_at (hd_balR_madeI_x__i (by omega) (by omega)))
    refine wl_ex (ex_add rfl rfl (by omega) (by omega)) rfl rfl ?_
    refine wl_ex (ex_assign rfl) rfl rfl ?_
    refine wl_nil ?_
    refine pe_block _ ?_
    refine pe_seq ?_
    refine wc_region ?_
    refine wl_ex (ex_move rfl) rfl rfl ?_
    refine wl_ex (ex_add rfl rfl (by omega) (by omega)) rfl rfl ?_
    refine wl_ex (ex_assign rfl) rfl rfl ?_
    refine wl_nil ?_
    refine pe_again ⟨i + 1, n + d_balR_madeI_x__i⟩ (Sub.cons rfl rfl (Sub.cons rfl rfl (Sub.cons rfl rfl (Sub.cons rfl rfl (Sub.cons rfl rfl (Sub.nil _)))))) (.cons (.head _ _) rfl (.cons (.head _ _) rfl (.cons (.head _ _) rfl (.cons (.head _ _) rfl (.nil _))))) ?_ ?_
    · show 0 ≤ (i + 1) ∧ (i + 1) ≤ ((balR (madeI x)).length : Int) ∧ (n + d_balR_madeI_x__i) = ((balR (madeI x)).take (i + 1).toNat).sum
      have hi : (i + 1).toNat = i.toNat + 1 := by omega
      refine ⟨by omega, by omega, ?_⟩
      rw [hi, sum_take (hd_balR_madeI_x__i (by omega) (by omega)), ← h3]
    · first | omega | (simp only []; omega)
  · have hn0 : n = 0 := by rw [h3, List.take_of_length_le (by omega), hsum]
    refine wc_exit ?_
    refine pe_seq_exit ?_
    refine pe_loop_exit ?_
    refine pe_block_exit ?_
    refine pe_seq ?_
    refine wc_seq ?_
    refine wc_region ?_
    refine wl_ex (ex_move rfl) rfl rfl ?_
    refine wl_ex (ex_eql rfl rfl) rfl rfl ?_
    refine wl_ex (ex_move rfl) rfl rfl ?_
    refine wl_pass rfl rfl rfl (decide_eq_true hn0) ?_
    refine wl_ex (ex_move rfl) rfl rfl ?_
    refine wl_pass rfl rfl rfl (decide_eq_true hn0) ?_
    refine wl_callS [.tmp 61] rfl ok_33 rfl (fun w hm => c_net A5 c6 (pairR (madeI x)) w (((sl_own (.tail (.head _ _)))).at hm)  (by first | assumption) (by first | assumption | omega)) rfl fun A9 c10 => ?_
    refine wl_pass rfl rfl rfl (decide_eq_true hn0) ?_
    refine wl_ex (ex_move rfl) rfl rfl ?_
    refine wl_pass rfl rfl rfl (decide_eq_true hn0) ?_
    refine wl_callV [.tmp 62, .tmp 63] rfl ok_24 rfl (fun w hm => c_Ints A9 c10 (balI (pairR (madeI x))) A3 c4 (balR (madeI x)) w (((sl_own (.head _ _))).at hm) (((sl_own (.tail (.tail (.tail (.head _ _)))))).at hm)  (by first | omega | assumption | (simp; omega))) rfl ?_
    refine wl_ex (ex_pickt rfl (decide_eq_true hn0) rfl) rfl rfl ?_
    refine wl_ex (ex_move rfl) rfl rfl ?_
    refine wl_pass rfl rfl rfl (decide_eq_true hzp) ?_
    refine wl_ex (ex_move rfl) rfl rfl ?_
    refine wl_pass rfl rfl rfl (decide_eq_true hzp) ?_
    refine wl_callS [.tmp 67] rfl ok_33 rfl (fun w hm => c_net A7 c8 (rndR (madeI x)) w (((sl_own (.tail (.head _ _)))).at hm)  (by first | assumption) (by first | assumption | omega)) rfl fun A11 c12 => ?_
    refine wl_pass rfl rfl rfl (decide_eq_true hzp) ?_
    refine wl_ex (ex_move rfl) rfl rfl ?_
    refine wl_pass rfl rfl rfl (decide_eq_true hzp) ?_
    refine wl_callV [.tmp 68, .tmp 69] rfl ok_24 rfl (fun w hm => c_Ints A11 c12 (balI (rndR (madeI x))) A3 c4 (balR (madeI x)) w (((sl_own (.head _ _))).at hm) (((sl_own (.tail (.tail (.tail (.tail (.head _ _))))))).at hm)  (by first | omega | assumption | (simp; omega))) rfl ?_
    refine wl_ex (ex_pickt rfl (decide_eq_true hzp) rfl) rfl rfl ?_
    refine wl_ex (ex_assign rfl) rfl rfl ?_
    refine wl_nil ?_
    refine pe_seq ?_
    refine wc_ret ?_
    refine pe_ret1 rfl rfl rfl (fun w' hm => ⟨?_, hm.ent (.nil _)⟩)
    exact congrArg Value.bool (decide_eq_true hz3)

end Go.Proofs.Ytolfgdkdghhidaa
