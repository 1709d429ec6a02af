/- Walks. -/
import Derived.Test.YtolfgdkdghhidaaWw
set_option linter.unusedVariables false
set_option linter.unusedSimpArgs false
namespace Go.Proofs.Ytolfgdkdghhidaa
open Go Go.RowKit
theorem gone_at {g : List Bool} (hl : g.length = 8) {i : Int} (h : 0 ≤ i ∧ i ≤ 7) : (g.map Value.bool)[i.toNat * 1]? = some (.bool (g.getD i.toNat false)) := by
  have hi : i.toNat < g.length := by omega
  rw [Nat.mul_one, List.getElem?_map, List.getD_eq_getElem?_getD, List.getElem?_eq_getElem hi]; rfl
theorem gone_set (g : List Bool) (i : Int) (b : Bool) : (g.map Value.bool).set (i.toNat * 1) (.bool b) = (g.set i.toNat b).map Value.bool := by
  rw [Nat.mul_one, List.map_set]
theorem pstep_of {r : List Debt} {g : List Bool} {c : Int} (h0 : 0 ≤ c) {b : Bool} (h : b = (g.getD c.toNat false || !decide (owP r g c))) : g.set c.toNat b = pstep r g c.toNat := by
  unfold pstep
  rw [h, Int.toNat_of_nonneg h0]
theorem ag_4 : isAggT Try.prog 4 = some false := by kernel_rfl
theorem sz_4 : szT Try.prog 4 = some 1 := by kernel_rfl
theorem ze_55 : zeT Try.prog 55 = some (.agg #[.bool false, .bool false, .bool false, .bool false, .bool false, .bool false, .bool false, .bool false]) := by kernel_rfl

theorem c_Around (Ax : Option Addr) (cx : Nat) (x : List Tri) (w : World) (hx : Sl w Ax (encs encT x)) (hxk : ∀ t ∈ x, t.ok) :
    Cl Try.prog 8 [.slice Ax x.length cx] w (IsV (.bool true) w) := by
  refine cl_of Try.func8 rfl Try.ntmps8 rfl (Mem.refl w) ?_
  have hmd := made_debts x
  have hml := made_len x
  have he : errN (madeI x) = 0 := if_pos hmd
  have hz1 : ¬ (errN (madeI x) ≠ 0) := fun h => h he
  have hnb := norm_book hmd
  have hnr := (round_norm 64 hnb).1
  have hcy := round_done 64 hnb (list_le _)
  have hp : pairR (madeI x) = listI (bookOf (madeI x)) := if_pos hmd
  have hr : rndR (madeI x) = listI (roundS 64 (bookOf (madeI x))) := if_pos hmd
  have hlp : (pairR (madeI x)).length ≤ 100 := by rw [hp]; exact Nat.le_trans (list_le _) (by omega)
  have hlr : (rndR (madeI x)).length ≤ 100 := by rw [hr]; exact Nat.le_trans (list_le _) (by omega)
  have hkp : ∀ d ∈ pairR (madeI x), okD 60000000000 d := by rw [hp]; exact list_okD hnb
  have hkr : ∀ d ∈ rndR (madeI x), okD 60000000000 d := by rw [hr]; exact list_okD hnr
  have hfnd : ∀ d ∈ rndR (madeI x), ∃ e ∈ pairR (madeI x), d.frm = e.frm ∧ d.to = e.to ∧ d.amt ≤ e.amt := by rw [hp, hr]; exact fun d hd => list_found (round_le 64 hnb) hd
  have hsrt : (rndR (madeI x)).Pairwise ltD := by rw [hr]; exact list_sorted _
  have hgone : ∀ c, c < 8 → (peelN (rndR (madeI x)) 8).getD c false = true := by rw [hr]; exact peel_all hnr hcy
  have hs1 := fun k => sumA_bd (m := 60000000000) (by omega) (l := madeI x) (fun d hd => by have := hmd.1 d hd; unfold okD at this; omega) (by omega) k
  have hs2 := fun k => sumA_bd (m := 60000000000) (by omega) (l := pairR (madeI x)) (fun d hd => by have := hkp d hd; unfold okD at this; omega) (by omega) k
  have hs3 := fun k => sumA_bd (m := 60000000000) (by omega) (l := rndR (madeI x)) (fun d hd => by have := hkr d hd; unfold okD at this; omega) (by omega) k
  have hle1 : sumA (pairR (madeI x)) ≤ sumA (madeI x) := by rw [hp]; exact book_sum hmd.1
  have hle0 : sumA (rndR (madeI x)) ≤ sumA (pairR (madeI x)) := by rw [hp, hr]; exact list_mono (round_le 64 hnb) (fun a b => (hnb.bd a b).1)
  refine wc_seq ?_
  refine wc_region ?_
  refine wl_ex (ex_assign rfl) rfl rfl ?_
  refine wl_nil ?_
  refine pe_seq ?_
  refine wc_seq ?_
  refine wc_seq ?_
  refine wc_region ?_
  refine wl_callV [] rfl ok_11 rfl (fun w hm => c_sane  w   ) rfl ?_
  refine wl_ex (ex_notb rfl) rfl rfl ?_
  refine wl_nil ?_
  refine pe_seq ?_
  refine wc_iff rfl ?_
  refine wc_skip ?_
  refine pe_seq ?_
  refine wc_seq ?_
  refine wc_region ?_
  refine wl_ex (ex_move rfl) rfl rfl ?_
  refine wl_callS [.tmp 24] rfl ok_12 rfl (fun w hm => c_Made Ax cx x w (((sl_arg hx rfl)).at hm)  (by assumption)) rfl fun A1 c2 => ?_
  refine wl_ex (ex_assign rfl) rfl rfl ?_
  refine wl_nil ?_
  refine pe_seq ?_
  refine wc_seq ?_
  refine wc_region ?_
  refine wl_ex (ex_move rfl) rfl rfl ?_
  refine wl_callS2 [.tmp 27] rfl ok_16 rfl (fun w hm => c_Pairs A1 c2 (madeI x) w (((sl_own (.head _ _))).at hm)  (by first | omega | assumption)) rfl fun A3 c4 => ?_
  refine wl_ex (ex_move rfl) rfl rfl ?_
  refine wl_ex (ex_extract rfl rfl) rfl rfl ?_
  refine wl_ex (ex_extract rfl rfl) rfl rfl ?_
  refine wl_ex (ex_assign rfl) rfl rfl ?_
  refine wl_ex (ex_assign rfl) rfl rfl ?_
  refine wl_nil ?_
  refine pe_seq ?_
  refine wc_seq ?_
  refine wc_region ?_
  refine wl_ex (ex_move rfl) rfl rfl ?_
  refine wl_callS2 [.tmp 32] rfl ok_20 rfl (fun w hm => c_Round A1 c2 (madeI x) w (((sl_own (.tail (.head _ _)))).at hm)  (by first | omega | assumption)) rfl fun A5 c6 => ?_
  refine wl_ex (ex_move rfl) rfl rfl ?_
  refine wl_ex (ex_extract rfl rfl) rfl rfl ?_
  refine wl_ex (ex_extract rfl rfl) rfl rfl ?_
  refine wl_ex (ex_assign rfl) rfl rfl ?_
  refine wl_ex (ex_assign rfl) rfl rfl ?_
  refine wl_nil ?_
  refine pe_seq ?_
  refine wc_seq ?_
  refine wc_seq ?_
  refine wc_region ?_
  refine wl_ex (ex_move rfl) rfl rfl ?_
  refine wl_ex (ex_neq rfl rfl) rfl rfl ?_
  refine wl_ex (ex_move rfl) rfl rfl ?_
  refine wl_pass rfl rfl rfl (decide_eq_false hz1) ?_
  refine wl_ex (ex_move rfl) rfl rfl ?_
  refine wl_pass rfl rfl rfl (decide_eq_false hz1) ?_
  refine wl_ex (ex_neq rfl rfl) rfl rfl ?_
  refine wl_ex (ex_pickf rfl (decide_eq_false hz1) rfl) rfl rfl ?_
  refine wl_nil ?_
  refine pe_seq ?_
  refine wc_ite rfl (fun c41 => absurd c41 hz1) (fun c41 => ?_)
  refine wc_skip ?_
  refine pe_seq ?_
  refine wc_seq ?_
  refine wc_region ?_
  refine wl_ex (ex_assign rfl) rfl rfl ?_
  refine wl_nil ?_
  refine pe_seq ?_
  refine wc_seq ?_
  refine wc_seq ?_
  refine wc_region ?_
  refine wl_ex (ex_assign rfl) rfl rfl ?_
  refine wl_nil ?_
  refine pe_seq ?_
  refine wc_block ?_
  refine wc_loop (σ := Int × Int) (fun s => [(8, .int .i64 s.2), (9, .int .i64 s.1), (3, .slice A1 ((madeI x).length) c2), (4, .slice A3 ((pairR (madeI x)).length) c4), (6, .slice A5 ((rndR (madeI x)).length) c6)]) (fun s => [.own A5 ((rndR (madeI x)).length) c6 47 3 (encs encD (rndR (madeI x))), .own A3 ((pairR (madeI x)).length) c4 47 3 (encs encD (pairR (madeI x))), .own A1 ((madeI x).length) c2 47 3 (encs encD (madeI x))]) (fun s => 0 ≤ s.1 ∧ s.1 ≤ ((madeI x).length : Int) ∧ s.2 = sumA ((madeI x).take s.1.toNat)) (fun s => (((madeI x).length : Int) - s.1).toNat) ((0 : Int), (0 : Int)) (Sub.cons rfl rfl (Sub.cons rfl rfl (Sub.cons rfl rfl (Sub.cons rfl rfl (Sub.cons rfl rfl (Sub.nil _)))))) (.cons (.head _ _) rfl (.cons (.head _ _) rfl (.cons (.head _ _) rfl (.nil _)))) (by simp [sumA]) ?_
  rintro ⟨i1, n1⟩ hG
  show WC _ _ _ [(8, .int .i64 n1), (9, .int .i64 i1), (3, .slice A1 ((madeI x).length) c2), (4, .slice A3 ((pairR (madeI x)).length) c4), (6, .slice A5 ((rndR (madeI x)).length) c6)] [.own A5 ((rndR (madeI x)).length) c6 47 3 (encs encD (rndR (madeI x))), .own A3 ((pairR (madeI x)).length) c4 47 3 (encs encD (pairR (madeI x))), .own A1 ((madeI x).length) c2 47 3 (encs encD (madeI x))]
  replace hG : 0 ≤ i1 ∧ i1 ≤ ((madeI x).length : Int) ∧ n1 = sumA ((madeI x).take i1.toNat) := hG
  obtain ⟨a1, a2, a3⟩ := hG
  have hb1 := hs1 i1.toNat
  refine wc_seq ?_
  refine wc_seq ?_
  refine wc_region ?_
  refine wl_ex (ex_move rfl) rfl rfl ?_
  refine wl_ex (ex_move rfl) rfl rfl ?_
  refine wl_ex (ex_len Try.underlying24 rfl) rfl rfl ?_
  refine wl_ex (ex_lss rfl rfl) rfl rfl ?_
  refine wl_nil ?_
  refine pe_seq ?_
  refine wc_ite rfl (fun c45 => ?_) (fun c45 => ?_)
  · refine wc_skip ?_
    refine pe_seq ?_
    refine wc_seq ?_
    refine wc_block ?_
    refine wc_region ?_
    refine wl_ex (ex_move rfl) rfl rfl ?_
    refine wl_ex (ex_move rfl) rfl rfl ?_
    refine wl_ex (ex_move rfl) rfl rfl ?_
    refine wl_ex (ex_indexAddr rfl rfl Try.underlying24 sz_47 (sl_own (.tail (.tail (.head _ _)))) (by omega) (by omega) (enc_pos encD_len (by omega))) rfl rfl ?_
    refine wl_ex (ex_fieldAddr (off' := oOf A1 + (i1).toNat * 3 + 2) rfl Try.underlying47 rfl sz_3 rfl rfl) rfl rfl ?_
    obtain ⟨d_madeI_x_i1, hd_madeI_x_i1⟩ := get_if (madeI x) i1
    refine wl_ex (ex_load rfl ag_3 (rd_enc (j := 2) encD_len (sl_own (.tail (.tail (.head _ _)))) (hd_madeI_x_i1 (by omega) (by omega)) rfl)) rfl rfl ?_
    have hd1 := hmd.1 _ (mem_at (hd_madeI_x_i1 (by omega) (by omega)))
    unfold okD at hd1
    refine wl_ex (ex_add rfl rfl (by omega) (by omega)) rfl rfl ?_
    refine wl_ex (ex_assign rfl) rfl rfl ?_
    refine wl_nil ?_
    refine pe_block _ ?_
    refine pe_seq ?_
    refine wc_region ?_
    refine wl_ex (ex_move rfl) rfl rfl ?_
    refine wl_ex (ex_add rfl rfl (by omega) (by omega)) rfl rfl ?_
    refine wl_ex (ex_assign rfl) rfl rfl ?_
    refine wl_nil ?_
    refine pe_again ⟨i1 + 1, n1 + d_madeI_x_i1.amt⟩ (Sub.cons rfl rfl (Sub.cons rfl rfl (Sub.cons rfl rfl (Sub.cons rfl rfl (Sub.cons rfl rfl (Sub.nil _)))))) (.cons (.head _ _) rfl (.cons (.head _ _) rfl (.cons (.head _ _) rfl (.nil _)))) ?_ ?_
    · show 0 ≤ (i1 + 1) ∧ (i1 + 1) ≤ ((madeI x).length : Int) ∧ (n1 + d_madeI_x_i1.amt) = sumA ((madeI x).take (i1 + 1).toNat)
      have hi : (i1 + 1).toNat = i1.toNat + 1 := by omega
      refine ⟨by omega, by omega, ?_⟩
      rw [hi, sumA_take (hd_madeI_x_i1 (by omega) (by omega)), ← a3]
    · first | omega | (simp only []; omega)
  · have hn1 : n1 = sumA (madeI x) := by rw [a3, List.take_of_length_le (by omega)]
    refine wc_exit ?_
    refine pe_seq_exit ?_
    refine pe_loop_exit ?_
    refine pe_block_exit ?_
    refine pe_seq ?_
    refine wc_seq ?_
    refine wc_region ?_
    refine wl_ex (ex_assign rfl) rfl rfl ?_
    refine wl_nil ?_
    refine pe_seq ?_
    refine wc_seq ?_
    refine wc_seq ?_
    refine wc_region ?_
    refine wl_ex (ex_assign rfl) rfl rfl ?_
    refine wl_nil ?_
    refine pe_seq ?_
    refine wc_block ?_
    refine wc_loop (σ := Int × Int) (fun s => [(10, .int .i64 s.2), (11, .int .i64 s.1), (4, .slice A3 ((pairR (madeI x)).length) c4), (6, .slice A5 ((rndR (madeI x)).length) c6), (8, .int .i64 n1)]) (fun s => [.own A5 ((rndR (madeI x)).length) c6 47 3 (encs encD (rndR (madeI x))), .own A3 ((pairR (madeI x)).length) c4 47 3 (encs encD (pairR (madeI x))), .own A1 ((madeI x).length) c2 47 3 (encs encD (madeI x))]) (fun s => 0 ≤ s.1 ∧ s.1 ≤ ((pairR (madeI x)).length : Int) ∧ s.2 = sumA ((pairR (madeI x)).take s.1.toNat)) (fun s => (((pairR (madeI x)).length : Int) - s.1).toNat) ((0 : Int), (0 : Int)) (Sub.cons rfl rfl (Sub.cons rfl rfl (Sub.cons rfl rfl (Sub.cons rfl rfl (Sub.cons rfl rfl (Sub.nil _)))))) (.cons (.head _ _) rfl (.cons (.head _ _) rfl (.cons (.head _ _) rfl (.nil _)))) (by simp [sumA]) ?_
    rintro ⟨i2, n2⟩ hG
    show WC _ _ _ [(10, .int .i64 n2), (11, .int .i64 i2), (4, .slice A3 ((pairR (madeI x)).length) c4), (6, .slice A5 ((rndR (madeI x)).length) c6), (8, .int .i64 n1)] [.own A5 ((rndR (madeI x)).length) c6 47 3 (encs encD (rndR (madeI x))), .own A3 ((pairR (madeI x)).length) c4 47 3 (encs encD (pairR (madeI x))), .own A1 ((madeI x).length) c2 47 3 (encs encD (madeI x))]
    replace hG : 0 ≤ i2 ∧ i2 ≤ ((pairR (madeI x)).length : Int) ∧ n2 = sumA ((pairR (madeI x)).take i2.toNat) := hG
    obtain ⟨b1, b2, b3⟩ := hG
    have hb2 := hs2 i2.toNat
    refine wc_seq ?_
    refine wc_seq ?_
    refine wc_region ?_
    refine wl_ex (ex_move rfl) rfl rfl ?_
    refine wl_ex (ex_move rfl) rfl rfl ?_
    refine wl_ex (ex_len Try.underlying24 rfl) rfl rfl ?_
    refine wl_ex (ex_lss rfl rfl) rfl rfl ?_
    refine wl_nil ?_
    refine pe_seq ?_
    refine wc_ite rfl (fun c58 => ?_) (fun c58 => ?_)
    · refine wc_skip ?_
      refine pe_seq ?_
      refine wc_seq ?_
      refine wc_block ?_
      refine wc_region ?_
      refine wl_ex (ex_move rfl) rfl rfl ?_
      refine wl_ex (ex_move rfl) rfl rfl ?_
      refine wl_ex (ex_move rfl) rfl rfl ?_
      refine wl_ex (ex_indexAddr rfl rfl Try.underlying24 sz_47 (sl_own (.tail (.head _ _))) (by omega) (by omega) (enc_pos encD_len (by omega))) rfl rfl ?_
      refine wl_ex (ex_fieldAddr (off' := oOf A3 + (i2).toNat * 3 + 2) rfl Try.underlying47 rfl sz_3 rfl rfl) rfl rfl ?_
      obtain ⟨d_pairR_madeI_x__i2, hd_pairR_madeI_x__i2⟩ := get_if (pairR (madeI x)) i2
      refine wl_ex (ex_load rfl ag_3 (rd_enc (j := 2) encD_len (sl_own (.tail (.head _ _))) (hd_pairR_madeI_x__i2 (by omega) (by omega)) rfl)) rfl rfl ?_
      have hd2 := hkp _ (mem_at (hd_pairR_madeI_x__i2 (by omega) (by omega)))
      unfold okD at hd2
      refine wl_ex (ex_add rfl rfl (by omega) (by omega)) rfl rfl ?_
      refine wl_ex (ex_assign rfl) rfl rfl ?_
      refine wl_nil ?_
      refine pe_block _ ?_
      refine pe_seq ?_
      refine wc_region ?_
      refine wl_ex (ex_move rfl) rfl rfl ?_
      refine wl_ex (ex_add rfl rfl (by omega) (by omega)) rfl rfl ?_
      refine wl_ex (ex_assign rfl) rfl rfl ?_
      refine wl_nil ?_
      refine pe_again ⟨i2 + 1, n2 + d_pairR_madeI_x__i2.amt⟩ (Sub.cons rfl rfl (Sub.cons rfl rfl (Sub.cons rfl rfl (Sub.cons rfl rfl (Sub.cons rfl rfl (Sub.nil _)))))) (.cons (.head _ _) rfl (.cons (.head _ _) rfl (.cons (.head _ _) rfl (.nil _)))) ?_ ?_
      · show 0 ≤ (i2 + 1) ∧ (i2 + 1) ≤ ((pairR (madeI x)).length : Int) ∧ (n2 + d_pairR_madeI_x__i2.amt) = sumA ((pairR (madeI x)).take (i2 + 1).toNat)
        have hi : (i2 + 1).toNat = i2.toNat + 1 := by omega
        refine ⟨by omega, by omega, ?_⟩
        rw [hi, sumA_take (hd_pairR_madeI_x__i2 (by omega) (by omega)), ← b3]
      · first | omega | (simp only []; omega)
    · have hn2 : n2 = sumA (pairR (madeI x)) := by rw [b3, List.take_of_length_le (by omega)]
      have hle2 : n2 ≤ n1 := by omega
      refine wc_exit ?_
      refine pe_seq_exit ?_
      refine pe_loop_exit ?_
      refine pe_block_exit ?_
      refine pe_seq ?_
      refine wc_seq ?_
      refine wc_region ?_
      refine wl_ex (ex_assign rfl) rfl rfl ?_
      refine wl_nil ?_
      refine pe_seq ?_
      refine wc_seq ?_
      refine wc_seq ?_
      refine wc_region ?_
      refine wl_ex (ex_assign rfl) rfl rfl ?_
      refine wl_nil ?_
      refine pe_seq ?_
      refine wc_block ?_
      refine wc_loop (σ := Int × Int) (fun s => [(12, .int .i64 s.2), (13, .int .i64 s.1), (4, .slice A3 ((pairR (madeI x)).length) c4), (6, .slice A5 ((rndR (madeI x)).length) c6), (8, .int .i64 n1), (10, .int .i64 n2)]) (fun s => [.own A5 ((rndR (madeI x)).length) c6 47 3 (encs encD (rndR (madeI x))), .own A3 ((pairR (madeI x)).length) c4 47 3 (encs encD (pairR (madeI x))), .own A1 ((madeI x).length) c2 47 3 (encs encD (madeI x))]) (fun s => 0 ≤ s.1 ∧ s.1 ≤ ((rndR (madeI x)).length : Int) ∧ s.2 = sumA ((rndR (madeI x)).take s.1.toNat)) (fun s => (((rndR (madeI x)).length : Int) - s.1).toNat) ((0 : Int), (0 : Int)) (Sub.cons rfl rfl (Sub.cons rfl rfl (Sub.cons rfl rfl (Sub.cons rfl rfl (Sub.cons rfl rfl (Sub.cons rfl rfl (Sub.nil _))))))) (.cons (.head _ _) rfl (.cons (.head _ _) rfl (.cons (.head _ _) rfl (.nil _)))) (by simp [sumA]) ?_
      rintro ⟨i3, n3⟩ hG
      show WC _ _ _ [(12, .int .i64 n3), (13, .int .i64 i3), (4, .slice A3 ((pairR (madeI x)).length) c4), (6, .slice A5 ((rndR (madeI x)).length) c6), (8, .int .i64 n1), (10, .int .i64 n2)] [.own A5 ((rndR (madeI x)).length) c6 47 3 (encs encD (rndR (madeI x))), .own A3 ((pairR (madeI x)).length) c4 47 3 (encs encD (pairR (madeI x))), .own A1 ((madeI x).length) c2 47 3 (encs encD (madeI x))]
      replace hG : 0 ≤ i3 ∧ i3 ≤ ((rndR (madeI x)).length : Int) ∧ n3 = sumA ((rndR (madeI x)).take i3.toNat) := hG
      obtain ⟨e1, e2, e3⟩ := hG
      have hb3 := hs3 i3.toNat
      refine wc_seq ?_
      refine wc_seq ?_
      refine wc_region ?_
      refine wl_ex (ex_move rfl) rfl rfl ?_
      refine wl_ex (ex_move rfl) rfl rfl ?_
      refine wl_ex (ex_len Try.underlying24 rfl) rfl rfl ?_
      refine wl_ex (ex_lss rfl rfl) rfl rfl ?_
      refine wl_nil ?_
      refine pe_seq ?_
      refine wc_ite rfl (fun c71 => ?_) (fun c71 => ?_)
      · refine wc_skip ?_
        refine pe_seq ?_
        refine wc_seq ?_
        refine wc_block ?_
        refine wc_seq ?_
        refine wc_region ?_
        refine wl_ex (ex_move rfl) rfl rfl ?_
        refine wl_ex (ex_move rfl) rfl rfl ?_
        refine wl_ex (ex_move rfl) rfl rfl ?_
        refine wl_ex (ex_indexAddr rfl rfl Try.underlying24 sz_47 (sl_own (.head _ _)) (by omega) (by omega) (enc_pos encD_len (by omega))) rfl rfl ?_
        refine wl_ex (ex_fieldAddr (off' := oOf A5 + (i3).toNat * 3 + 2) rfl Try.underlying47 rfl sz_3 rfl rfl) rfl rfl ?_
        obtain ⟨d_rndR_madeI_x__i3, hd_rndR_madeI_x__i3⟩ := get_if (rndR (madeI x)) i3
        refine wl_ex (ex_load rfl ag_3 (rd_enc (j := 2) encD_len (sl_own (.head _ _)) (hd_rndR_madeI_x__i3 (by omega) (by omega)) rfl)) rfl rfl ?_
        have hd3 := hkr _ (mem_at (hd_rndR_madeI_x__i3 (by omega) (by omega)))
        unfold okD at hd3
        refine wl_ex (ex_add rfl rfl (by omega) (by omega)) rfl rfl ?_
        refine wl_ex (ex_assign rfl) rfl rfl ?_
        refine wl_nil ?_
        refine pe_seq ?_
        refine wc_seq ?_
        refine wc_region ?_
        refine wl_ex (ex_assign rfl) rfl rfl ?_
        refine wl_nil ?_
        refine pe_seq ?_
        refine wc_seq ?_
        refine wc_seq ?_
        refine wc_region ?_
        refine wl_ex (ex_assign rfl) rfl rfl ?_
        refine wl_nil ?_
        refine pe_seq ?_
        refine wc_block ?_
        refine wc_loop (σ := Int) (fun s => [(14, .bool (decide (∃ e ∈ (pairR (madeI x)).take s.toNat, d_rndR_madeI_x__i3.frm = e.frm ∧ d_rndR_madeI_x__i3.to = e.to ∧ d_rndR_madeI_x__i3.amt ≤ e.amt))), (15, .int .i64 s), (4, .slice A3 ((pairR (madeI x)).length) c4), (6, .slice A5 ((rndR (madeI x)).length) c6), (8, .int .i64 n1), (10, .int .i64 n2), (12, .int .i64 (n3 + d_rndR_madeI_x__i3.amt)), (13, .int .i64 i3)]) (fun s => [.own A5 ((rndR (madeI x)).length) c6 47 3 (encs encD (rndR (madeI x))), .own A3 ((pairR (madeI x)).length) c4 47 3 (encs encD (pairR (madeI x))), .own A1 ((madeI x).length) c2 47 3 (encs encD (madeI x))]) (fun s => 0 ≤ s ∧ s ≤ ((pairR (madeI x)).length : Int)) (fun s => (((pairR (madeI x)).length : Int) - s).toNat) (0 : Int) (Sub.cons rfl (congrArg Value.bool (Eq.symm (decide_eq_false (by simp)))) (Sub.cons rfl rfl (Sub.cons rfl rfl (Sub.cons rfl rfl (Sub.cons rfl rfl (Sub.cons rfl rfl (Sub.cons rfl rfl (Sub.cons rfl rfl (Sub.nil _))))))))) (.cons (.head _ _) rfl (.cons (.head _ _) rfl (.cons (.head _ _) rfl (.nil _)))) (by simp) ?_
        rintro k hG
        show WC _ _ _ [(14, .bool (decide (∃ e ∈ (pairR (madeI x)).take k.toNat, d_rndR_madeI_x__i3.frm = e.frm ∧ d_rndR_madeI_x__i3.to = e.to ∧ d_rndR_madeI_x__i3.amt ≤ e.amt))), (15, .int .i64 k), (4, .slice A3 ((pairR (madeI x)).length) c4), (6, .slice A5 ((rndR (madeI x)).length) c6), (8, .int .i64 n1), (10, .int .i64 n2), (12, .int .i64 (n3 + d_rndR_madeI_x__i3.amt)), (13, .int .i64 i3)] [.own A5 ((rndR (madeI x)).length) c6 47 3 (encs encD (rndR (madeI x))), .own A3 ((pairR (madeI x)).length) c4 47 3 (encs encD (pairR (madeI x))), .own A1 ((madeI x).length) c2 47 3 (encs encD (madeI x))]
        replace hG : 0 ≤ k ∧ k ≤ ((pairR (madeI x)).length : Int) := hG
        obtain ⟨f1, f2⟩ := hG
        refine wc_seq ?_
        refine wc_seq ?_
        refine wc_region ?_
        refine wl_ex (ex_move rfl) rfl rfl ?_
        refine wl_ex (ex_move rfl) rfl rfl ?_
        refine wl_ex (ex_len Try.underlying24 rfl) rfl rfl ?_
        refine wl_ex (ex_lss rfl rfl) rfl rfl ?_
        refine wl_nil ?_
        refine pe_seq ?_
        refine wc_ite rfl (fun c84 => ?_) (fun c84 => ?_)
        · refine wc_skip ?_
          refine pe_seq ?_
          refine wc_seq ?_
          refine wc_block ?_
          refine wc_draw [.own A5 ((rndR (madeI x)).length) c6 47 3 (encs encD (rndR (madeI x))), .own A3 ((pairR (madeI x)).length) c4 47 3 (encs encD (pairR (madeI x))), .own A1 ((madeI x).length) c2 47 3 (encs encD (madeI x))] [(0, true), (1, true), (2, true), (3, true), (4, true), (5, true), (6, true), (7, true), (8, true), (9, true), (10, true), (11, true), (12, true), (13, true), (14, true), (15, true), (16, true), (17, true), (18, true), (19, true), (20, true), (21, true), (22, true), (23, true), (24, true), (25, true), (26, true), (27, true), (28, true), (29, true), (30, true), (31, true), (32, true), (33, true), (34, true), (35, true), (36, true), (37, true), (38, true), (39, true), (40, true)] mixed (by kernel_rfl) (.cons (.head _ _) rfl (.cons (.head _ _) rfl (.cons (.head _ _) rfl (.nil _)))) ?_
          refine cn_ex rfl (ex_move rfl) rfl rfl ?_
          refine cn_ex rfl (ex_move rfl) rfl rfl ?_
          by_cases g7 : ∃ e ∈ (pairR (madeI x)).take k.toNat, d_rndR_madeI_x__i3.frm = e.frm ∧ d_rndR_madeI_x__i3.to = e.to ∧ d_rndR_madeI_x__i3.amt ≤ e.amt
          · refine cn_skip rfl rfl rfl rfl (fun h => of_decide_eq_false (Value.bool.inj h) g7) rfl ?_
            refine cn_skip rfl rfl rfl rfl (fun h => of_decide_eq_false (Value.bool.inj h) g7) rfl ?_
            refine cn_skip rfl rfl rfl rfl (fun h => of_decide_eq_false (Value.bool.inj h) g7) rfl ?_
            refine cn_skip rfl rfl rfl rfl (fun h => of_decide_eq_false (Value.bool.inj h) g7) rfl ?_
            refine cn_skip rfl rfl rfl rfl (fun h => of_decide_eq_false (Value.bool.inj h) g7) rfl ?_
            refine cn_skip rfl rfl rfl rfl (fun h => of_decide_eq_false (Value.bool.inj h) g7) rfl ?_
            refine cn_skip rfl rfl rfl rfl (fun h => of_decide_eq_false (Value.bool.inj h) g7) rfl ?_
            refine cn_skip rfl rfl rfl rfl (fun h => of_decide_eq_false (Value.bool.inj h) g7) rfl ?_
            refine cn_skip rfl rfl rfl rfl (fun h => of_decide_eq_false (Value.bool.inj h) g7) rfl ?_
            refine cn_skip rfl rfl rfl rfl (fun h => of_decide_eq_false (Value.bool.inj h) g7) rfl ?_
            refine cn_skip rfl rfl rfl rfl (fun h => of_decide_eq_false (Value.bool.inj h) g7) rfl ?_
            refine cn_skip rfl rfl rfl rfl (fun h => of_decide_eq_false (Value.bool.inj h) g7) rfl ?_
            refine cn_skip rfl rfl rfl rfl (by simp [undef]) rfl ?_
            refine cn_skip rfl rfl rfl rfl (by simp [undef]) rfl ?_
            refine cn_skip rfl rfl rfl rfl (by simp [undef]) rfl ?_
            refine cn_skip rfl rfl rfl rfl (by simp [undef]) rfl ?_
            refine cn_skip rfl rfl rfl rfl (by simp [undef]) rfl ?_
            refine cn_skip rfl rfl rfl rfl (by simp [undef]) rfl ?_
            refine cn_skip rfl rfl rfl rfl (by simp [undef]) rfl ?_
            refine cn_skip rfl rfl rfl rfl (by simp [undef]) rfl ?_
            refine cn_skip rfl rfl rfl rfl (by simp [undef]) rfl ?_
            refine cn_skip rfl rfl rfl rfl (by simp [undef]) rfl ?_
            refine cn_skip rfl rfl rfl rfl (by simp [undef]) rfl ?_
            refine cn_skip rfl rfl rfl rfl (fun h => of_decide_eq_false (Value.bool.inj h) g7) rfl ?_
            refine cn_skip rfl rfl rfl rfl (fun h => of_decide_eq_false (Value.bool.inj h) g7) rfl ?_
            refine cn_skip rfl rfl rfl rfl (by simp [undef]) rfl ?_
            refine cn_skip rfl rfl rfl rfl (by simp [undef]) rfl ?_
            refine cn_skip rfl rfl rfl rfl (by simp [undef]) rfl ?_
            refine cn_skip rfl rfl rfl rfl (by simp [undef]) rfl ?_
            refine cn_skip rfl rfl rfl rfl (by simp [undef]) rfl ?_
            refine cn_skip rfl rfl rfl rfl (by simp [undef]) rfl ?_
            refine cn_skip rfl rfl rfl rfl (by simp [undef]) rfl ?_
            refine cn_skip rfl rfl rfl rfl (by simp [undef]) rfl ?_
            refine cn_skip rfl rfl rfl rfl (by simp [undef]) rfl ?_
            refine cn_skip rfl rfl rfl rfl (by simp [undef]) rfl ?_
            refine cn_skip rfl rfl rfl rfl (by simp [undef]) rfl ?_
            refine cn_skip rfl rfl rfl rfl (fun h => of_decide_eq_false (Value.bool.inj h) g7) rfl ?_
            refine cn_ex rfl (ex_pickt rfl (decide_eq_true g7) rfl) rfl rfl ?_
            refine cn_ex rfl (ex_assign rfl) rfl rfl ?_
            refine cn_nil ?_
            refine pe_block _ ?_
            refine pe_seq ?_
            refine wc_region ?_
            refine wl_ex (ex_move rfl) rfl rfl ?_
            refine wl_ex (ex_add rfl rfl (by omega) (by omega)) rfl rfl ?_
            refine wl_ex (ex_assign rfl) rfl rfl ?_
            refine wl_nil ?_
            refine pe_again (k + 1) (Sub.cons rfl (congrArg Value.bool (Eq.symm (decide_eq_true (by rw [show (k + 1).toNat = k.toNat + 1 by omega]; exact ex_more g7)))) (Sub.cons rfl rfl (Sub.cons rfl rfl (Sub.cons rfl rfl (Sub.cons rfl rfl (Sub.cons rfl rfl (Sub.cons rfl rfl (Sub.cons rfl rfl (Sub.nil _))))))))) (.cons (.head _ _) rfl (.cons (.head _ _) rfl (.cons (.head _ _) rfl (.nil _)))) ?_ ?_
            · show 0 ≤ (k + 1) ∧ (k + 1) ≤ ((pairR (madeI x)).length : Int)
              refine ⟨?_, ?_⟩ <;> omega
            · first | omega | (simp only []; omega)
          · refine cn_exg rfl (ex_move rfl) rfl rfl rfl (decide_eq_false g7) rfl rfl ?_
            refine cn_exg rfl (ex_move rfl) rfl rfl rfl (decide_eq_false g7) rfl rfl ?_
            refine cn_exg rfl (ex_indexAddr rfl rfl Try.underlying24 sz_47 (sl_own (.head _ _)) (by omega) (by omega) (enc_pos encD_len (by omega))) rfl rfl rfl (decide_eq_false g7) rfl rfl ?_
            refine cn_exg rfl (ex_fieldAddr (off' := oOf A5 + (i3).toNat * 3 + 0) rfl Try.underlying47 rfl sz_3 rfl rfl) rfl rfl rfl (decide_eq_false g7) rfl rfl ?_
            refine cn_exg rfl (ex_load rfl ag_3 (rd_enc (j := 0) encD_len (sl_own (.head _ _)) (hd_rndR_madeI_x__i3 (by omega) (by omega)) rfl)) rfl rfl rfl (decide_eq_false g7) rfl rfl ?_
            refine cn_exg rfl (ex_move rfl) rfl rfl rfl (decide_eq_false g7) rfl rfl ?_
            refine cn_exg rfl (ex_move rfl) rfl rfl rfl (decide_eq_false g7) rfl rfl ?_
            refine cn_exg rfl (ex_indexAddr rfl rfl Try.underlying24 sz_47 (sl_own (.tail (.head _ _))) (by omega) (by omega) (enc_pos encD_len (by omega))) rfl rfl rfl (decide_eq_false g7) rfl rfl ?_
            refine cn_exg rfl (ex_fieldAddr (off' := oOf A3 + (k).toNat * 3 + 0) rfl Try.underlying47 rfl sz_3 rfl rfl) rfl rfl rfl (decide_eq_false g7) rfl rfl ?_
            obtain ⟨d_pairR_madeI_x__k, hd_pairR_madeI_x__k⟩ := get_if (pairR (madeI x)) k
            refine cn_exg rfl (ex_load rfl ag_3 (rd_enc (j := 0) encD_len (sl_own (.tail (.head _ _))) (hd_pairR_madeI_x__k (by omega) (by omega)) rfl)) rfl rfl rfl (decide_eq_false g7) rfl rfl ?_
            refine cn_exg rfl (ex_eql rfl rfl) rfl rfl rfl (decide_eq_false g7) rfl rfl ?_
            refine cn_exg rfl (ex_move rfl) rfl rfl rfl (decide_eq_false g7) rfl rfl ?_
            by_cases g8 : d_rndR_madeI_x__i3.frm = d_pairR_madeI_x__k.frm
            · refine cn_exg rfl (ex_move rfl) rfl rfl rfl (decide_eq_true g8) rfl rfl ?_
              refine cn_exg rfl (ex_move rfl) rfl rfl rfl (decide_eq_true g8) rfl rfl ?_
              refine cn_exg rfl (ex_indexAddr rfl rfl Try.underlying24 sz_47 (sl_own (.head _ _)) (by omega) (by omega) (enc_pos encD_len (by omega))) rfl rfl rfl (decide_eq_true g8) rfl rfl ?_
              refine cn_exg rfl (ex_fieldAddr (off' := oOf A5 + (i3).toNat * 3 + 1) rfl Try.underlying47 rfl sz_3 rfl rfl) rfl rfl rfl (decide_eq_true g8) rfl rfl ?_
              refine cn_exg rfl (ex_load rfl ag_3 (rd_enc (j := 1) encD_len (sl_own (.head _ _)) (hd_rndR_madeI_x__i3 (by omega) (by omega)) rfl)) rfl rfl rfl (decide_eq_true g8) rfl rfl ?_
              refine cn_exg rfl (ex_move rfl) rfl rfl rfl (decide_eq_true g8) rfl rfl ?_
              refine cn_exg rfl (ex_move rfl) rfl rfl rfl (decide_eq_true g8) rfl rfl ?_
              refine cn_exg rfl (ex_indexAddr rfl rfl Try.underlying24 sz_47 (sl_own (.tail (.head _ _))) (by omega) (by omega) (enc_pos encD_len (by omega))) rfl rfl rfl (decide_eq_true g8) rfl rfl ?_
              refine cn_exg rfl (ex_fieldAddr (off' := oOf A3 + (k).toNat * 3 + 1) rfl Try.underlying47 rfl sz_3 rfl rfl) rfl rfl rfl (decide_eq_true g8) rfl rfl ?_
              refine cn_exg rfl (ex_load rfl ag_3 (rd_enc (j := 1) encD_len (sl_own (.tail (.head _ _))) (hd_pairR_madeI_x__k (by omega) (by omega)) rfl)) rfl rfl rfl (decide_eq_true g8) rfl rfl ?_
              refine cn_exg rfl (ex_eql rfl rfl) rfl rfl rfl (decide_eq_true g8) rfl rfl ?_
              refine cn_exg rfl (ex_pickt rfl (decide_eq_true g8) rfl) rfl rfl rfl (decide_eq_false g7) rfl rfl ?_
              refine cn_exg rfl (ex_move rfl) rfl rfl rfl (decide_eq_false g7) rfl rfl ?_
              by_cases g9 : d_rndR_madeI_x__i3.to = d_pairR_madeI_x__k.to
              · refine cn_exg rfl (ex_move rfl) rfl rfl rfl (decide_eq_true g9) rfl rfl ?_
                refine cn_exg rfl (ex_move rfl) rfl rfl rfl (decide_eq_true g9) rfl rfl ?_
                refine cn_exg rfl (ex_indexAddr rfl rfl Try.underlying24 sz_47 (sl_own (.head _ _)) (by omega) (by omega) (enc_pos encD_len (by omega))) rfl rfl rfl (decide_eq_true g9) rfl rfl ?_
                refine cn_exg rfl (ex_fieldAddr (off' := oOf A5 + (i3).toNat * 3 + 2) rfl Try.underlying47 rfl sz_3 rfl rfl) rfl rfl rfl (decide_eq_true g9) rfl rfl ?_
                refine cn_exg rfl (ex_load rfl ag_3 (rd_enc (j := 2) encD_len (sl_own (.head _ _)) (hd_rndR_madeI_x__i3 (by omega) (by omega)) rfl)) rfl rfl rfl (decide_eq_true g9) rfl rfl ?_
                refine cn_exg rfl (ex_move rfl) rfl rfl rfl (decide_eq_true g9) rfl rfl ?_
                refine cn_exg rfl (ex_move rfl) rfl rfl rfl (decide_eq_true g9) rfl rfl ?_
                refine cn_exg rfl (ex_indexAddr rfl rfl Try.underlying24 sz_47 (sl_own (.tail (.head _ _))) (by omega) (by omega) (enc_pos encD_len (by omega))) rfl rfl rfl (decide_eq_true g9) rfl rfl ?_
                refine cn_exg rfl (ex_fieldAddr (off' := oOf A3 + (k).toNat * 3 + 2) rfl Try.underlying47 rfl sz_3 rfl rfl) rfl rfl rfl (decide_eq_true g9) rfl rfl ?_
                refine cn_exg rfl (ex_load rfl ag_3 (rd_enc (j := 2) encD_len (sl_own (.tail (.head _ _))) (hd_pairR_madeI_x__k (by omega) (by omega)) rfl)) rfl rfl rfl (decide_eq_true g9) rfl rfl ?_
                refine cn_exg rfl (ex_leq rfl rfl) rfl rfl rfl (decide_eq_true g9) rfl rfl ?_
                refine cn_exg rfl (ex_pickt rfl (decide_eq_true g9) rfl) rfl rfl rfl (decide_eq_false g7) rfl rfl ?_
                refine cn_ex rfl (ex_pickf rfl (decide_eq_false g7) rfl) rfl rfl ?_
                refine cn_ex rfl (ex_assign rfl) rfl rfl ?_
                refine cn_nil ?_
                refine pe_block _ ?_
                refine pe_seq ?_
                refine wc_region ?_
                refine wl_ex (ex_move rfl) rfl rfl ?_
                refine wl_ex (ex_add rfl rfl (by omega) (by omega)) rfl rfl ?_
                refine wl_ex (ex_assign rfl) rfl rfl ?_
                refine wl_nil ?_
                refine pe_again (k + 1) (Sub.cons rfl (congrArg Value.bool (by simp only [show (k + 1).toNat = k.toNat + 1 by omega, ex_take (hd_pairR_madeI_x__k (by omega) (by omega))]; grind)) (Sub.cons rfl rfl (Sub.cons rfl rfl (Sub.cons rfl rfl (Sub.cons rfl rfl (Sub.cons rfl rfl (Sub.cons rfl rfl (Sub.cons rfl rfl (Sub.nil _))))))))) (.cons (.head _ _) rfl (.cons (.head _ _) rfl (.cons (.head _ _) rfl (.nil _)))) ?_ ?_
                · show 0 ≤ (k + 1) ∧ (k + 1) ≤ ((pairR (madeI x)).length : Int)
                  refine ⟨?_, ?_⟩ <;> omega
                · first | omega | (simp only []; omega)
              · refine cn_skip rfl rfl rfl rfl (fun h => g9 (of_decide_eq_true (Value.bool.inj h))) rfl ?_
                refine cn_skip rfl rfl rfl rfl (fun h => g9 (of_decide_eq_true (Value.bool.inj h))) rfl ?_
                refine cn_skip rfl rfl rfl rfl (fun h => g9 (of_decide_eq_true (Value.bool.inj h))) rfl ?_
                refine cn_skip rfl rfl rfl rfl (fun h => g9 (of_decide_eq_true (Value.bool.inj h))) rfl ?_
                refine cn_skip rfl rfl rfl rfl (fun h => g9 (of_decide_eq_true (Value.bool.inj h))) rfl ?_
                refine cn_skip rfl rfl rfl rfl (fun h => g9 (of_decide_eq_true (Value.bool.inj h))) rfl ?_
                refine cn_skip rfl rfl rfl rfl (fun h => g9 (of_decide_eq_true (Value.bool.inj h))) rfl ?_
                refine cn_skip rfl rfl rfl rfl (fun h => g9 (of_decide_eq_true (Value.bool.inj h))) rfl ?_
                refine cn_skip rfl rfl rfl rfl (fun h => g9 (of_decide_eq_true (Value.bool.inj h))) rfl ?_
                refine cn_skip rfl rfl rfl rfl (fun h => g9 (of_decide_eq_true (Value.bool.inj h))) rfl ?_
                refine cn_skip rfl rfl rfl rfl (fun h => g9 (of_decide_eq_true (Value.bool.inj h))) rfl ?_
                refine cn_exg rfl (ex_pickf rfl (decide_eq_false g9) rfl) rfl rfl rfl (decide_eq_false g7) rfl rfl ?_
                refine cn_ex rfl (ex_pickf rfl (decide_eq_false g7) rfl) rfl rfl ?_
                refine cn_ex rfl (ex_assign rfl) rfl rfl ?_
                refine cn_nil ?_
                refine pe_block _ ?_
                refine pe_seq ?_
                refine wc_region ?_
                refine wl_ex (ex_move rfl) rfl rfl ?_
                refine wl_ex (ex_add rfl rfl (by omega) (by omega)) rfl rfl ?_
                refine wl_ex (ex_assign rfl) rfl rfl ?_
                refine wl_nil ?_
                refine pe_again (k + 1) (Sub.cons rfl (congrArg Value.bool (by simp only [show (k + 1).toNat = k.toNat + 1 by omega, ex_take (hd_pairR_madeI_x__k (by omega) (by omega))]; grind)) (Sub.cons rfl rfl (Sub.cons rfl rfl (Sub.cons rfl rfl (Sub.cons rfl rfl (Sub.cons rfl rfl (Sub.cons rfl rfl (Sub.cons rfl rfl (Sub.nil _))))))))) (.cons (.head _ _) rfl (.cons (.head _ _) rfl (.cons (.head _ _) rfl (.nil _)))) ?_ ?_
                · show 0 ≤ (k + 1) ∧ (k + 1) ≤ ((pairR (madeI x)).length : Int)
                  refine ⟨?_, ?_⟩ <;> omega
                · first | omega | (simp only []; omega)
            · refine cn_skip rfl rfl rfl rfl (fun h => g8 (of_decide_eq_true (Value.bool.inj h))) rfl ?_
              refine cn_skip rfl rfl rfl rfl (fun h => g8 (of_decide_eq_true (Value.bool.inj h))) rfl ?_
              refine cn_skip rfl rfl rfl rfl (fun h => g8 (of_decide_eq_true (Value.bool.inj h))) rfl ?_
              refine cn_skip rfl rfl rfl rfl (fun h => g8 (of_decide_eq_true (Value.bool.inj h))) rfl ?_
              refine cn_skip rfl rfl rfl rfl (fun h => g8 (of_decide_eq_true (Value.bool.inj h))) rfl ?_
              refine cn_skip rfl rfl rfl rfl (fun h => g8 (of_decide_eq_true (Value.bool.inj h))) rfl ?_
              refine cn_skip rfl rfl rfl rfl (fun h => g8 (of_decide_eq_true (Value.bool.inj h))) rfl ?_
              refine cn_skip rfl rfl rfl rfl (fun h => g8 (of_decide_eq_true (Value.bool.inj h))) rfl ?_
              refine cn_skip rfl rfl rfl rfl (fun h => g8 (of_decide_eq_true (Value.bool.inj h))) rfl ?_
              refine cn_skip rfl rfl rfl rfl (fun h => g8 (of_decide_eq_true (Value.bool.inj h))) rfl ?_
              refine cn_skip rfl rfl rfl rfl (fun h => g8 (of_decide_eq_true (Value.bool.inj h))) rfl ?_
              refine cn_exg rfl (ex_pickf rfl (decide_eq_false g8) rfl) rfl rfl rfl (decide_eq_false g7) rfl rfl ?_
              refine cn_exg rfl (ex_move rfl) rfl rfl rfl (decide_eq_false g7) rfl rfl ?_
              refine cn_skip rfl rfl rfl rfl (by simp) rfl ?_
              refine cn_skip rfl rfl rfl rfl (by simp) rfl ?_
              refine cn_skip rfl rfl rfl rfl (by simp) rfl ?_
              refine cn_skip rfl rfl rfl rfl (by simp) rfl ?_
              refine cn_skip rfl rfl rfl rfl (by simp) rfl ?_
              refine cn_skip rfl rfl rfl rfl (by simp) rfl ?_
              refine cn_skip rfl rfl rfl rfl (by simp) rfl ?_
              refine cn_skip rfl rfl rfl rfl (by simp) rfl ?_
              refine cn_skip rfl rfl rfl rfl (by simp) rfl ?_
              refine cn_skip rfl rfl rfl rfl (by simp) rfl ?_
              refine cn_skip rfl rfl rfl rfl (by simp) rfl ?_
              refine cn_exg rfl (ex_pickf rfl rfl rfl) rfl rfl rfl (decide_eq_false g7) rfl rfl ?_
              refine cn_ex rfl (ex_pickf rfl (decide_eq_false g7) rfl) rfl rfl ?_
              refine cn_ex rfl (ex_assign rfl) rfl rfl ?_
              refine cn_nil ?_
              refine pe_block _ ?_
              refine pe_seq ?_
              refine wc_region ?_
              refine wl_ex (ex_move rfl) rfl rfl ?_
              refine wl_ex (ex_add rfl rfl (by omega) (by omega)) rfl rfl ?_
              refine wl_ex (ex_assign rfl) rfl rfl ?_
              refine wl_nil ?_
              refine pe_again (k + 1) (Sub.cons rfl (congrArg Value.bool (by simp only [show (k + 1).toNat = k.toNat + 1 by omega, ex_take (hd_pairR_madeI_x__k (by omega) (by omega))]; grind)) (Sub.cons rfl rfl (Sub.cons rfl rfl (Sub.cons rfl rfl (Sub.cons rfl rfl (Sub.cons rfl rfl (Sub.cons rfl rfl (Sub.cons rfl rfl (Sub.nil _))))))))) (.cons (.head _ _) rfl (.cons (.head _ _) rfl (.cons (.head _ _) rfl (.nil _)))) ?_ ?_
              · show 0 ≤ (k + 1) ∧ (k + 1) ≤ ((pairR (madeI x)).length : Int)
                refine ⟨?_, ?_⟩ <;> omega
              · first | omega | (simp only []; omega)
        · have hfd : ∃ e ∈ (pairR (madeI x)).take k.toNat, d_rndR_madeI_x__i3.frm = e.frm ∧ d_rndR_madeI_x__i3.to = e.to ∧ d_rndR_madeI_x__i3.amt ≤ e.amt := by rw [List.take_of_length_le (by omega)]; obtain ⟨e, he, h⟩ := hfnd _ (mem_at (hd_rndR_madeI_x__i3 (by omega) (by omega))); exact ⟨e, he, h⟩
          rw [decide_eq_true hfd]
          refine wc_exit ?_
          refine pe_seq_exit ?_
          refine pe_loop_exit ?_
          refine pe_block_exit ?_
          refine pe_seq ?_
          obtain ⟨d_rndR_madeI_x__i3_1, hd_rndR_madeI_x__i3_1⟩ := get_if (rndR (madeI x)) (i3 - 1)
          refine wc_cut (σ := Unit) (fun _ => [(4, .slice A3 ((pairR (madeI x)).length) c4), (6, .slice A5 ((rndR (madeI x)).length) c6), (8, .int .i64 n1), (10, .int .i64 n2), (12, .int .i64 (n3 + d_rndR_madeI_x__i3.amt)), (13, .int .i64 i3), (182, .bool (decide (((false = true) ∨ (d_rndR_madeI_x__i3.amt < 1)) ∨ ((0 < i3) ∧ ((d_rndR_madeI_x__i3.frm < d_rndR_madeI_x__i3_1.frm) ∨ ((d_rndR_madeI_x__i3.frm = d_rndR_madeI_x__i3_1.frm) ∧ (d_rndR_madeI_x__i3.to ≤ d_rndR_madeI_x__i3_1.to)))))))]) (fun _ => [.own A5 ((rndR (madeI x)).length) c6 47 3 (encs encD (rndR (madeI x))), .own A3 ((pairR (madeI x)).length) c4 47 3 (encs encD (pairR (madeI x))), .own A1 ((madeI x).length) c2 47 3 (encs encD (madeI x))]) (fun _ => True) ?_ ?_
          · refine wc_draw [.own A5 ((rndR (madeI x)).length) c6 47 3 (encs encD (rndR (madeI x))), .own A3 ((pairR (madeI x)).length) c4 47 3 (encs encD (pairR (madeI x))), .own A1 ((madeI x).length) c2 47 3 (encs encD (madeI x))] [(0, true), (1, true), (2, true), (3, true), (4, true), (5, true), (6, true), (7, true), (8, true), (9, true), (10, true), (11, true), (12, true), (13, true), (14, true), (15, true), (16, true), (17, true), (18, true), (19, true), (20, true), (21, true), (22, true), (23, true), (24, true), (25, true), (26, true), (27, true), (28, true), (29, true), (30, true), (31, true), (32, true), (33, true), (34, true), (35, true), (36, true), (37, true), (38, true), (39, true), (40, true), (41, true), (42, true), (43, true), (44, true), (45, true), (46, true), (47, true), (48, true), (49, true), (50, true), (51, true), (52, true), (53, true), (54, true), (55, true)] mixed (by kernel_rfl) (.cons (.head _ _) rfl (.cons (.head _ _) rfl (.cons (.head _ _) rfl (.nil _)))) ?_
            refine cn_ex rfl (ex_move rfl) rfl rfl ?_
            refine cn_ex rfl (ex_notb rfl) rfl rfl ?_
            refine cn_ex rfl (ex_move rfl) rfl rfl ?_
            refine cn_exg rfl (ex_move rfl) rfl rfl rfl rfl rfl rfl ?_
            refine cn_exg rfl (ex_move rfl) rfl rfl rfl rfl rfl rfl ?_
            refine cn_exg rfl (ex_indexAddr rfl rfl Try.underlying24 sz_47 (sl_own (.head _ _)) (by omega) (by omega) (enc_pos encD_len (by omega))) rfl rfl rfl rfl rfl rfl ?_
            refine cn_exg rfl (ex_fieldAddr (off' := oOf A5 + (i3).toNat * 3 + 2) rfl Try.underlying47 rfl sz_3 rfl rfl) rfl rfl rfl rfl rfl rfl ?_
            refine cn_exg rfl (ex_load rfl ag_3 (rd_enc (j := 2) encD_len (sl_own (.head _ _)) (hd_rndR_madeI_x__i3 (by omega) (by omega)) rfl)) rfl rfl rfl rfl rfl rfl ?_
            refine cn_exg rfl (ex_lss rfl rfl) rfl rfl rfl rfl rfl rfl ?_
            refine cn_ex rfl (ex_pickf rfl rfl rfl) rfl rfl ?_
            refine cn_ex rfl (ex_move rfl) rfl rfl ?_
            by_cases g10 : d_rndR_madeI_x__i3.amt < 1
            · refine cn_skip rfl rfl rfl rfl (fun h => of_decide_eq_false (Value.bool.inj h) g10) rfl ?_
              refine cn_skip rfl rfl rfl rfl (fun h => of_decide_eq_false (Value.bool.inj h) g10) rfl ?_
              refine cn_skip rfl rfl rfl rfl (fun h => of_decide_eq_false (Value.bool.inj h) g10) rfl ?_
              refine cn_skip rfl rfl rfl rfl (by simp [undef]) rfl ?_
              refine cn_skip rfl rfl rfl rfl (by simp [undef]) rfl ?_
              refine cn_skip rfl rfl rfl rfl (by simp [undef]) rfl ?_
              refine cn_skip rfl rfl rfl rfl (by simp [undef]) rfl ?_
              refine cn_skip rfl rfl rfl rfl (by simp [undef]) rfl ?_
              refine cn_skip rfl rfl rfl rfl (by simp [undef]) rfl ?_
              refine cn_skip rfl rfl rfl rfl (by simp [undef]) rfl ?_
              refine cn_skip rfl rfl rfl rfl (by simp [undef]) rfl ?_
              refine cn_skip rfl rfl rfl rfl (by simp [undef]) rfl ?_
              refine cn_skip rfl rfl rfl rfl (by simp [undef]) rfl ?_
              refine cn_skip rfl rfl rfl rfl (by simp [undef]) rfl ?_
              refine cn_skip rfl rfl rfl rfl (by simp [undef]) rfl ?_
              refine cn_skip rfl rfl rfl rfl (by simp [undef]) rfl ?_
              refine cn_skip rfl rfl rfl rfl (by simp [undef]) rfl ?_
              refine cn_skip rfl rfl rfl rfl (by simp [undef]) rfl ?_
              refine cn_skip rfl rfl rfl rfl (by simp [undef]) rfl ?_
              refine cn_skip rfl rfl rfl rfl (by simp [undef]) rfl ?_
              refine cn_skip rfl rfl rfl rfl (by simp [undef]) rfl ?_
              refine cn_skip rfl rfl rfl rfl (by simp [undef]) rfl ?_
              refine cn_skip rfl rfl rfl rfl (by simp [undef]) rfl ?_
              refine cn_skip rfl rfl rfl rfl (by simp [undef]) rfl ?_
              refine cn_skip rfl rfl rfl rfl (by simp [undef]) rfl ?_
              refine cn_skip rfl rfl rfl rfl (by simp [undef]) rfl ?_
              refine cn_skip rfl rfl rfl rfl (by simp [undef]) rfl ?_
              refine cn_skip rfl rfl rfl rfl (by simp [undef]) rfl ?_
              refine cn_skip rfl rfl rfl rfl (by simp [undef]) rfl ?_
              refine cn_skip rfl rfl rfl rfl (by simp [undef]) rfl ?_
              refine cn_skip rfl rfl rfl rfl (by simp [undef]) rfl ?_
              refine cn_skip rfl rfl rfl rfl (by simp [undef]) rfl ?_
              refine cn_skip rfl rfl rfl rfl (by simp [undef]) rfl ?_
              refine cn_skip rfl rfl rfl rfl (by simp [undef]) rfl ?_
              refine cn_skip rfl rfl rfl rfl (by simp [undef]) rfl ?_
              refine cn_skip rfl rfl rfl rfl (by simp [undef]) rfl ?_
              refine cn_skip rfl rfl rfl rfl (by simp [undef]) rfl ?_
              refine cn_skip rfl rfl rfl rfl (by simp [undef]) rfl ?_
              refine cn_skip rfl rfl rfl rfl (by simp [undef]) rfl ?_
              refine cn_skip rfl rfl rfl rfl (by simp [undef]) rfl ?_
              refine cn_skip rfl rfl rfl rfl (by simp [undef]) rfl ?_
              refine cn_skip rfl rfl rfl rfl (by simp [undef]) rfl ?_
              refine cn_skip rfl rfl rfl rfl (by simp [undef]) rfl ?_
              refine cn_skip rfl rfl rfl rfl (fun h => of_decide_eq_false (Value.bool.inj h) g10) rfl ?_
              refine cn_ex rfl (ex_pickt rfl (decide_eq_true g10) rfl) rfl rfl ?_
              refine cn_nil ?_
              refine pe_cut () (Sub.cons rfl rfl (Sub.cons rfl rfl (Sub.cons rfl rfl (Sub.cons rfl rfl (Sub.cons rfl rfl (Sub.cons rfl rfl (Sub.cons rfl (congrArg Value.bool (by first | (simp [g10]; done) | grind)) (Sub.nil _)))))))) (.cons (.head _ _) rfl (.cons (.head _ _) rfl (.cons (.head _ _) rfl (.nil _)))) trivial
            · refine cn_exg rfl (ex_move rfl) rfl rfl rfl (decide_eq_false g10) rfl rfl ?_
              refine cn_exg rfl (ex_gtr rfl rfl) rfl rfl rfl (decide_eq_false g10) rfl rfl ?_
              refine cn_exg rfl (ex_move rfl) rfl rfl rfl (decide_eq_false g10) rfl rfl ?_
              by_cases g11 : 0 < i3
              · refine cn_exg rfl (ex_move rfl) rfl rfl rfl (decide_eq_true g11) rfl rfl ?_
                refine cn_exg rfl (ex_move rfl) rfl rfl rfl (decide_eq_true g11) rfl rfl ?_
                refine cn_exg rfl (ex_indexAddr rfl rfl Try.underlying24 sz_47 (sl_own (.head _ _)) (by omega) (by omega) (enc_pos encD_len (by omega))) rfl rfl rfl (decide_eq_true g11) rfl rfl ?_
                refine cn_exg rfl (ex_fieldAddr (off' := oOf A5 + (i3).toNat * 3 + 0) rfl Try.underlying47 rfl sz_3 rfl rfl) rfl rfl rfl (decide_eq_true g11) rfl rfl ?_
                refine cn_exg rfl (ex_load rfl ag_3 (rd_enc (j := 0) encD_len (sl_own (.head _ _)) (hd_rndR_madeI_x__i3 (by omega) (by omega)) rfl)) rfl rfl rfl (decide_eq_true g11) rfl rfl ?_
                refine cn_exg rfl (ex_move rfl) rfl rfl rfl (decide_eq_true g11) rfl rfl ?_
                refine cn_exg rfl (ex_move rfl) rfl rfl rfl (decide_eq_true g11) rfl rfl ?_
                refine cn_exg rfl (ex_sub rfl rfl (by omega) (by omega)) rfl rfl rfl (decide_eq_true g11) rfl rfl ?_
                refine cn_exg rfl (ex_indexAddr rfl rfl Try.underlying24 sz_47 (sl_own (.head _ _)) (by omega) (by omega) (enc_pos encD_len (by omega))) rfl rfl rfl (decide_eq_true g11) rfl rfl ?_
                refine cn_exg rfl (ex_fieldAddr (off' := oOf A5 + (i3 - 1).toNat * 3 + 0) rfl Try.underlying47 rfl sz_3 rfl rfl) rfl rfl rfl (decide_eq_true g11) rfl rfl ?_
                refine cn_exg rfl (ex_load rfl ag_3 (rd_enc (j := 0) encD_len (sl_own (.head _ _)) (hd_rndR_madeI_x__i3_1 (by omega) (by omega)) rfl)) rfl rfl rfl (decide_eq_true g11) rfl rfl ?_
                refine cn_exg rfl (ex_lss rfl rfl) rfl rfl rfl (decide_eq_true g11) rfl rfl ?_
                refine cn_exg rfl (ex_move rfl) rfl rfl rfl (decide_eq_true g11) rfl rfl ?_
                by_cases g12 : d_rndR_madeI_x__i3.frm < d_rndR_madeI_x__i3_1.frm
                · refine cn_skip rfl rfl rfl rfl (fun h => of_decide_eq_false (Value.bool.inj h) g12) rfl ?_
                  refine cn_skip rfl rfl rfl rfl (fun h => of_decide_eq_false (Value.bool.inj h) g12) rfl ?_
                  refine cn_skip rfl rfl rfl rfl (fun h => of_decide_eq_false (Value.bool.inj h) g12) rfl ?_
                  refine cn_skip rfl rfl rfl rfl (fun h => of_decide_eq_false (Value.bool.inj h) g12) rfl ?_
                  refine cn_skip rfl rfl rfl rfl (fun h => of_decide_eq_false (Value.bool.inj h) g12) rfl ?_
                  refine cn_skip rfl rfl rfl rfl (fun h => of_decide_eq_false (Value.bool.inj h) g12) rfl ?_
                  refine cn_skip rfl rfl rfl rfl (fun h => of_decide_eq_false (Value.bool.inj h) g12) rfl ?_
                  refine cn_skip rfl rfl rfl rfl (fun h => of_decide_eq_false (Value.bool.inj h) g12) rfl ?_
                  refine cn_skip rfl rfl rfl rfl (fun h => of_decide_eq_false (Value.bool.inj h) g12) rfl ?_
                  refine cn_skip rfl rfl rfl rfl (fun h => of_decide_eq_false (Value.bool.inj h) g12) rfl ?_
                  refine cn_skip rfl rfl rfl rfl (fun h => of_decide_eq_false (Value.bool.inj h) g12) rfl ?_
                  refine cn_skip rfl rfl rfl rfl (fun h => of_decide_eq_false (Value.bool.inj h) g12) rfl ?_
                  refine cn_skip rfl rfl rfl rfl (fun h => of_decide_eq_false (Value.bool.inj h) g12) rfl ?_
                  refine cn_skip rfl rfl rfl rfl (by simp [undef]) rfl ?_
                  refine cn_skip rfl rfl rfl rfl (by simp [undef]) rfl ?_
                  refine cn_skip rfl rfl rfl rfl (by simp [undef]) rfl ?_
                  refine cn_skip rfl rfl rfl rfl (by simp [undef]) rfl ?_
                  refine cn_skip rfl rfl rfl rfl (by simp [undef]) rfl ?_
                  refine cn_skip rfl rfl rfl rfl (by simp [undef]) rfl ?_
                  refine cn_skip rfl rfl rfl rfl (by simp [undef]) rfl ?_
                  refine cn_skip rfl rfl rfl rfl (by simp [undef]) rfl ?_
                  refine cn_skip rfl rfl rfl rfl (by simp [undef]) rfl ?_
                  refine cn_skip rfl rfl rfl rfl (by simp [undef]) rfl ?_
                  refine cn_skip rfl rfl rfl rfl (by simp [undef]) rfl ?_
                  refine cn_skip rfl rfl rfl rfl (by simp [undef]) rfl ?_
                  refine cn_skip rfl rfl rfl rfl (fun h => of_decide_eq_false (Value.bool.inj h) g12) rfl ?_
                  refine cn_exg rfl (ex_pickt rfl (decide_eq_true g12) rfl) rfl rfl rfl (decide_eq_true g11) rfl rfl ?_
                  refine cn_exg rfl (ex_pickt rfl (decide_eq_true g11) rfl) rfl rfl rfl (decide_eq_false g10) rfl rfl ?_
                  refine cn_ex rfl (ex_pickf rfl (decide_eq_false g10) rfl) rfl rfl ?_
                  refine cn_nil ?_
                  refine pe_cut () (Sub.cons rfl rfl (Sub.cons rfl rfl (Sub.cons rfl rfl (Sub.cons rfl rfl (Sub.cons rfl rfl (Sub.cons rfl rfl (Sub.cons rfl (congrArg Value.bool (by first | (simp [g10, g11, g12]; done) | grind)) (Sub.nil _)))))))) (.cons (.head _ _) rfl (.cons (.head _ _) rfl (.cons (.head _ _) rfl (.nil _)))) trivial
                · refine cn_exg rfl (ex_move rfl) rfl rfl rfl (decide_eq_false g12) rfl rfl ?_
                  refine cn_exg rfl (ex_move rfl) rfl rfl rfl (decide_eq_false g12) rfl rfl ?_
                  refine cn_exg rfl (ex_indexAddr rfl rfl Try.underlying24 sz_47 (sl_own (.head _ _)) (by omega) (by omega) (enc_pos encD_len (by omega))) rfl rfl rfl (decide_eq_false g12) rfl rfl ?_
                  refine cn_exg rfl (ex_fieldAddr (off' := oOf A5 + (i3).toNat * 3 + 0) rfl Try.underlying47 rfl sz_3 rfl rfl) rfl rfl rfl (decide_eq_false g12) rfl rfl ?_
                  refine cn_exg rfl (ex_load rfl ag_3 (rd_enc (j := 0) encD_len (sl_own (.head _ _)) (hd_rndR_madeI_x__i3 (by omega) (by omega)) rfl)) rfl rfl rfl (decide_eq_false g12) rfl rfl ?_
                  refine cn_exg rfl (ex_move rfl) rfl rfl rfl (decide_eq_false g12) rfl rfl ?_
                  refine cn_exg rfl (ex_move rfl) rfl rfl rfl (decide_eq_false g12) rfl rfl ?_
                  refine cn_exg rfl (ex_sub rfl rfl (by omega) (by omega)) rfl rfl rfl (decide_eq_false g12) rfl rfl ?_
                  refine cn_exg rfl (ex_indexAddr rfl rfl Try.underlying24 sz_47 (sl_own (.head _ _)) (by omega) (by omega) (enc_pos encD_len (by omega))) rfl rfl rfl (decide_eq_false g12) rfl rfl ?_
                  refine cn_exg rfl (ex_fieldAddr (off' := oOf A5 + (i3 - 1).toNat * 3 + 0) rfl Try.underlying47 rfl sz_3 rfl rfl) rfl rfl rfl (decide_eq_false g12) rfl rfl ?_
                  refine cn_exg rfl (ex_load rfl ag_3 (rd_enc (j := 0) encD_len (sl_own (.head _ _)) (hd_rndR_madeI_x__i3_1 (by omega) (by omega)) rfl)) rfl rfl rfl (decide_eq_false g12) rfl rfl ?_
                  refine cn_exg rfl (ex_eql rfl rfl) rfl rfl rfl (decide_eq_false g12) rfl rfl ?_
                  refine cn_exg rfl (ex_move rfl) rfl rfl rfl (decide_eq_false g12) rfl rfl ?_
                  by_cases g13 : d_rndR_madeI_x__i3.frm = d_rndR_madeI_x__i3_1.frm
                  · refine cn_exg rfl (ex_move rfl) rfl rfl rfl (decide_eq_true g13) rfl rfl ?_
                    refine cn_exg rfl (ex_move rfl) rfl rfl rfl (decide_eq_true g13) rfl rfl ?_
                    refine cn_exg rfl (ex_indexAddr rfl rfl Try.underlying24 sz_47 (sl_own (.head _ _)) (by omega) (by omega) (enc_pos encD_len (by omega))) rfl rfl rfl (decide_eq_true g13) rfl rfl ?_
                    refine cn_exg rfl (ex_fieldAddr (off' := oOf A5 + (i3).toNat * 3 + 1) rfl Try.underlying47 rfl sz_3 rfl rfl) rfl rfl rfl (decide_eq_true g13) rfl rfl ?_
                    refine cn_exg rfl (ex_load rfl ag_3 (rd_enc (j := 1) encD_len (sl_own (.head _ _)) (hd_rndR_madeI_x__i3 (by omega) (by omega)) rfl)) rfl rfl rfl (decide_eq_true g13) rfl rfl ?_
                    refine cn_exg rfl (ex_move rfl) rfl rfl rfl (decide_eq_true g13) rfl rfl ?_
                    refine cn_exg rfl (ex_move rfl) rfl rfl rfl (decide_eq_true g13) rfl rfl ?_
                    refine cn_exg rfl (ex_sub rfl rfl (by omega) (by omega)) rfl rfl rfl (decide_eq_true g13) rfl rfl ?_
                    refine cn_exg rfl (ex_indexAddr rfl rfl Try.underlying24 sz_47 (sl_own (.head _ _)) (by omega) (by omega) (enc_pos encD_len (by omega))) rfl rfl rfl (decide_eq_true g13) rfl rfl ?_
                    refine cn_exg rfl (ex_fieldAddr (off' := oOf A5 + (i3 - 1).toNat * 3 + 1) rfl Try.underlying47 rfl sz_3 rfl rfl) rfl rfl rfl (decide_eq_true g13) rfl rfl ?_
                    refine cn_exg rfl (ex_load rfl ag_3 (rd_enc (j := 1) encD_len (sl_own (.head _ _)) (hd_rndR_madeI_x__i3_1 (by omega) (by omega)) rfl)) rfl rfl rfl (decide_eq_true g13) rfl rfl ?_
                    refine cn_exg rfl (ex_leq rfl rfl) rfl rfl rfl (decide_eq_true g13) rfl rfl ?_
                    refine cn_exg rfl (ex_pickt rfl (decide_eq_true g13) rfl) rfl rfl rfl (decide_eq_false g12) rfl rfl ?_
                    refine cn_exg rfl (ex_pickf rfl (decide_eq_false g12) rfl) rfl rfl rfl (decide_eq_true g11) rfl rfl ?_
                    refine cn_exg rfl (ex_pickt rfl (decide_eq_true g11) rfl) rfl rfl rfl (decide_eq_false g10) rfl rfl ?_
                    refine cn_ex rfl (ex_pickf rfl (decide_eq_false g10) rfl) rfl rfl ?_
                    refine cn_nil ?_
                    refine pe_cut () (Sub.cons rfl rfl (Sub.cons rfl rfl (Sub.cons rfl rfl (Sub.cons rfl rfl (Sub.cons rfl rfl (Sub.cons rfl rfl (Sub.cons rfl (congrArg Value.bool (by first | (simp [g10, g11, g12, g13]; done) | grind)) (Sub.nil _)))))))) (.cons (.head _ _) rfl (.cons (.head _ _) rfl (.cons (.head _ _) rfl (.nil _)))) trivial
                  · refine cn_skip rfl rfl rfl rfl (fun h => g13 (of_decide_eq_true (Value.bool.inj h))) rfl ?_
                    refine cn_skip rfl rfl rfl rfl (fun h => g13 (of_decide_eq_true (Value.bool.inj h))) rfl ?_
                    refine cn_skip rfl rfl rfl rfl (fun h => g13 (of_decide_eq_true (Value.bool.inj h))) rfl ?_
                    refine cn_skip rfl rfl rfl rfl (fun h => g13 (of_decide_eq_true (Value.bool.inj h))) rfl ?_
                    refine cn_skip rfl rfl rfl rfl (fun h => g13 (of_decide_eq_true (Value.bool.inj h))) rfl ?_
                    refine cn_skip rfl rfl rfl rfl (fun h => g13 (of_decide_eq_true (Value.bool.inj h))) rfl ?_
                    refine cn_skip rfl rfl rfl rfl (fun h => g13 (of_decide_eq_true (Value.bool.inj h))) rfl ?_
                    refine cn_skip rfl rfl rfl rfl (fun h => g13 (of_decide_eq_true (Value.bool.inj h))) rfl ?_
                    refine cn_skip rfl rfl rfl rfl (fun h => g13 (of_decide_eq_true (Value.bool.inj h))) rfl ?_
                    refine cn_skip rfl rfl rfl rfl (fun h => g13 (of_decide_eq_true (Value.bool.inj h))) rfl ?_
                    refine cn_skip rfl rfl rfl rfl (fun h => g13 (of_decide_eq_true (Value.bool.inj h))) rfl ?_
                    refine cn_skip rfl rfl rfl rfl (fun h => g13 (of_decide_eq_true (Value.bool.inj h))) rfl ?_
                    refine cn_exg rfl (ex_pickf rfl (decide_eq_false g13) rfl) rfl rfl rfl (decide_eq_false g12) rfl rfl ?_
                    refine cn_exg rfl (ex_pickf rfl (decide_eq_false g12) rfl) rfl rfl rfl (decide_eq_true g11) rfl rfl ?_
                    refine cn_exg rfl (ex_pickt rfl (decide_eq_true g11) rfl) rfl rfl rfl (decide_eq_false g10) rfl rfl ?_
                    refine cn_ex rfl (ex_pickf rfl (decide_eq_false g10) rfl) rfl rfl ?_
                    refine cn_nil ?_
                    refine pe_cut () (Sub.cons rfl rfl (Sub.cons rfl rfl (Sub.cons rfl rfl (Sub.cons rfl rfl (Sub.cons rfl rfl (Sub.cons rfl rfl (Sub.cons rfl (congrArg Value.bool (by first | (simp [g10, g11, g12, g13]; done) | grind)) (Sub.nil _)))))))) (.cons (.head _ _) rfl (.cons (.head _ _) rfl (.cons (.head _ _) rfl (.nil _)))) trivial
              · refine cn_skip rfl rfl rfl rfl (fun h => g11 (of_decide_eq_true (Value.bool.inj h))) rfl ?_
                refine cn_skip rfl rfl rfl rfl (fun h => g11 (of_decide_eq_true (Value.bool.inj h))) rfl ?_
                refine cn_skip rfl rfl rfl rfl (fun h => g11 (of_decide_eq_true (Value.bool.inj h))) rfl ?_
                refine cn_skip rfl rfl rfl rfl (fun h => g11 (of_decide_eq_true (Value.bool.inj h))) rfl ?_
                refine cn_skip rfl rfl rfl rfl (fun h => g11 (of_decide_eq_true (Value.bool.inj h))) rfl ?_
                refine cn_skip rfl rfl rfl rfl (fun h => g11 (of_decide_eq_true (Value.bool.inj h))) rfl ?_
                refine cn_skip rfl rfl rfl rfl (fun h => g11 (of_decide_eq_true (Value.bool.inj h))) rfl ?_
                refine cn_skip rfl rfl rfl rfl (fun h => g11 (of_decide_eq_true (Value.bool.inj h))) rfl ?_
                refine cn_skip rfl rfl rfl rfl (fun h => g11 (of_decide_eq_true (Value.bool.inj h))) rfl ?_
                refine cn_skip rfl rfl rfl rfl (fun h => g11 (of_decide_eq_true (Value.bool.inj h))) rfl ?_
                refine cn_skip rfl rfl rfl rfl (fun h => g11 (of_decide_eq_true (Value.bool.inj h))) rfl ?_
                refine cn_skip rfl rfl rfl rfl (fun h => g11 (of_decide_eq_true (Value.bool.inj h))) rfl ?_
                refine cn_skip rfl rfl rfl rfl (fun h => g11 (of_decide_eq_true (Value.bool.inj h))) rfl ?_
                refine cn_skip rfl rfl rfl rfl (by simp [undef]) rfl ?_
                refine cn_skip rfl rfl rfl rfl (by simp [undef]) rfl ?_
                refine cn_skip rfl rfl rfl rfl (by simp [undef]) rfl ?_
                refine cn_skip rfl rfl rfl rfl (by simp [undef]) rfl ?_
                refine cn_skip rfl rfl rfl rfl (by simp [undef]) rfl ?_
                refine cn_skip rfl rfl rfl rfl (by simp [undef]) rfl ?_
                refine cn_skip rfl rfl rfl rfl (by simp [undef]) rfl ?_
                refine cn_skip rfl rfl rfl rfl (by simp [undef]) rfl ?_
                refine cn_skip rfl rfl rfl rfl (by simp [undef]) rfl ?_
                refine cn_skip rfl rfl rfl rfl (by simp [undef]) rfl ?_
                refine cn_skip rfl rfl rfl rfl (by simp [undef]) rfl ?_
                refine cn_skip rfl rfl rfl rfl (by simp [undef]) rfl ?_
                refine cn_skip rfl rfl rfl rfl (by simp [undef]) rfl ?_
                refine cn_skip rfl rfl rfl rfl (by simp [undef]) rfl ?_
                refine cn_skip rfl rfl rfl rfl (by simp [undef]) rfl ?_
                refine cn_skip rfl rfl rfl rfl (by simp [undef]) rfl ?_
                refine cn_skip rfl rfl rfl rfl (by simp [undef]) rfl ?_
                refine cn_skip rfl rfl rfl rfl (by simp [undef]) rfl ?_
                refine cn_skip rfl rfl rfl rfl (by simp [undef]) rfl ?_
                refine cn_skip rfl rfl rfl rfl (by simp [undef]) rfl ?_
                refine cn_skip rfl rfl rfl rfl (by simp [undef]) rfl ?_
                refine cn_skip rfl rfl rfl rfl (by simp [undef]) rfl ?_
                refine cn_skip rfl rfl rfl rfl (by simp [undef]) rfl ?_
                refine cn_skip rfl rfl rfl rfl (by simp [undef]) rfl ?_
                refine cn_skip rfl rfl rfl rfl (by simp [undef]) rfl ?_
                refine cn_skip rfl rfl rfl rfl (by simp [undef]) rfl ?_
                refine cn_skip rfl rfl rfl rfl (fun h => g11 (of_decide_eq_true (Value.bool.inj h))) rfl ?_
                refine cn_exg rfl (ex_pickf rfl (decide_eq_false g11) rfl) rfl rfl rfl (decide_eq_false g10) rfl rfl ?_
                refine cn_ex rfl (ex_pickf rfl (decide_eq_false g10) rfl) rfl rfl ?_
                refine cn_nil ?_
                refine pe_cut () (Sub.cons rfl rfl (Sub.cons rfl rfl (Sub.cons rfl rfl (Sub.cons rfl rfl (Sub.cons rfl rfl (Sub.cons rfl rfl (Sub.cons rfl (congrArg Value.bool (by first | (simp [g10, g11]; done) | grind)) (Sub.nil _)))))))) (.cons (.head _ _) rfl (.cons (.head _ _) rfl (.cons (.head _ _) rfl (.nil _)))) trivial
          · rintro _ _
            show WC _ _ _ [(4, .slice A3 ((pairR (madeI x)).length) c4), (6, .slice A5 ((rndR (madeI x)).length) c6), (8, .int .i64 n1), (10, .int .i64 n2), (12, .int .i64 (n3 + d_rndR_madeI_x__i3.amt)), (13, .int .i64 i3), (182, .bool (decide (((false = true) ∨ (d_rndR_madeI_x__i3.amt < 1)) ∨ ((0 < i3) ∧ ((d_rndR_madeI_x__i3.frm < d_rndR_madeI_x__i3_1.frm) ∨ ((d_rndR_madeI_x__i3.frm = d_rndR_madeI_x__i3_1.frm) ∧ (d_rndR_madeI_x__i3.to ≤ d_rndR_madeI_x__i3_1.to)))))))] [.own A5 ((rndR (madeI x)).length) c6 47 3 (encs encD (rndR (madeI x))), .own A3 ((pairR (madeI x)).length) c4 47 3 (encs encD (pairR (madeI x))), .own A1 ((madeI x).length) c2 47 3 (encs encD (madeI x))]
            refine wc_ite rfl (fun c182 => ?_) (fun c182 => ?_)
            · exfalso
              rcases c182 with (h | h) | ⟨h0, h⟩
              · cases h
              · omega
              · have hs := sorted_at hsrt (i := (i3 - 1).toNat) (hd_rndR_madeI_x__i3_1 (by omega) (by omega)) (by rw [show (i3 - 1).toNat + 1 = i3.toNat by omega]; exact (hd_rndR_madeI_x__i3 (by omega) (by omega)))
                unfold ltD at hs
                omega
            · refine wc_skip ?_
              refine pe_block _ ?_
              refine pe_seq ?_
              refine wc_region ?_
              refine wl_ex (ex_move rfl) rfl rfl ?_
              refine wl_ex (ex_add rfl rfl (by omega) (by omega)) rfl rfl ?_
              refine wl_ex (ex_assign rfl) rfl rfl ?_
              refine wl_nil ?_
              refine pe_again ⟨i3 + 1, n3 + d_rndR_madeI_x__i3.amt⟩ (Sub.cons rfl rfl (Sub.cons rfl rfl (Sub.cons rfl rfl (Sub.cons rfl rfl (Sub.cons rfl rfl (Sub.cons rfl rfl (Sub.nil _))))))) (.cons (.head _ _) rfl (.cons (.head _ _) rfl (.cons (.head _ _) rfl (.nil _)))) ?_ ?_
              · show 0 ≤ (i3 + 1) ∧ (i3 + 1) ≤ ((rndR (madeI x)).length : Int) ∧ (n3 + d_rndR_madeI_x__i3.amt) = sumA ((rndR (madeI x)).take (i3 + 1).toNat)
                have hi : (i3 + 1).toNat = i3.toNat + 1 := by omega
                refine ⟨by omega, by omega, ?_⟩
                rw [hi, sumA_take (hd_rndR_madeI_x__i3 (by omega) (by omega)), ← e3]
              · first | omega | (simp only []; omega)
      · have hn3 : n3 = sumA (rndR (madeI x)) := by rw [e3, List.take_of_length_le (by omega)]
        have hle3 : n3 ≤ n2 := by omega
        refine wc_exit ?_
        refine pe_seq_exit ?_
        refine pe_loop_exit ?_
        refine pe_block_exit ?_
        refine pe_seq ?_
        refine wc_seq ?_
        refine wc_region ?_
        refine wl_alloc ze_55 rfl rfl fun r14 => ?_
        refine wl_nil ?_
        refine pe_seq ?_
        refine wc_seq ?_
        refine wc_seq ?_
        refine wc_region ?_
        refine wl_ex (ex_assign rfl) rfl rfl ?_
        refine wl_nil ?_
        refine pe_seq ?_
        refine wc_block ?_
        refine wc_loop (σ := Int × (List Bool)) (fun s => [(17, .int .i64 s.1), (6, .slice A5 ((rndR (madeI x)).length) c6), (8, .int .i64 n1), (10, .int .i64 n2), (12, .int .i64 n3), (16, .pointer (some ⟨r14, 0, none⟩))]) (fun s => [.row r14 55 (s.2.map Value.bool), .own A5 ((rndR (madeI x)).length) c6 47 3 (encs encD (rndR (madeI x))), .own A3 ((pairR (madeI x)).length) c4 47 3 (encs encD (pairR (madeI x))), .own A1 ((madeI x).length) c2 47 3 (encs encD (madeI x))]) (fun s => (0 ≤ s.1 ∧ s.1 ≤ 8) ∧ s.2 = peelN (rndR (madeI x)) s.1.toNat) (fun s => (8 - s.1).toNat) ((0 : Int), List.replicate 8 false) (Sub.cons rfl rfl (Sub.cons rfl rfl (Sub.cons rfl rfl (Sub.cons rfl rfl (Sub.cons rfl rfl (Sub.cons rfl rfl (Sub.nil _))))))) (.cons (.head _ _) rfl (.cons (.head _ _) rfl (.cons (.head _ _) rfl (.cons (.head _ _) rfl (.nil _))))) (by first | exact ⟨by omega, rfl⟩ | (simp; rfl)) ?_
        rintro ⟨n, g⟩ hG
        show WC _ _ _ [(17, .int .i64 n), (6, .slice A5 ((rndR (madeI x)).length) c6), (8, .int .i64 n1), (10, .int .i64 n2), (12, .int .i64 n3), (16, .pointer (some ⟨r14, 0, none⟩))] [.row r14 55 (g.map Value.bool), .own A5 ((rndR (madeI x)).length) c6 47 3 (encs encD (rndR (madeI x))), .own A3 ((pairR (madeI x)).length) c4 47 3 (encs encD (pairR (madeI x))), .own A1 ((madeI x).length) c2 47 3 (encs encD (madeI x))]
        replace hG : (0 ≤ n ∧ n ≤ 8) ∧ g = peelN (rndR (madeI x)) n.toNat := hG
        obtain ⟨p1, p2⟩ := hG
        refine wc_seq ?_
        refine wc_seq ?_
        refine wc_region ?_
        refine wl_ex (ex_move rfl) rfl rfl ?_
        refine wl_ex (ex_leq rfl rfl) rfl rfl ?_
        refine wl_nil ?_
        refine pe_seq ?_
        refine wc_ite rfl (fun c184 => ?_) (fun c184 => ?_)
        · refine wc_skip ?_
          refine pe_seq ?_
          refine wc_seq ?_
          refine wc_block ?_
          refine wc_seq ?_
          refine wc_region ?_
          refine wl_ex (ex_assign rfl) rfl rfl ?_
          refine wl_nil ?_
          refine pe_seq ?_
          refine wc_block ?_
          refine wc_loop (σ := Int × (List Bool)) (fun s => [(18, .int .i64 s.1), (6, .slice A5 ((rndR (madeI x)).length) c6), (8, .int .i64 n1), (10, .int .i64 n2), (12, .int .i64 n3), (16, .pointer (some ⟨r14, 0, none⟩)), (17, .int .i64 n)]) (fun s => [.row r14 55 (s.2.map Value.bool), .own A5 ((rndR (madeI x)).length) c6 47 3 (encs encD (rndR (madeI x))), .own A3 ((pairR (madeI x)).length) c4 47 3 (encs encD (pairR (madeI x))), .own A1 ((madeI x).length) c2 47 3 (encs encD (madeI x))]) (fun s => (0 ≤ s.1 ∧ s.1 ≤ 8) ∧ s.2 = peelTo (rndR (madeI x)) n.toNat s.1.toNat) (fun s => (8 - s.1).toNat) ((0 : Int), g) (Sub.cons rfl rfl (Sub.cons rfl rfl (Sub.cons rfl rfl (Sub.cons rfl rfl (Sub.cons rfl rfl (Sub.cons rfl rfl (Sub.cons rfl rfl (Sub.nil _)))))))) (.cons (.head _ _) rfl (.cons (.head _ _) rfl (.cons (.head _ _) rfl (.cons (.head _ _) rfl (.nil _))))) (by exact ⟨by omega, p2⟩) ?_
          rintro ⟨c, g2⟩ hG
          show WC _ _ _ [(18, .int .i64 c), (6, .slice A5 ((rndR (madeI x)).length) c6), (8, .int .i64 n1), (10, .int .i64 n2), (12, .int .i64 n3), (16, .pointer (some ⟨r14, 0, none⟩)), (17, .int .i64 n)] [.row r14 55 (g2.map Value.bool), .own A5 ((rndR (madeI x)).length) c6 47 3 (encs encD (rndR (madeI x))), .own A3 ((pairR (madeI x)).length) c4 47 3 (encs encD (pairR (madeI x))), .own A1 ((madeI x).length) c2 47 3 (encs encD (madeI x))]
          replace hG : (0 ≤ c ∧ c ≤ 8) ∧ g2 = peelTo (rndR (madeI x)) n.toNat c.toNat := hG
          obtain ⟨q1, q2⟩ := hG
          have hgl : g2.length = 8 := by rw [q2]; exact peelTo_len _ _ _
          refine wc_seq ?_
          refine wc_seq ?_
          refine wc_region ?_
          refine wl_ex (ex_move rfl) rfl rfl ?_
          refine wl_ex (ex_leq rfl rfl) rfl rfl ?_
          refine wl_nil ?_
          refine pe_seq ?_
          refine wc_ite rfl (fun c188 => ?_) (fun c188 => ?_)
          · refine wc_skip ?_
            refine pe_seq ?_
            refine wc_seq ?_
            refine wc_block ?_
            refine wc_seq ?_
            refine wc_region ?_
            refine wl_ex (ex_assign rfl) rfl rfl ?_
            refine wl_nil ?_
            refine pe_seq ?_
            refine wc_seq ?_
            refine wc_seq ?_
            refine wc_region ?_
            refine wl_ex (ex_assign rfl) rfl rfl ?_
            refine wl_nil ?_
            refine pe_seq ?_
            refine wc_block ?_
            refine wc_loop (σ := Int) (fun s => [(19, .bool (decide (∃ e ∈ (rndR (madeI x)).take s.toNat, e.frm = c ∧ g2.getD e.to.toNat false = false))), (20, .int .i64 s), (6, .slice A5 ((rndR (madeI x)).length) c6), (8, .int .i64 n1), (10, .int .i64 n2), (12, .int .i64 n3), (16, .pointer (some ⟨r14, 0, none⟩)), (17, .int .i64 n), (18, .int .i64 c)]) (fun s => [.row r14 55 (g2.map Value.bool), .own A5 ((rndR (madeI x)).length) c6 47 3 (encs encD (rndR (madeI x))), .own A3 ((pairR (madeI x)).length) c4 47 3 (encs encD (pairR (madeI x))), .own A1 ((madeI x).length) c2 47 3 (encs encD (madeI x))]) (fun s => 0 ≤ s ∧ s ≤ ((rndR (madeI x)).length : Int)) (fun s => (((rndR (madeI x)).length : Int) - s).toNat) (0 : Int) (Sub.cons rfl (congrArg Value.bool (Eq.symm (decide_eq_false (by simp)))) (Sub.cons rfl rfl (Sub.cons rfl rfl (Sub.cons rfl rfl (Sub.cons rfl rfl (Sub.cons rfl rfl (Sub.cons rfl rfl (Sub.cons rfl rfl (Sub.cons rfl rfl (Sub.nil _)))))))))) (.cons (.head _ _) rfl (.cons (.head _ _) rfl (.cons (.head _ _) rfl (.cons (.head _ _) rfl (.nil _))))) (by simp) ?_
            rintro j hG
            show WC _ _ _ [(19, .bool (decide (∃ e ∈ (rndR (madeI x)).take j.toNat, e.frm = c ∧ g2.getD e.to.toNat false = false))), (20, .int .i64 j), (6, .slice A5 ((rndR (madeI x)).length) c6), (8, .int .i64 n1), (10, .int .i64 n2), (12, .int .i64 n3), (16, .pointer (some ⟨r14, 0, none⟩)), (17, .int .i64 n), (18, .int .i64 c)] [.row r14 55 (g2.map Value.bool), .own A5 ((rndR (madeI x)).length) c6 47 3 (encs encD (rndR (madeI x))), .own A3 ((pairR (madeI x)).length) c4 47 3 (encs encD (pairR (madeI x))), .own A1 ((madeI x).length) c2 47 3 (encs encD (madeI x))]
            replace hG : 0 ≤ j ∧ j ≤ ((rndR (madeI x)).length : Int) := hG
            obtain ⟨t1, t2⟩ := hG
            refine wc_seq ?_
            refine wc_seq ?_
            refine wc_region ?_
            refine wl_ex (ex_move rfl) rfl rfl ?_
            refine wl_ex (ex_move rfl) rfl rfl ?_
            refine wl_ex (ex_len Try.underlying24 rfl) rfl rfl ?_
            refine wl_ex (ex_lss rfl rfl) rfl rfl ?_
            refine wl_nil ?_
            refine pe_seq ?_
            refine wc_ite rfl (fun c194 => ?_) (fun c194 => ?_)
            · refine wc_skip ?_
              refine pe_seq ?_
              refine wc_seq ?_
              refine wc_block ?_
              refine wc_region ?_
              refine wl_ex (ex_move rfl) rfl rfl ?_
              refine wl_ex (ex_move rfl) rfl rfl ?_
              by_cases g15 : ∃ e ∈ (rndR (madeI x)).take j.toNat, e.frm = c ∧ g2.getD e.to.toNat false = false
              · refine wl_skip rfl rfl rfl (fun h => of_decide_eq_false (Value.bool.inj h) g15) rfl rfl ?_
                refine wl_skip rfl rfl rfl (fun h => of_decide_eq_false (Value.bool.inj h) g15) rfl rfl ?_
                refine wl_skip rfl rfl rfl (fun h => of_decide_eq_false (Value.bool.inj h) g15) rfl rfl ?_
                refine wl_skip rfl rfl rfl (fun h => of_decide_eq_false (Value.bool.inj h) g15) rfl rfl ?_
                refine wl_skip rfl rfl rfl (fun h => of_decide_eq_false (Value.bool.inj h) g15) rfl rfl ?_
                refine wl_skip rfl rfl rfl (fun h => of_decide_eq_false (Value.bool.inj h) g15) rfl rfl ?_
                refine wl_skip rfl rfl rfl (fun h => of_decide_eq_false (Value.bool.inj h) g15) rfl rfl ?_
                refine wl_skip rfl rfl rfl (fun h => of_decide_eq_false (Value.bool.inj h) g15) rfl rfl ?_
                refine wl_skip rfl rfl rfl (by simp [undef]) rfl rfl ?_
                refine wl_skip rfl rfl rfl (by simp [undef]) rfl rfl ?_
                refine wl_skip rfl rfl rfl (by simp [undef]) rfl rfl ?_
                refine wl_skip rfl rfl rfl (by simp [undef]) rfl rfl ?_
                refine wl_skip rfl rfl rfl (by simp [undef]) rfl rfl ?_
                refine wl_skip rfl rfl rfl (by simp [undef]) rfl rfl ?_
                refine wl_skip rfl rfl rfl (by simp [undef]) rfl rfl ?_
                refine wl_skip rfl rfl rfl (by simp [undef]) rfl rfl ?_
                refine wl_skip rfl rfl rfl (by simp [undef]) rfl rfl ?_
                refine wl_skip rfl rfl rfl (fun h => of_decide_eq_false (Value.bool.inj h) g15) rfl rfl ?_
                refine wl_ex (ex_pickt rfl (decide_eq_true g15) rfl) rfl rfl ?_
                refine wl_ex (ex_assign rfl) rfl rfl ?_
                refine wl_nil ?_
                refine pe_block _ ?_
                refine pe_seq ?_
                refine wc_region ?_
                refine wl_ex (ex_move rfl) rfl rfl ?_
                refine wl_ex (ex_add rfl rfl (by omega) (by omega)) rfl rfl ?_
                refine wl_ex (ex_assign rfl) rfl rfl ?_
                refine wl_nil ?_
                refine pe_again (j + 1) (Sub.cons rfl (congrArg Value.bool (Eq.symm (decide_eq_true (by rw [show (j + 1).toNat = j.toNat + 1 by omega]; exact ex_more g15)))) (Sub.cons rfl rfl (Sub.cons rfl rfl (Sub.cons rfl rfl (Sub.cons rfl rfl (Sub.cons rfl rfl (Sub.cons rfl rfl (Sub.cons rfl rfl (Sub.cons rfl rfl (Sub.nil _)))))))))) (.cons (.head _ _) rfl (.cons (.head _ _) rfl (.cons (.head _ _) rfl (.cons (.head _ _) rfl (.nil _))))) ?_ ?_
                · show 0 ≤ (j + 1) ∧ (j + 1) ≤ ((rndR (madeI x)).length : Int)
                  refine ⟨?_, ?_⟩ <;> omega
                · first | omega | (simp only []; omega)
              · refine wl_pass rfl rfl rfl (decide_eq_false g15) ?_
                refine wl_ex (ex_move rfl) rfl rfl ?_
                refine wl_pass rfl rfl rfl (decide_eq_false g15) ?_
                refine wl_ex (ex_move rfl) rfl rfl ?_
                refine wl_pass rfl rfl rfl (decide_eq_false g15) ?_
                refine wl_ex (ex_indexAddr rfl rfl Try.underlying24 sz_47 (sl_own (.tail (.head _ _))) (by omega) (by omega) (enc_pos encD_len (by omega))) rfl rfl ?_
                refine wl_pass rfl rfl rfl (decide_eq_false g15) ?_
                refine wl_ex (ex_fieldAddr (off' := oOf A5 + (j).toNat * 3 + 0) rfl Try.underlying47 rfl sz_3 rfl rfl) rfl rfl ?_
                refine wl_pass rfl rfl rfl (decide_eq_false g15) ?_
                obtain ⟨d_rndR_madeI_x__j, hd_rndR_madeI_x__j⟩ := get_if (rndR (madeI x)) j
                refine wl_ex (ex_load rfl ag_3 (rd_enc (j := 0) encD_len (sl_own (.tail (.head _ _))) (hd_rndR_madeI_x__j (by omega) (by omega)) rfl)) rfl rfl ?_
                refine wl_pass rfl rfl rfl (decide_eq_false g15) ?_
                refine wl_ex (ex_move rfl) rfl rfl ?_
                refine wl_pass rfl rfl rfl (decide_eq_false g15) ?_
                refine wl_ex (ex_eql rfl rfl) rfl rfl ?_
                refine wl_pass rfl rfl rfl (decide_eq_false g15) ?_
                refine wl_ex (ex_move rfl) rfl rfl ?_
                by_cases g16 : d_rndR_madeI_x__j.frm = c
                · refine wl_pass rfl rfl rfl (decide_eq_true g16) ?_
                  refine wl_ex (ex_move rfl) rfl rfl ?_
                  refine wl_pass rfl rfl rfl (decide_eq_true g16) ?_
                  refine wl_ex (ex_move rfl) rfl rfl ?_
                  refine wl_pass rfl rfl rfl (decide_eq_true g16) ?_
                  refine wl_ex (ex_indexAddr rfl rfl Try.underlying24 sz_47 (sl_own (.tail (.head _ _))) (by omega) (by omega) (enc_pos encD_len (by omega))) rfl rfl ?_
                  refine wl_pass rfl rfl rfl (decide_eq_true g16) ?_
                  refine wl_ex (ex_fieldAddr (off' := oOf A5 + (j).toNat * 3 + 1) rfl Try.underlying47 rfl sz_3 rfl rfl) rfl rfl ?_
                  refine wl_pass rfl rfl rfl (decide_eq_true g16) ?_
                  refine wl_ex (ex_load rfl ag_3 (rd_enc (j := 1) encD_len (sl_own (.tail (.head _ _))) (hd_rndR_madeI_x__j (by omega) (by omega)) rfl)) rfl rfl ?_
                  have hdj := hkr _ (mem_at (hd_rndR_madeI_x__j (by omega) (by omega)))
                  unfold okD at hdj
                  refine wl_pass rfl rfl rfl (decide_eq_true g16) ?_
                  refine wl_callV [.tmp 211, .const (.int .i64 8)] rfl ok_34 rfl (fun w hm => c_pickL d_rndR_madeI_x__j.to 8 w   (by omega) (by omega)) rfl ?_
                  have hpj := pick_bd d_rndR_madeI_x__j.to 8 (by omega)
                  refine wl_pass rfl rfl rfl (decide_eq_true g16) ?_
                  refine wl_ex (ex_indexAddrA (off' := (pickI d_rndR_madeI_x__j.to 8).toNat * 1) rfl rfl Try.underlying55 sz_4 (by omega) (by omega) (by simp)) rfl rfl ?_
                  refine wl_pass rfl rfl rfl (decide_eq_true g16) ?_
                  refine wl_ex (ex_load rfl ag_4 (rd_row1 (.head _ _) (gone_at hgl (by omega)))) rfl rfl ?_
                  refine wl_pass rfl rfl rfl (decide_eq_true g16) ?_
                  refine wl_ex (ex_notb rfl) rfl rfl ?_
                  refine wl_pass rfl rfl rfl (decide_eq_false g15) ?_
                  refine wl_ex (ex_pickt rfl (decide_eq_true g16) rfl) rfl rfl ?_
                  refine wl_ex (ex_pickf rfl (decide_eq_false g15) rfl) rfl rfl ?_
                  refine wl_ex (ex_assign rfl) rfl rfl ?_
                  refine wl_nil ?_
                  refine pe_block _ ?_
                  refine pe_seq ?_
                  refine wc_region ?_
                  refine wl_ex (ex_move rfl) rfl rfl ?_
                  refine wl_ex (ex_add rfl rfl (by omega) (by omega)) rfl rfl ?_
                  refine wl_ex (ex_assign rfl) rfl rfl ?_
                  refine wl_nil ?_
                  refine pe_again (j + 1) (Sub.cons rfl (congrArg Value.bool (by simp only [show (j + 1).toNat = j.toNat + 1 by omega, ex_take (hd_rndR_madeI_x__j (by omega) (by omega))]; (try simp only [pick_small (c := d_rndR_madeI_x__j.to) (n := 8) (by omega) (by omega)]); grind)) (Sub.cons rfl rfl (Sub.cons rfl rfl (Sub.cons rfl rfl (Sub.cons rfl rfl (Sub.cons rfl rfl (Sub.cons rfl rfl (Sub.cons rfl rfl (Sub.cons rfl rfl (Sub.nil _)))))))))) (.cons (.head _ _) rfl (.cons (.head _ _) rfl (.cons (.head _ _) rfl (.cons (.head _ _) rfl (.nil _))))) ?_ ?_
                  · show 0 ≤ (j + 1) ∧ (j + 1) ≤ ((rndR (madeI x)).length : Int)
                    refine ⟨?_, ?_⟩ <;> omega
                  · first | omega | (simp only []; omega)
                · refine wl_skip rfl rfl rfl (fun h => g16 (of_decide_eq_true (Value.bool.inj h))) rfl rfl ?_
                  refine wl_skip rfl rfl rfl (fun h => g16 (of_decide_eq_true (Value.bool.inj h))) rfl rfl ?_
                  refine wl_skip rfl rfl rfl (fun h => g16 (of_decide_eq_true (Value.bool.inj h))) rfl rfl ?_
                  refine wl_skip rfl rfl rfl (fun h => g16 (of_decide_eq_true (Value.bool.inj h))) rfl rfl ?_
                  refine wl_skip rfl rfl rfl (fun h => g16 (of_decide_eq_true (Value.bool.inj h))) rfl rfl ?_
                  refine wl_skip rfl rfl rfl (fun h => g16 (of_decide_eq_true (Value.bool.inj h))) rfl rfl ?_
                  refine wl_skip rfl rfl rfl (fun h => g16 (of_decide_eq_true (Value.bool.inj h))) rfl rfl ?_
                  refine wl_skip rfl rfl rfl (fun h => g16 (of_decide_eq_true (Value.bool.inj h))) rfl rfl ?_
                  refine wl_skip rfl rfl rfl (fun h => g16 (of_decide_eq_true (Value.bool.inj h))) rfl rfl ?_
                  refine wl_pass rfl rfl rfl (decide_eq_false g15) ?_
                  refine wl_ex (ex_pickf rfl (decide_eq_false g16) rfl) rfl rfl ?_
                  refine wl_ex (ex_pickf rfl (decide_eq_false g15) rfl) rfl rfl ?_
                  refine wl_ex (ex_assign rfl) rfl rfl ?_
                  refine wl_nil ?_
                  refine pe_block _ ?_
                  refine pe_seq ?_
                  refine wc_region ?_
                  refine wl_ex (ex_move rfl) rfl rfl ?_
                  refine wl_ex (ex_add rfl rfl (by omega) (by omega)) rfl rfl ?_
                  refine wl_ex (ex_assign rfl) rfl rfl ?_
                  refine wl_nil ?_
                  refine pe_again (j + 1) (Sub.cons rfl (congrArg Value.bool (by simp only [show (j + 1).toNat = j.toNat + 1 by omega, ex_take (hd_rndR_madeI_x__j (by omega) (by omega))]; (try simp only [pick_small (c := d_rndR_madeI_x__j.to) (n := 8) (by omega) (by omega)]); grind)) (Sub.cons rfl rfl (Sub.cons rfl rfl (Sub.cons rfl rfl (Sub.cons rfl rfl (Sub.cons rfl rfl (Sub.cons rfl rfl (Sub.cons rfl rfl (Sub.cons rfl rfl (Sub.nil _)))))))))) (.cons (.head _ _) rfl (.cons (.head _ _) rfl (.cons (.head _ _) rfl (.cons (.head _ _) rfl (.nil _))))) ?_ ?_
                  · show 0 ≤ (j + 1) ∧ (j + 1) ≤ ((rndR (madeI x)).length : Int)
                    refine ⟨?_, ?_⟩ <;> omega
                  · first | omega | (simp only []; omega)
            · refine wc_exit ?_
              refine pe_seq_exit ?_
              refine pe_loop_exit ?_
              refine pe_block_exit ?_
              refine pe_seq ?_
              refine wc_region ?_
              refine wl_ex (ex_move rfl) rfl rfl ?_
              refine wl_ex (ex_move rfl) rfl rfl ?_
              refine wl_ex (ex_indexAddrA (off' := (c).toNat * 1) rfl rfl Try.underlying55 sz_4 (by omega) (by omega) (by simp)) rfl rfl ?_
              refine wl_ex (ex_load rfl ag_4 (rd_row1 (.head _ _) (gone_at hgl (by omega)))) rfl rfl ?_
              refine wl_ex (ex_move rfl) rfl rfl ?_
              by_cases g17 : g2.getD c.toNat false = true
              · refine wl_skip rfl rfl rfl (by first | (simp [g17]; done) | (rw [g17]; simp)) rfl rfl ?_
                refine wl_skip rfl rfl rfl (by first | (simp [g17]; done) | (rw [g17]; simp)) rfl rfl ?_
                refine wl_ex (ex_pickt rfl g17 rfl) rfl rfl ?_
                refine wl_ex (ex_indexAddrA (off' := (c).toNat * 1) rfl rfl Try.underlying55 sz_4 (by omega) (by omega) (by simp)) rfl rfl ?_
                refine wl_store rfl rfl rfl sz_4 (.head _ _) (by simp; omega) ?_
                rw [gone_set, pstep_of (r := (rndR (madeI x))) (c := c) (b := true) (by omega) (by rw [g17]; rfl)]
                refine wl_nil ?_
                refine pe_block _ ?_
                refine pe_seq ?_
                refine wc_region ?_
                refine wl_ex (ex_move rfl) rfl rfl ?_
                refine wl_ex (ex_add rfl rfl (by omega) (by omega)) rfl rfl ?_
                refine wl_ex (ex_assign rfl) rfl rfl ?_
                refine wl_nil ?_
                refine pe_again ⟨c + 1, pstep (rndR (madeI x)) g2 c.toNat⟩ (Sub.cons rfl rfl (Sub.cons rfl rfl (Sub.cons rfl rfl (Sub.cons rfl rfl (Sub.cons rfl rfl (Sub.cons rfl rfl (Sub.cons rfl rfl (Sub.nil _)))))))) (.cons (.head _ _) rfl (.cons (.head _ _) rfl (.cons (.head _ _) rfl (.cons (.head _ _) rfl (.nil _))))) ?_ ?_
                · show (0 ≤ (c + 1) ∧ (c + 1) ≤ 8) ∧ (pstep (rndR (madeI x)) g2 c.toNat) = peelTo (rndR (madeI x)) n.toNat (c + 1).toNat
                  exact ⟨by omega, by rw [show (c + 1).toNat = c.toNat + 1 by omega, peelTo_succ, ← q2]⟩
                · first | omega | (simp only []; omega)
              · refine wl_pass rfl rfl rfl (by simpa using g17) ?_
                refine wl_ex (ex_move rfl) rfl rfl ?_
                refine wl_pass rfl rfl rfl (by simpa using g17) ?_
                refine wl_ex (ex_not rfl) rfl rfl ?_
                refine wl_ex (ex_pickf rfl (by simpa using g17) rfl) rfl rfl ?_
                refine wl_ex (ex_indexAddrA (off' := (c).toNat * 1) rfl rfl Try.underlying55 sz_4 (by omega) (by omega) (by simp)) rfl rfl ?_
                refine wl_store rfl rfl rfl sz_4 (.head _ _) (by simp; omega) ?_
                rw [gone_set, pstep_of (r := (rndR (madeI x))) (c := c) (b := (decide (¬ (∃ e ∈ (rndR (madeI x)).take j.toNat, e.frm = c ∧ g2.getD e.to.toNat false = false)))) (by omega) (by rw [show g2.getD c.toNat false = false by simpa using g17, Bool.false_or]; simp only [owP_end (r := (rndR (madeI x))) (g := g2) (c := c) (j := j) (by omega), decide_not])]
                refine wl_nil ?_
                refine pe_block _ ?_
                refine pe_seq ?_
                refine wc_region ?_
                refine wl_ex (ex_move rfl) rfl rfl ?_
                refine wl_ex (ex_add rfl rfl (by omega) (by omega)) rfl rfl ?_
                refine wl_ex (ex_assign rfl) rfl rfl ?_
                refine wl_nil ?_
                refine pe_again ⟨c + 1, pstep (rndR (madeI x)) g2 c.toNat⟩ (Sub.cons rfl rfl (Sub.cons rfl rfl (Sub.cons rfl rfl (Sub.cons rfl rfl (Sub.cons rfl rfl (Sub.cons rfl rfl (Sub.cons rfl rfl (Sub.nil _)))))))) (.cons (.head _ _) rfl (.cons (.head _ _) rfl (.cons (.head _ _) rfl (.cons (.head _ _) rfl (.nil _))))) ?_ ?_
                · show (0 ≤ (c + 1) ∧ (c + 1) ≤ 8) ∧ (pstep (rndR (madeI x)) g2 c.toNat) = peelTo (rndR (madeI x)) n.toNat (c + 1).toNat
                  exact ⟨by omega, by rw [show (c + 1).toNat = c.toNat + 1 by omega, peelTo_succ, ← q2]⟩
                · first | omega | (simp only []; omega)
          · refine wc_exit ?_
            refine pe_seq_exit ?_
            refine pe_loop_exit ?_
            refine pe_block_exit ?_
            refine pe_block _ ?_
            refine pe_seq ?_
            refine wc_region ?_
            refine wl_ex (ex_move rfl) rfl rfl ?_
            refine wl_ex (ex_add rfl rfl (by omega) (by omega)) rfl rfl ?_
            refine wl_ex (ex_assign rfl) rfl rfl ?_
            refine wl_nil ?_
            refine pe_again ⟨n + 1, g2⟩ (Sub.cons rfl rfl (Sub.cons rfl rfl (Sub.cons rfl rfl (Sub.cons rfl rfl (Sub.cons rfl rfl (Sub.cons rfl rfl (Sub.nil _))))))) (.cons (.head _ _) rfl (.cons (.head _ _) rfl (.cons (.head _ _) rfl (.cons (.head _ _) rfl (.nil _))))) ?_ ?_
            · show (0 ≤ (n + 1) ∧ (n + 1) ≤ 8) ∧ g2 = peelN (rndR (madeI x)) (n + 1).toNat
              exact ⟨by omega, by rw [show (n + 1).toNat = n.toNat + 1 by omega, q2, show c.toNat = 8 by omega]; rfl⟩
            · first | omega | (simp only []; omega)
        · refine wc_exit ?_
          refine pe_seq_exit ?_
          refine pe_loop_exit ?_
          refine pe_block_exit ?_
          refine pe_seq ?_
          refine wc_seq ?_
          refine wc_seq ?_
          refine wc_region ?_
          refine wl_ex (ex_assign rfl) rfl rfl ?_
          refine wl_nil ?_
          refine pe_seq ?_
          refine wc_block ?_
          refine wc_loop (σ := Int) (fun s => [(21, .int .i64 s), (8, .int .i64 n1), (10, .int .i64 n2), (12, .int .i64 n3), (16, .pointer (some ⟨r14, 0, none⟩))]) (fun s => [.row r14 55 (g.map Value.bool), .own A5 ((rndR (madeI x)).length) c6 47 3 (encs encD (rndR (madeI x))), .own A3 ((pairR (madeI x)).length) c4 47 3 (encs encD (pairR (madeI x))), .own A1 ((madeI x).length) c2 47 3 (encs encD (madeI x))]) (fun s => 0 ≤ s ∧ s ≤ 8) (fun s => (8 - s).toNat) (0 : Int) (Sub.cons rfl rfl (Sub.cons rfl rfl (Sub.cons rfl rfl (Sub.cons rfl rfl (Sub.cons rfl rfl (Sub.nil _)))))) (.cons (.head _ _) rfl (.cons (.head _ _) rfl (.cons (.head _ _) rfl (.cons (.head _ _) rfl (.nil _))))) (by simp) ?_
          rintro ce hG
          show WC _ _ _ [(21, .int .i64 ce), (8, .int .i64 n1), (10, .int .i64 n2), (12, .int .i64 n3), (16, .pointer (some ⟨r14, 0, none⟩))] [.row r14 55 (g.map Value.bool), .own A5 ((rndR (madeI x)).length) c6 47 3 (encs encD (rndR (madeI x))), .own A3 ((pairR (madeI x)).length) c4 47 3 (encs encD (pairR (madeI x))), .own A1 ((madeI x).length) c2 47 3 (encs encD (madeI x))]
          replace hG : 0 ≤ ce ∧ ce ≤ 8 := hG
          obtain ⟨u1, u2⟩ := hG
          have hg8 : g = peelN (rndR (madeI x)) 8 := by rw [p2, show n.toNat = 8 by omega]
          have hgl : g.length = 8 := by rw [hg8]; exact peelN_len _ _
          refine wc_seq ?_
          refine wc_seq ?_
          refine wc_region ?_
          refine wl_ex (ex_move rfl) rfl rfl ?_
          refine wl_ex (ex_leq rfl rfl) rfl rfl ?_
          refine wl_nil ?_
          refine pe_seq ?_
          refine wc_ite rfl (fun c228 => ?_) (fun c228 => ?_)
          · refine wc_skip ?_
            refine pe_seq ?_
            refine wc_seq ?_
            refine wc_block ?_
            refine wc_seq ?_
            refine wc_region ?_
            refine wl_ex (ex_move rfl) rfl rfl ?_
            refine wl_ex (ex_indexAddrA (off' := (ce).toNat * 1) rfl rfl Try.underlying55 sz_4 (by omega) (by omega) (by simp)) rfl rfl ?_
            refine wl_ex (ex_load rfl ag_4 (rd_row1 (.head _ _) (gone_at hgl (by omega)))) rfl rfl ?_
            refine wl_ex (ex_notb rfl) rfl rfl ?_
            refine wl_nil ?_
            refine pe_seq ?_
            refine wc_if rfl (fun c234 => ?_) (fun c234 => ?_)
            · rw [hg8, hgone ce.toNat (by omega)] at c234
              exact absurd c234 (by simp)
            · refine wc_skip ?_
              refine pe_block _ ?_
              refine pe_seq ?_
              refine wc_region ?_
              refine wl_ex (ex_move rfl) rfl rfl ?_
              refine wl_ex (ex_add rfl rfl (by omega) (by omega)) rfl rfl ?_
              refine wl_ex (ex_assign rfl) rfl rfl ?_
              refine wl_nil ?_
              refine pe_again (ce + 1) (Sub.cons rfl rfl (Sub.cons rfl rfl (Sub.cons rfl rfl (Sub.cons rfl rfl (Sub.cons rfl rfl (Sub.nil _)))))) (.cons (.head _ _) rfl (.cons (.head _ _) rfl (.cons (.head _ _) rfl (.cons (.head _ _) rfl (.nil _))))) ?_ ?_
              · show 0 ≤ (ce + 1) ∧ (ce + 1) ≤ 8
                refine ⟨?_, ?_⟩ <;> omega
              · first | omega | (simp only []; omega)
          · refine wc_exit ?_
            refine pe_seq_exit ?_
            refine pe_loop_exit ?_
            refine pe_block_exit ?_
            refine pe_seq ?_
            refine wc_seq ?_
            refine wc_region ?_
            refine wl_ex (ex_move rfl) rfl rfl ?_
            refine wl_ex (ex_move rfl) rfl rfl ?_
            refine wl_ex (ex_leq rfl rfl) rfl rfl ?_
            refine wl_ex (ex_move rfl) rfl rfl ?_
            refine wl_pass rfl rfl rfl (decide_eq_true hle3) ?_
            refine wl_ex (ex_move rfl) rfl rfl ?_
            refine wl_pass rfl rfl rfl (decide_eq_true hle3) ?_
            refine wl_ex (ex_move rfl) rfl rfl ?_
            refine wl_pass rfl rfl rfl (decide_eq_true hle3) ?_
            refine wl_ex (ex_leq rfl rfl) rfl rfl ?_
            refine wl_ex (ex_pickt rfl (decide_eq_true hle3) rfl) rfl rfl ?_
            refine wl_ex (ex_assign rfl) rfl rfl ?_
            refine wl_nil ?_
            refine pe_seq ?_
            refine wc_ret ?_
            refine pe_ret1 rfl rfl rfl (fun w' hm => ⟨?_, hm.ent (.nil _)⟩)
            exact congrArg Value.bool (decide_eq_true hle2)

end Go.Proofs.Ytolfgdkdghhidaa
