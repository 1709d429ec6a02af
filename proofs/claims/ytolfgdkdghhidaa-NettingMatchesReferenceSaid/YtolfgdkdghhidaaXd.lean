/- Walks. -/
import Derived.Test.YtolfgdkdghhidaaXb
import Derived.Test.YtolfgdkdghhidaaXc
import Derived.Test.YtolfgdkdghhidaaWx
set_option linter.unusedVariables false
set_option linter.unusedSimpArgs false
namespace Go.Proofs.Ytolfgdkdghhidaa
open Go Go.RowKit
theorem even_within (y : List Int) : Within 1000000000000 (evenI y) := ev2_within y 7
theorem balR_len (l : List Debt) : (balR l).length ≤ 1000 := by
  unfold balR; split
  · rw [balI_length]; omega
  · simp
theorem pairR_len (l : List Debt) : (pairR l).length ≤ 1000 := by
  unfold pairR; split
  · exact Nat.le_trans (pairsI_length l) (by omega)
  · simp
theorem rndR_len (l : List Debt) : (rndR l).length ≤ 1000 := by
  unfold rndR; split
  · exact Nat.le_trans (list_le _) (by omega)
  · simp
theorem cycI_len (l : List Debt) : (cycL (cycI l)).length ≤ 1000 := by
  cases h : cycI l with
  | none => simp [cycL]
  | some c =>
    unfold cycI at h
    split at h
    · have := (cycF h).len; show c.length ≤ 1000; omega
    · cases h
theorem stlR_len {l : List Int} : (stlR l).length ≤ 60 := by
  by_cases h : goodI l
  · rw [stlR_good h]; exact (stl_check h).2.1.2
  · rw [show stlR l = [] from if_neg h]; simp
theorem stlR_sgn {l : List Int} {d : Debt} (h : d ∈ stlR l) : l.length = 8 ∧ (0 ≤ d.frm ∧ d.frm ≤ 7) ∧ (0 ≤ d.to ∧ d.to ≤ 7) ∧ l.getD d.frm.toNat 0 < 0 ∧ 0 < l.getD d.to.toNat 0 := by
  by_cases hg : goodI l
  · rw [stlR_good hg] at h
    have h1 := (stl_ok hg).ok d h
    unfold okD at h1
    have h2 := (stl_ok hg).sgn d h
    exact ⟨hg.2.1, h1.1, h1.2.1, h2.1, h2.2⟩
  · rw [show stlR l = [] from if_neg hg] at h; simp at h
theorem ag_24 : isAggT Try.prog 24 = some false := by kernel_rfl
theorem sz_24 : szT Try.prog 24 = some 1 := by kernel_rfl
theorem ze_24 : zeT Try.prog 24 = some (.slice none 0 0) := by kernel_rfl
theorem ok_15 : callOK Try.prog 15 = true := by kernel_rfl
theorem ok_17 : callOK Try.prog 17 = true := by kernel_rfl
theorem ok_19 : callOK Try.prog 19 = true := by kernel_rfl
theorem ok_21 : callOK Try.prog 21 = true := by kernel_rfl
theorem ok_27 : callOK Try.prog 27 = true := by kernel_rfl
theorem ok_29 : callOK Try.prog 29 = true := by kernel_rfl
theorem ok_32 : callOK Try.prog 32 = true := by kernel_rfl

set_option maxHeartbeats 4000000 in
theorem c_Match (Ax : Option Addr) (cx : Nat) (x : List Tri) (bd : Tri) (Ar : Option Addr) (cr : Nat) (r : List Debt) (Ay : Option Addr) (cy : Nat) (y : List Int) (Ao : Option Addr) (co : Nat) (o : List Int) (w : World) (hx : Sl w Ax (encs encT x)) (hr : Sl w Ar (encs encD r)) (hy : Sl w Ay (encs encI y)) (ho : Sl w Ao (encs encI o)) (hxk : ∀ t ∈ x, t.ok) (hbd : bd.ok) (hrk : ∀ d ∈ r, i64 d.frm ∧ i64 d.to ∧ i64 d.amt) (hrc : r.length ≤ cr) (hyk : ∀ n ∈ y, i64 n) (hok : ∀ n ∈ o, i64 n) (hoc : o.length ≤ co) :
    Cl Try.prog 3 [.slice Ax x.length cx, .agg (encT bd).toArray, .slice Ar r.length cr, .slice Ay y.length cy, .slice Ao o.length co] w (IsV (.bool true) w) := by
  refine cl_of Try.func3 rfl Try.ntmps3 rfl (Mem.refl w) ?_
  unfold Tri.ok at hbd
  obtain ⟨hba, hbb, hbc⟩ := hbd
  have hml := made_len x
  have hrt : Sl w Ar (encs encD (r.take 61)) := hr.takeE encD_len 61
  have hot : Sl w Ao (encs encI (o.take 9)) := ho.takeE encI_len 9
  have hrl : (r.take 61).length ≤ 100 := by simp; omega
  have hol : (o.take 9).length ≤ 100 := by simp; omega
  have hrn : (min (r.length : Int) 61).toNat = (r.take 61).length := by rw [List.length_take]; omega
  have hon : (min (o.length : Int) 9).toNat = (o.take 9).length := by rw [List.length_take]; omega
  have hbl := bentD_len bd.a bd.b bd.c (l := madeI x) (by omega)
  have hel : (evenI y).length = 8 := (even_good y).2.1
  have hnl := bentN_len bd.a bd.b bd.c (l := evenI y) (by omega)
  have hew := even_within y
  have hs1 := stlR_len (l := evenI y)
  have hs2 := stlR_len (l := (bentN (evenI y) bd.a bd.b bd.c))
  have hs3 := stlR_len (l := o.take 9)
  have hb1 := bentD_len bd.a bd.b bd.c (l := stlR (evenI y)) (by omega)
  have hb2 := bentD_len bd.a bd.b bd.c (l := stlR (bentN (evenI y) bd.a bd.b bd.c)) (by omega)
  have hb3 := bentD_len bd.a bd.b bd.c (l := stlR (o.take 9)) (by omega)
  have hq0 : (madeI x).length ≤ 1000 := by omega
  have hq1 : ((bentD (madeI x) bd.a bd.b bd.c)).length ≤ 1000 := by omega
  have hq2 : (r.take 61).length ≤ 1000 := by omega
  have hq3 : (evenI y).length ≤ 1000 := by omega
  have hq4 : ((bentN (evenI y) bd.a bd.b bd.c)).length ≤ 1000 := by omega
  have hq5 : (o.take 9).length ≤ 1000 := by omega
  have hq6 : (stlR (evenI y)).length ≤ 1000 := by omega
  have hq7 : (stlR (bentN (evenI y) bd.a bd.b bd.c)).length ≤ 1000 := by omega
  have hq8 : (stlR (o.take 9)).length ≤ 1000 := by omega
  have hq9 : (bentD (stlR (evenI y)) bd.a bd.b bd.c).length ≤ 1000 := by omega
  have hq10 : (bentD (stlR (bentN (evenI y) bd.a bd.b bd.c)) bd.a bd.b bd.c).length ≤ 1000 := by omega
  have hq11 : (bentD (stlR (o.take 9)) bd.a bd.b bd.c).length ≤ 1000 := by omega
  have hz00 := balR_len (madeI x)
  have hz01 := pairR_len (madeI x)
  have hz02 := rndR_len (madeI x)
  have hz03 := cycI_len (madeI x)
  have hz10 := balR_len ((bentD (madeI x) bd.a bd.b bd.c))
  have hz11 := pairR_len ((bentD (madeI x) bd.a bd.b bd.c))
  have hz12 := rndR_len ((bentD (madeI x) bd.a bd.b bd.c))
  have hz13 := cycI_len ((bentD (madeI x) bd.a bd.b bd.c))
  have hz20 := balR_len (r.take 61)
  have hz21 := pairR_len (r.take 61)
  have hz22 := rndR_len (r.take 61)
  have hz23 := cycI_len (r.take 61)
  refine wc_seq ?_
  refine wc_region ?_
  refine wl_box rfl rfl rfl fun r1 => ?_
  refine wl_ex (ex_assign rfl) rfl rfl ?_
  refine wl_nil ?_
  refine pe_seq ?_
  refine wc_seq ?_
  refine wc_seq ?_
  refine wc_region ?_
  refine wl_callV [] rfl ok_11 rfl (fun w hm => c_sane  w   ) rfl ?_
  refine wl_ex (ex_notb rfl) rfl rfl ?_
  refine wl_nil ?_
  refine pe_seq ?_
  refine wc_iff rfl ?_
  refine wc_skip ?_
  refine pe_seq ?_
  refine wc_seq ?_
  refine wc_region ?_
  refine wl_ex (ex_move rfl) rfl rfl ?_
  refine wl_callS [.tmp 44] rfl ok_12 rfl (fun w hm => c_Made Ax cx x w (((sl_arg hx rfl)).at hm)  (by assumption)) rfl fun A2 c3 => ?_
  refine wl_ex (ex_assign rfl) rfl rfl ?_
  refine wl_nil ?_
  refine pe_seq ?_
  refine wc_seq ?_
  refine wc_seq ?_
  refine wc_draw [.own A2 ((madeI x).length) c3 47 3 (encs encD (madeI x)), .row r1 23 [.int .i64 bd.a, .int .i64 bd.b, .int .i64 bd.c]] [(0, true), (1, true), (2, true), (3, true), (4, true), (5, true), (6, true), (7, true), (9, true), (10, true), (11, true), (12, true), (13, true), (16, true), (8, false), (14, false), (15, true)] mixed (by kernel_rfl) (.cons (.head _ _) rfl (.cons (.head _ _) rfl (.nil _))) ?_
  refine cn_ex rfl (ex_move rfl) rfl rfl ?_
  refine cn_ex rfl (ex_move rfl) rfl rfl ?_
  refine cn_ex rfl (ex_indexAddrA (off' := 0) rfl rfl Try.underlying23 sz_3 (by omega) (by omega) (by simp)) rfl rfl ?_
  refine cn_ex rfl (ex_load rfl ag_3 (rd_row1 (.tail (.head _ _)) rfl)) rfl rfl ?_
  refine cn_ex rfl (ex_indexAddrA (off' := 1) rfl rfl Try.underlying23 sz_3 (by omega) (by omega) (by simp)) rfl rfl ?_
  refine cn_ex rfl (ex_load rfl ag_3 (rd_row1 (.tail (.head _ _)) rfl)) rfl rfl ?_
  refine cn_ex rfl (ex_indexAddrA (off' := 2) rfl rfl Try.underlying23 sz_3 (by omega) (by omega) (by simp)) rfl rfl ?_
  refine cn_ex rfl (ex_load rfl ag_3 (rd_row1 (.tail (.head _ _)) rfl)) rfl rfl ?_
  refine cn_ex rfl (ex_move rfl) rfl rfl ?_
  refine cn_ex rfl (ex_move rfl) rfl rfl ?_
  refine cn_ex rfl (ex_len Try.underlying24 rfl) rfl rfl ?_
  refine cn_ex rfl (ex_min rfl rfl) rfl rfl ?_
  refine cn_ex rfl (ex_sliceH0 rfl rfl Try.underlying24 sz_47 (by omega) (by omega)) rfl rfl ?_
  refine cn_ex rfl (ex_move rfl) rfl rfl ?_
  refine cn_tail rfl ?_
  refine wl_callS [.tmp 47, .tmp 49, .tmp 51, .tmp 53] rfl ok_13 rfl (fun w hm => c_Bent A2 c3 (madeI x) bd.a bd.b bd.c w (((sl_own (.head _ _))).at hm)  (by omega) (by assumption) (by assumption) (by assumption)) rfl fun A7 c8 => ?_
  refine cn_back (.cons (.tail (.head _ _)) rfl (.cons (.tail (.head _ _)) rfl (.nil _))) ?_
  rw [hrn]
  refine cn_tail rfl ?_
  refine wl_buildSlice [.tmp 46, .tmp 54, .tmp 59] rfl rfl Try.underlying29 sz_24 ze_24 rfl (by simp [Value.cells]) (by omega) (by omega) rfl fun r9 => ?_
  rw [show List.flatMap (fun x => x.cells.toList) ([.slice A2 ((madeI x).length) c3, .slice A7 ((bentD (madeI x) bd.a bd.b bd.c).length) c8, .slice Ar ((r.take 61).length) cr] : List Value) = encs encV ([.slice A2 ((madeI x).length) c3, .slice A7 ((bentD (madeI x) bd.a bd.b bd.c).length) c8, .slice Ar ((r.take 61).length) cr] : List Value) from rfl]
  refine cn_back (.cons (.tail (.tail (.head _ _))) rfl (.cons (.tail (.tail (.head _ _))) rfl (.nil _))) ?_
  refine cn_ex rfl (ex_len Try.underlying29 rfl) rfl rfl ?_
  refine cn_nil ?_
  refine pe_seq ?_
  refine wc_block ?_
  refine wc_loop (σ := Int) (fun s => [(62, .int .i64 s), (2, .slice Ar r.length cr), (3, .slice Ay y.length cy), (4, .slice Ao o.length co), (6, .pointer (some ⟨r1, 0, none⟩)), (11, .slice A2 ((madeI x).length) c3), (60, .slice (some ⟨r9, 0, none⟩) 3 3), (61, .int .i64 ((3 : Nat) : Int))]) (fun s => [.own (some ⟨r9, 0, none⟩) 3 3 24 1 (encs encV ([.slice A2 ((madeI x).length) c3, .slice A7 ((bentD (madeI x) bd.a bd.b bd.c).length) c8, .slice Ar ((r.take 61).length) cr] : List Value)), .own A7 ((bentD (madeI x) bd.a bd.b bd.c).length) c8 47 3 (encs encD (bentD (madeI x) bd.a bd.b bd.c)), .own A2 ((madeI x).length) c3 47 3 (encs encD (madeI x)), .row r1 23 [.int .i64 bd.a, .int .i64 bd.b, .int .i64 bd.c]]) (fun s => 0 ≤ s ∧ s ≤ 3) (fun s => (3 - s).toNat) (0 : Int) (Sub.cons rfl rfl (Sub.cons rfl rfl (Sub.cons rfl rfl (Sub.cons rfl rfl (Sub.cons rfl rfl (Sub.cons rfl rfl (Sub.cons rfl rfl (Sub.cons rfl rfl (Sub.nil _))))))))) (.cons (.head _ _) rfl (.cons (.head _ _) rfl (.cons (.head _ _) rfl (.cons (.head _ _) rfl (.nil _))))) (by omega) ?_
  rintro iq hG
  show WC _ _ _ [(62, .int .i64 iq), (2, .slice Ar r.length cr), (3, .slice Ay y.length cy), (4, .slice Ao o.length co), (6, .pointer (some ⟨r1, 0, none⟩)), (11, .slice A2 ((madeI x).length) c3), (60, .slice (some ⟨r9, 0, none⟩) 3 3), (61, .int .i64 ((3 : Nat) : Int))] [.own (some ⟨r9, 0, none⟩) 3 3 24 1 (encs encV ([.slice A2 ((madeI x).length) c3, .slice A7 ((bentD (madeI x) bd.a bd.b bd.c).length) c8, .slice Ar ((r.take 61).length) cr] : List Value)), .own A7 ((bentD (madeI x) bd.a bd.b bd.c).length) c8 47 3 (encs encD (bentD (madeI x) bd.a bd.b bd.c)), .own A2 ((madeI x).length) c3 47 3 (encs encD (madeI x)), .row r1 23 [.int .i64 bd.a, .int .i64 bd.b, .int .i64 bd.c]]
  replace hG : 0 ≤ iq ∧ iq ≤ 3 := hG
  obtain ⟨i1, i2⟩ := hG
  refine wc_seq ?_
  refine wc_region ?_
  refine wl_ex (ex_lss rfl rfl) rfl rfl ?_
  refine wl_nil ?_
  refine pe_seq ?_
  refine wc_seq ?_
  refine wc_ite rfl (fun c63 => ?_) (fun c63 => ?_)
  · refine wc_skip ?_
    refine pe_seq ?_
    refine wc_seq ?_
    refine wc_block ?_
    refine wc_seq ?_
    refine wc_region ?_
    refine wl_ex (ex_indexAddrN rfl rfl rfl Try.underlying29 sz_24 (by omega) (by omega)) rfl rfl ?_
    rcases (show iq = 0 ∨ iq = 1 ∨ iq = 2 by omega) with rfl | rfl | rfl
    · refine wl_ex (ex_load rfl ag_24 (rd_enc (j := 0) encV_len (sl_own (.head _ _)) (show ([.slice A2 ((madeI x).length) c3, .slice A7 ((bentD (madeI x) bd.a bd.b bd.c).length) c8, .slice Ar ((r.take 61).length) cr] : List Value)[((0 : Int)).toNat]? = some (.slice A2 ((madeI x).length) c3) from rfl) rfl)) rfl rfl ?_
      refine wl_ex (ex_assign rfl) rfl rfl ?_
      refine wl_nil ?_
      refine pe_seq ?_
      refine wc_seq ?_
      refine wc_region ?_
      refine wl_ex (ex_move rfl) rfl rfl ?_
      refine wl_callS2 [.tmp 67] rfl ok_14 rfl (fun w hm => c_BalancesN A2 c3 (madeI x) w (((sl_own (.tail (.tail (.head _ _))))).at hm)  (by first | omega | assumption)) rfl fun A10 c11 => ?_
      refine wl_ex (ex_move rfl) rfl rfl ?_
      refine wl_ex (ex_extract rfl rfl) rfl rfl ?_
      refine wl_ex (ex_extract rfl rfl) rfl rfl ?_
      refine wl_ex (ex_assign rfl) rfl rfl ?_
      refine wl_ex (ex_assign rfl) rfl rfl ?_
      refine wl_nil ?_
      refine pe_seq ?_
      refine wc_seq ?_
      refine wc_region ?_
      refine wl_ex (ex_move rfl) rfl rfl ?_
      refine wl_callS2 [.tmp 72] rfl ok_15 rfl (fun w hm => c_BalancesR A2 c3 (madeI x) w (((sl_own (.tail (.tail (.tail (.head _ _)))))).at hm)  (by first | omega | assumption)) rfl fun A12 c13 => ?_
      refine wl_ex (ex_move rfl) rfl rfl ?_
      refine wl_ex (ex_extract rfl rfl) rfl rfl ?_
      refine wl_ex (ex_extract rfl rfl) rfl rfl ?_
      refine wl_ex (ex_assign rfl) rfl rfl ?_
      refine wl_ex (ex_assign rfl) rfl rfl ?_
      refine wl_nil ?_
      refine pe_seq ?_
      refine wc_seq ?_
      refine wc_region ?_
      refine wl_ex (ex_move rfl) rfl rfl ?_
      refine wl_callS2 [.tmp 77] rfl ok_16 rfl (fun w hm => c_Pairs A2 c3 (madeI x) w (((sl_own (.tail (.tail (.tail (.tail (.head _ _))))))).at hm)  (by first | omega | assumption)) rfl fun A14 c15 => ?_
      refine wl_ex (ex_move rfl) rfl rfl ?_
      refine wl_ex (ex_extract rfl rfl) rfl rfl ?_
      refine wl_ex (ex_extract rfl rfl) rfl rfl ?_
      refine wl_ex (ex_assign rfl) rfl rfl ?_
      refine wl_ex (ex_assign rfl) rfl rfl ?_
      refine wl_nil ?_
      refine pe_seq ?_
      refine wc_seq ?_
      refine wc_region ?_
      refine wl_ex (ex_move rfl) rfl rfl ?_
      refine wl_callS2 [.tmp 82] rfl ok_17 rfl (fun w hm => c_PairsR A2 c3 (madeI x) w (((sl_own (.tail (.tail (.tail (.tail (.tail (.head _ _)))))))).at hm)  (by first | omega | assumption)) rfl fun A16 c17 => ?_
      refine wl_ex (ex_move rfl) rfl rfl ?_
      refine wl_ex (ex_extract rfl rfl) rfl rfl ?_
      refine wl_ex (ex_extract rfl rfl) rfl rfl ?_
      refine wl_ex (ex_assign rfl) rfl rfl ?_
      refine wl_ex (ex_assign rfl) rfl rfl ?_
      refine wl_nil ?_
      refine pe_seq ?_
      refine wc_seq ?_
      refine wc_region ?_
      refine wl_ex (ex_move rfl) rfl rfl ?_
      refine wl_callS2 [.tmp 87] rfl ok_18 rfl (fun w hm => c_Cycle A2 c3 (madeI x) w (((sl_own (.tail (.tail (.tail (.tail (.tail (.tail (.head _ _))))))))).at hm)  (by first | assumption | omega)) rfl fun A18 c19 => ?_
      refine wl_ex (ex_move rfl) rfl rfl ?_
      refine wl_ex (ex_extract rfl rfl) rfl rfl ?_
      refine wl_ex (ex_extract rfl rfl) rfl rfl ?_
      refine wl_ex (ex_assign rfl) rfl rfl ?_
      refine wl_ex (ex_assign rfl) rfl rfl ?_
      refine wl_nil ?_
      refine pe_seq ?_
      refine wc_seq ?_
      refine wc_region ?_
      refine wl_ex (ex_move rfl) rfl rfl ?_
      refine wl_callS2 [.tmp 92] rfl ok_19 rfl (fun w hm => c_CycleR A2 c3 (madeI x) w (((sl_own (.tail (.tail (.tail (.tail (.tail (.tail (.tail (.head _ _)))))))))).at hm)  (by first | assumption | omega)) rfl fun A20 c21 => ?_
      refine wl_ex (ex_move rfl) rfl rfl ?_
      refine wl_ex (ex_extract rfl rfl) rfl rfl ?_
      refine wl_ex (ex_extract rfl rfl) rfl rfl ?_
      refine wl_ex (ex_assign rfl) rfl rfl ?_
      refine wl_ex (ex_assign rfl) rfl rfl ?_
      refine wl_nil ?_
      refine pe_seq ?_
      refine wc_seq ?_
      refine wc_region ?_
      refine wl_ex (ex_move rfl) rfl rfl ?_
      refine wl_callS2 [.tmp 97] rfl ok_20 rfl (fun w hm => c_Round A2 c3 (madeI x) w (((sl_own (.tail (.tail (.tail (.tail (.tail (.tail (.tail (.tail (.head _ _))))))))))).at hm)  (by first | omega | assumption)) rfl fun A22 c23 => ?_
      refine wl_ex (ex_move rfl) rfl rfl ?_
      refine wl_ex (ex_extract rfl rfl) rfl rfl ?_
      refine wl_ex (ex_extract rfl rfl) rfl rfl ?_
      refine wl_ex (ex_assign rfl) rfl rfl ?_
      refine wl_ex (ex_assign rfl) rfl rfl ?_
      refine wl_nil ?_
      refine pe_seq ?_
      refine wc_seq ?_
      refine wc_region ?_
      refine wl_ex (ex_move rfl) rfl rfl ?_
      refine wl_callS2 [.tmp 102] rfl ok_21 rfl (fun w hm => c_RoundR A2 c3 (madeI x) w (((sl_own (.tail (.tail (.tail (.tail (.tail (.tail (.tail (.tail (.tail (.head _ _)))))))))))).at hm)  (by first | omega | assumption)) rfl fun A24 c25 => ?_
      refine wl_ex (ex_move rfl) rfl rfl ?_
      refine wl_ex (ex_extract rfl rfl) rfl rfl ?_
      refine wl_ex (ex_extract rfl rfl) rfl rfl ?_
      refine wl_ex (ex_assign rfl) rfl rfl ?_
      refine wl_ex (ex_assign rfl) rfl rfl ?_
      refine wl_nil ?_
      refine pe_seq ?_
      refine wc_seq ?_
      refine wc_region ?_
      refine wl_ex (ex_move rfl) rfl rfl ?_
      refine wl_callV [.tmp 106] rfl ok_22 rfl (fun w hm => c_Valid A2 c3 (madeI x) w (((sl_own (.tail (.tail (.tail (.tail (.tail (.tail (.tail (.tail (.tail (.tail (.head _ _))))))))))))).at hm)  (by first | omega | assumption)) rfl ?_
      refine wl_ex (ex_move rfl) rfl rfl ?_
      refine wl_callV [.tmp 108] rfl ok_23 rfl (fun w hm => c_ValidR A2 c3 (madeI x) w (((sl_own (.tail (.tail (.tail (.tail (.tail (.tail (.tail (.tail (.tail (.tail (.head _ _))))))))))))).at hm)  (by assumption)) rfl ?_
      refine wl_ex (ex_bneq Try.underlying4 rfl rfl) rfl rfl ?_
      refine wl_ex (ex_move rfl) rfl rfl ?_
      refine wl_pass rfl rfl rfl (decide_eq_false (fun e => e rfl)) ?_
      refine wl_ex (ex_move rfl) rfl rfl ?_
      refine wl_pass rfl rfl rfl (decide_eq_false (fun e => e rfl)) ?_
      refine wl_ex (ex_move rfl) rfl rfl ?_
      refine wl_pass rfl rfl rfl (decide_eq_false (fun e => e rfl)) ?_
      refine wl_ex (ex_neq rfl rfl) rfl rfl ?_
      refine wl_ex (ex_pickf rfl (decide_eq_false (fun e => e rfl)) rfl) rfl rfl ?_
      refine wl_ex (ex_move rfl) rfl rfl ?_
      refine wl_pass rfl rfl rfl (decide_eq_false (fun e => e rfl)) ?_
      refine wl_ex (ex_move rfl) rfl rfl ?_
      refine wl_pass rfl rfl rfl (decide_eq_false (fun e => e rfl)) ?_
      refine wl_ex (ex_move rfl) rfl rfl ?_
      refine wl_pass rfl rfl rfl (decide_eq_false (fun e => e rfl)) ?_
      refine wl_callV [.tmp 117, .tmp 118] rfl ok_24 rfl (fun w hm => c_Ints A10 c11 (balR (madeI x)) A12 c13 (balR (madeI x)) w (((sl_own (.tail (.tail (.tail (.tail (.tail (.tail (.tail (.head _ _)))))))))).at hm) (((sl_own (.tail (.tail (.tail (.tail (.tail (.tail (.head _ _))))))))).at hm)  (by first | omega | assumption | (simp; omega))) rfl ?_
      refine wl_pass rfl rfl rfl (decide_eq_false (fun e => e rfl)) ?_
      refine wl_ex (ex_not rfl) rfl rfl ?_
      refine wl_ex (ex_pickf rfl (decide_eq_false (fun e => e rfl)) rfl) rfl rfl ?_
      refine wl_ex (ex_move rfl) rfl rfl ?_
      refine wl_pass rfl rfl rfl (decide_eq_false (fun e => e rfl)) ?_
      refine wl_ex (ex_move rfl) rfl rfl ?_
      refine wl_pass rfl rfl rfl (decide_eq_false (fun e => e rfl)) ?_
      refine wl_ex (ex_move rfl) rfl rfl ?_
      refine wl_pass rfl rfl rfl (decide_eq_false (fun e => e rfl)) ?_
      refine wl_ex (ex_neq rfl rfl) rfl rfl ?_
      refine wl_ex (ex_pickf rfl (decide_eq_false (fun e => e rfl)) rfl) rfl rfl ?_
      refine wl_ex (ex_move rfl) rfl rfl ?_
      refine wl_pass rfl rfl rfl (decide_eq_false (fun e => e rfl)) ?_
      refine wl_ex (ex_move rfl) rfl rfl ?_
      refine wl_pass rfl rfl rfl (decide_eq_false (fun e => e rfl)) ?_
      refine wl_ex (ex_move rfl) rfl rfl ?_
      refine wl_pass rfl rfl rfl (decide_eq_false (fun e => e rfl)) ?_
      refine wl_callV [.tmp 128, .tmp 129] rfl ok_25 rfl (fun w hm => c_Same A14 c15 (pairR (madeI x)) A16 c17 (pairR (madeI x)) w (((sl_own (.tail (.tail (.tail (.tail (.tail (.head _ _)))))))).at hm) (((sl_own (.tail (.tail (.tail (.tail (.head _ _))))))).at hm)  (by first | omega | assumption | (simp; omega))) rfl ?_
      refine wl_pass rfl rfl rfl (decide_eq_false (fun e => e rfl)) ?_
      refine wl_ex (ex_not rfl) rfl rfl ?_
      refine wl_ex (ex_pickf rfl (decide_eq_false (fun e => e rfl)) rfl) rfl rfl ?_
      refine wl_ex (ex_move rfl) rfl rfl ?_
      refine wl_pass rfl rfl rfl (decide_eq_false (fun e => e rfl)) ?_
      refine wl_ex (ex_move rfl) rfl rfl ?_
      refine wl_pass rfl rfl rfl (decide_eq_false (fun e => e rfl)) ?_
      refine wl_ex (ex_move rfl) rfl rfl ?_
      refine wl_pass rfl rfl rfl (decide_eq_false (fun e => e rfl)) ?_
      refine wl_ex (ex_bneq Try.underlying4 rfl rfl) rfl rfl ?_
      refine wl_ex (ex_pickf rfl (decide_eq_false (fun e => e rfl)) rfl) rfl rfl ?_
      refine wl_ex (ex_move rfl) rfl rfl ?_
      refine wl_pass rfl rfl rfl (decide_eq_false (fun e => e rfl)) ?_
      refine wl_ex (ex_move rfl) rfl rfl ?_
      refine wl_pass rfl rfl rfl (decide_eq_false (fun e => e rfl)) ?_
      refine wl_ex (ex_move rfl) rfl rfl ?_
      refine wl_pass rfl rfl rfl (decide_eq_false (fun e => e rfl)) ?_
      refine wl_callV [.tmp 139, .tmp 140] rfl ok_24 rfl (fun w hm => c_Ints A18 c19 (cycL (cycI (madeI x))) A20 c21 (cycL (cycI (madeI x))) w (((sl_own (.tail (.tail (.tail (.head _ _)))))).at hm) (((sl_own (.tail (.tail (.head _ _))))).at hm)  (by first | omega | assumption | (simp; omega))) rfl ?_
      refine wl_pass rfl rfl rfl (decide_eq_false (fun e => e rfl)) ?_
      refine wl_ex (ex_not rfl) rfl rfl ?_
      refine wl_ex (ex_pickf rfl (decide_eq_false (fun e => e rfl)) rfl) rfl rfl ?_
      refine wl_ex (ex_move rfl) rfl rfl ?_
      refine wl_pass rfl rfl rfl (decide_eq_false (fun e => e rfl)) ?_
      refine wl_ex (ex_move rfl) rfl rfl ?_
      refine wl_pass rfl rfl rfl (decide_eq_false (fun e => e rfl)) ?_
      refine wl_ex (ex_move rfl) rfl rfl ?_
      refine wl_pass rfl rfl rfl (decide_eq_false (fun e => e rfl)) ?_
      refine wl_ex (ex_neq rfl rfl) rfl rfl ?_
      refine wl_ex (ex_pickf rfl (decide_eq_false (fun e => e rfl)) rfl) rfl rfl ?_
      refine wl_ex (ex_move rfl) rfl rfl ?_
      refine wl_pass rfl rfl rfl (decide_eq_false (fun e => e rfl)) ?_
      refine wl_ex (ex_move rfl) rfl rfl ?_
      refine wl_pass rfl rfl rfl (decide_eq_false (fun e => e rfl)) ?_
      refine wl_ex (ex_move rfl) rfl rfl ?_
      refine wl_pass rfl rfl rfl (decide_eq_false (fun e => e rfl)) ?_
      refine wl_callV [.tmp 150, .tmp 151] rfl ok_25 rfl (fun w hm => c_Same A22 c23 (rndR (madeI x)) A24 c25 (rndR (madeI x)) w (((sl_own (.tail (.head _ _)))).at hm) (((sl_own (.head _ _))).at hm)  (by first | omega | assumption | (simp; omega))) rfl ?_
      refine wl_pass rfl rfl rfl (decide_eq_false (fun e => e rfl)) ?_
      refine wl_ex (ex_not rfl) rfl rfl ?_
      refine wl_ex (ex_pickf rfl (decide_eq_false (fun e => e rfl)) rfl) rfl rfl ?_
      refine wl_nil ?_
      refine pe_seq ?_
      refine wc_ite rfl (fun c154 => absurd c154 (fun e => e rfl)) (fun c154 => ?_)
      refine wc_skip ?_
      refine pe_block _ ?_
      refine pe_seq ?_
      refine wc_region ?_
      refine wl_ex (ex_add rfl rfl (by omega) (by omega)) rfl rfl ?_
      refine wl_ex (ex_move rfl) rfl rfl ?_
      refine wl_nil ?_
      refine pe_again ((0 : Int) + 1) (Sub.cons rfl rfl (Sub.cons rfl rfl (Sub.cons rfl rfl (Sub.cons rfl rfl (Sub.cons rfl rfl (Sub.cons rfl rfl (Sub.cons rfl rfl (Sub.cons rfl rfl (Sub.nil _))))))))) (.cons (.tail (.tail (.tail (.tail (.tail (.tail (.tail (.tail (.head _ _))))))))) rfl (.cons (.tail (.tail (.tail (.tail (.tail (.tail (.tail (.tail (.head _ _))))))))) rfl (.cons (.tail (.tail (.tail (.tail (.tail (.tail (.tail (.tail (.head _ _))))))))) rfl (.cons (.tail (.tail (.tail (.tail (.tail (.tail (.tail (.tail (.head _ _))))))))) rfl (.nil _))))) ?_ ?_
      · show 0 ≤ ((0 : Int) + 1) ∧ ((0 : Int) + 1) ≤ 3
        omega
      · first | omega | (simp only []; omega)
    · refine wl_ex (ex_load rfl ag_24 (rd_enc (j := 0) encV_len (sl_own (.head _ _)) (show ([.slice A2 ((madeI x).length) c3, .slice A7 ((bentD (madeI x) bd.a bd.b bd.c).length) c8, .slice Ar ((r.take 61).length) cr] : List Value)[((1 : Int)).toNat]? = some (.slice A7 ((bentD (madeI x) bd.a bd.b bd.c).length) c8) from rfl) rfl)) rfl rfl ?_
      refine wl_ex (ex_assign rfl) rfl rfl ?_
      refine wl_nil ?_
      refine pe_seq ?_
      refine wc_seq ?_
      refine wc_region ?_
      refine wl_ex (ex_move rfl) rfl rfl ?_
      refine wl_callS2 [.tmp 67] rfl ok_14 rfl (fun w hm => c_BalancesN A7 c8 (bentD (madeI x) bd.a bd.b bd.c) w (((sl_own (.tail (.head _ _)))).at hm)  (by first | omega | assumption)) rfl fun A26 c27 => ?_
      refine wl_ex (ex_move rfl) rfl rfl ?_
      refine wl_ex (ex_extract rfl rfl) rfl rfl ?_
      refine wl_ex (ex_extract rfl rfl) rfl rfl ?_
      refine wl_ex (ex_assign rfl) rfl rfl ?_
      refine wl_ex (ex_assign rfl) rfl rfl ?_
      refine wl_nil ?_
      refine pe_seq ?_
      refine wc_seq ?_
      refine wc_region ?_
      refine wl_ex (ex_move rfl) rfl rfl ?_
      refine wl_callS2 [.tmp 72] rfl ok_15 rfl (fun w hm => c_BalancesR A7 c8 (bentD (madeI x) bd.a bd.b bd.c) w (((sl_own (.tail (.tail (.head _ _))))).at hm)  (by first | omega | assumption)) rfl fun A28 c29 => ?_
      refine wl_ex (ex_move rfl) rfl rfl ?_
      refine wl_ex (ex_extract rfl rfl) rfl rfl ?_
      refine wl_ex (ex_extract rfl rfl) rfl rfl ?_
      refine wl_ex (ex_assign rfl) rfl rfl ?_
      refine wl_ex (ex_assign rfl) rfl rfl ?_
      refine wl_nil ?_
      refine pe_seq ?_
      refine wc_seq ?_
      refine wc_region ?_
      refine wl_ex (ex_move rfl) rfl rfl ?_
      refine wl_callS2 [.tmp 77] rfl ok_16 rfl (fun w hm => c_Pairs A7 c8 (bentD (madeI x) bd.a bd.b bd.c) w (((sl_own (.tail (.tail (.tail (.head _ _)))))).at hm)  (by first | omega | assumption)) rfl fun A30 c31 => ?_
      refine wl_ex (ex_move rfl) rfl rfl ?_
      refine wl_ex (ex_extract rfl rfl) rfl rfl ?_
      refine wl_ex (ex_extract rfl rfl) rfl rfl ?_
      refine wl_ex (ex_assign rfl) rfl rfl ?_
      refine wl_ex (ex_assign rfl) rfl rfl ?_
      refine wl_nil ?_
      refine pe_seq ?_
      refine wc_seq ?_
      refine wc_region ?_
      refine wl_ex (ex_move rfl) rfl rfl ?_
      refine wl_callS2 [.tmp 82] rfl ok_17 rfl (fun w hm => c_PairsR A7 c8 (bentD (madeI x) bd.a bd.b bd.c) w (((sl_own (.tail (.tail (.tail (.tail (.head _ _))))))).at hm)  (by first | omega | assumption)) rfl fun A32 c33 => ?_
      refine wl_ex (ex_move rfl) rfl rfl ?_
      refine wl_ex (ex_extract rfl rfl) rfl rfl ?_
      refine wl_ex (ex_extract rfl rfl) rfl rfl ?_
      refine wl_ex (ex_assign rfl) rfl rfl ?_
      refine wl_ex (ex_assign rfl) rfl rfl ?_
      refine wl_nil ?_
      refine pe_seq ?_
      refine wc_seq ?_
      refine wc_region ?_
      refine wl_ex (ex_move rfl) rfl rfl ?_
      refine wl_callS2 [.tmp 87] rfl ok_18 rfl (fun w hm => c_Cycle A7 c8 (bentD (madeI x) bd.a bd.b bd.c) w (((sl_own (.tail (.tail (.tail (.tail (.tail (.head _ _)))))))).at hm)  (by first | assumption | omega)) rfl fun A34 c35 => ?_
      refine wl_ex (ex_move rfl) rfl rfl ?_
      refine wl_ex (ex_extract rfl rfl) rfl rfl ?_
      refine wl_ex (ex_extract rfl rfl) rfl rfl ?_
      refine wl_ex (ex_assign rfl) rfl rfl ?_
      refine wl_ex (ex_assign rfl) rfl rfl ?_
      refine wl_nil ?_
      refine pe_seq ?_
      refine wc_seq ?_
      refine wc_region ?_
      refine wl_ex (ex_move rfl) rfl rfl ?_
      refine wl_callS2 [.tmp 92] rfl ok_19 rfl (fun w hm => c_CycleR A7 c8 (bentD (madeI x) bd.a bd.b bd.c) w (((sl_own (.tail (.tail (.tail (.tail (.tail (.tail (.head _ _))))))))).at hm)  (by first | assumption | omega)) rfl fun A36 c37 => ?_
      refine wl_ex (ex_move rfl) rfl rfl ?_
      refine wl_ex (ex_extract rfl rfl) rfl rfl ?_
      refine wl_ex (ex_extract rfl rfl) rfl rfl ?_
      refine wl_ex (ex_assign rfl) rfl rfl ?_
      refine wl_ex (ex_assign rfl) rfl rfl ?_
      refine wl_nil ?_
      refine pe_seq ?_
      refine wc_seq ?_
      refine wc_region ?_
      refine wl_ex (ex_move rfl) rfl rfl ?_
      refine wl_callS2 [.tmp 97] rfl ok_20 rfl (fun w hm => c_Round A7 c8 (bentD (madeI x) bd.a bd.b bd.c) w (((sl_own (.tail (.tail (.tail (.tail (.tail (.tail (.tail (.head _ _)))))))))).at hm)  (by first | omega | assumption)) rfl fun A38 c39 => ?_
      refine wl_ex (ex_move rfl) rfl rfl ?_
      refine wl_ex (ex_extract rfl rfl) rfl rfl ?_
      refine wl_ex (ex_extract rfl rfl) rfl rfl ?_
      refine wl_ex (ex_assign rfl) rfl rfl ?_
      refine wl_ex (ex_assign rfl) rfl rfl ?_
      refine wl_nil ?_
      refine pe_seq ?_
      refine wc_seq ?_
      refine wc_region ?_
      refine wl_ex (ex_move rfl) rfl rfl ?_
      refine wl_callS2 [.tmp 102] rfl ok_21 rfl (fun w hm => c_RoundR A7 c8 (bentD (madeI x) bd.a bd.b bd.c) w (((sl_own (.tail (.tail (.tail (.tail (.tail (.tail (.tail (.tail (.head _ _))))))))))).at hm)  (by first | omega | assumption)) rfl fun A40 c41 => ?_
      refine wl_ex (ex_move rfl) rfl rfl ?_
      refine wl_ex (ex_extract rfl rfl) rfl rfl ?_
      refine wl_ex (ex_extract rfl rfl) rfl rfl ?_
      refine wl_ex (ex_assign rfl) rfl rfl ?_
      refine wl_ex (ex_assign rfl) rfl rfl ?_
      refine wl_nil ?_
      refine pe_seq ?_
      refine wc_seq ?_
      refine wc_region ?_
      refine wl_ex (ex_move rfl) rfl rfl ?_
      refine wl_callV [.tmp 106] rfl ok_22 rfl (fun w hm => c_Valid A7 c8 (bentD (madeI x) bd.a bd.b bd.c) w (((sl_own (.tail (.tail (.tail (.tail (.tail (.tail (.tail (.tail (.tail (.head _ _)))))))))))).at hm)  (by first | omega | assumption)) rfl ?_
      refine wl_ex (ex_move rfl) rfl rfl ?_
      refine wl_callV [.tmp 108] rfl ok_23 rfl (fun w hm => c_ValidR A7 c8 (bentD (madeI x) bd.a bd.b bd.c) w (((sl_own (.tail (.tail (.tail (.tail (.tail (.tail (.tail (.tail (.tail (.head _ _)))))))))))).at hm)  (by assumption)) rfl ?_
      refine wl_ex (ex_bneq Try.underlying4 rfl rfl) rfl rfl ?_
      refine wl_ex (ex_move rfl) rfl rfl ?_
      refine wl_pass rfl rfl rfl (decide_eq_false (fun e => e rfl)) ?_
      refine wl_ex (ex_move rfl) rfl rfl ?_
      refine wl_pass rfl rfl rfl (decide_eq_false (fun e => e rfl)) ?_
      refine wl_ex (ex_move rfl) rfl rfl ?_
      refine wl_pass rfl rfl rfl (decide_eq_false (fun e => e rfl)) ?_
      refine wl_ex (ex_neq rfl rfl) rfl rfl ?_
      refine wl_ex (ex_pickf rfl (decide_eq_false (fun e => e rfl)) rfl) rfl rfl ?_
      refine wl_ex (ex_move rfl) rfl rfl ?_
      refine wl_pass rfl rfl rfl (decide_eq_false (fun e => e rfl)) ?_
      refine wl_ex (ex_move rfl) rfl rfl ?_
      refine wl_pass rfl rfl rfl (decide_eq_false (fun e => e rfl)) ?_
      refine wl_ex (ex_move rfl) rfl rfl ?_
      refine wl_pass rfl rfl rfl (decide_eq_false (fun e => e rfl)) ?_
      refine wl_callV [.tmp 117, .tmp 118] rfl ok_24 rfl (fun w hm => c_Ints A26 c27 (balR (bentD (madeI x) bd.a bd.b bd.c)) A28 c29 (balR (bentD (madeI x) bd.a bd.b bd.c)) w (((sl_own (.tail (.tail (.tail (.tail (.tail (.tail (.tail (.head _ _)))))))))).at hm) (((sl_own (.tail (.tail (.tail (.tail (.tail (.tail (.head _ _))))))))).at hm)  (by first | omega | assumption | (simp; omega))) rfl ?_
      refine wl_pass rfl rfl rfl (decide_eq_false (fun e => e rfl)) ?_
      refine wl_ex (ex_not rfl) rfl rfl ?_
      refine wl_ex (ex_pickf rfl (decide_eq_false (fun e => e rfl)) rfl) rfl rfl ?_
      refine wl_ex (ex_move rfl) rfl rfl ?_
      refine wl_pass rfl rfl rfl (decide_eq_false (fun e => e rfl)) ?_
      refine wl_ex (ex_move rfl) rfl rfl ?_
      refine wl_pass rfl rfl rfl (decide_eq_false (fun e => e rfl)) ?_
      refine wl_ex (ex_move rfl) rfl rfl ?_
      refine wl_pass rfl rfl rfl (decide_eq_false (fun e => e rfl)) ?_
      refine wl_ex (ex_neq rfl rfl) rfl rfl ?_
      refine wl_ex (ex_pickf rfl (decide_eq_false (fun e => e rfl)) rfl) rfl rfl ?_
      refine wl_ex (ex_move rfl) rfl rfl ?_
      refine wl_pass rfl rfl rfl (decide_eq_false (fun e => e rfl)) ?_
      refine wl_ex (ex_move rfl) rfl rfl ?_
      refine wl_pass rfl rfl rfl (decide_eq_false (fun e => e rfl)) ?_
      refine wl_ex (ex_move rfl) rfl rfl ?_
      refine wl_pass rfl rfl rfl (decide_eq_false (fun e => e rfl)) ?_
      refine wl_callV [.tmp 128, .tmp 129] rfl ok_25 rfl (fun w hm => c_Same A30 c31 (pairR (bentD (madeI x) bd.a bd.b bd.c)) A32 c33 (pairR (bentD (madeI x) bd.a bd.b bd.c)) w (((sl_own (.tail (.tail (.tail (.tail (.tail (.head _ _)))))))).at hm) (((sl_own (.tail (.tail (.tail (.tail (.head _ _))))))).at hm)  (by first | omega | assumption | (simp; omega))) rfl ?_
      refine wl_pass rfl rfl rfl (decide_eq_false (fun e => e rfl)) ?_
      refine wl_ex (ex_not rfl) rfl rfl ?_
      refine wl_ex (ex_pickf rfl (decide_eq_false (fun e => e rfl)) rfl) rfl rfl ?_
      refine wl_ex (ex_move rfl) rfl rfl ?_
      refine wl_pass rfl rfl rfl (decide_eq_false (fun e => e rfl)) ?_
      refine wl_ex (ex_move rfl) rfl rfl ?_
      refine wl_pass rfl rfl rfl (decide_eq_false (fun e => e rfl)) ?_
      refine wl_ex (ex_move rfl) rfl rfl ?_
      refine wl_pass rfl rfl rfl (decide_eq_false (fun e => e rfl)) ?_
      refine wl_ex (ex_bneq Try.underlying4 rfl rfl) rfl rfl ?_
      refine wl_ex (ex_pickf rfl (decide_eq_false (fun e => e rfl)) rfl) rfl rfl ?_
      refine wl_ex (ex_move rfl) rfl rfl ?_
      refine wl_pass rfl rfl rfl (decide_eq_false (fun e => e rfl)) ?_
      refine wl_ex (ex_move rfl) rfl rfl ?_
      refine wl_pass rfl rfl rfl (decide_eq_false (fun e => e rfl)) ?_
      refine wl_ex (ex_move rfl) rfl rfl ?_
      refine wl_pass rfl rfl rfl (decide_eq_false (fun e => e rfl)) ?_
      refine wl_callV [.tmp 139, .tmp 140] rfl ok_24 rfl (fun w hm => c_Ints A34 c35 (cycL (cycI (bentD (madeI x) bd.a bd.b bd.c))) A36 c37 (cycL (cycI (bentD (madeI x) bd.a bd.b bd.c))) w (((sl_own (.tail (.tail (.tail (.head _ _)))))).at hm) (((sl_own (.tail (.tail (.head _ _))))).at hm)  (by first | omega | assumption | (simp; omega))) rfl ?_
      refine wl_pass rfl rfl rfl (decide_eq_false (fun e => e rfl)) ?_
      refine wl_ex (ex_not rfl) rfl rfl ?_
      refine wl_ex (ex_pickf rfl (decide_eq_false (fun e => e rfl)) rfl) rfl rfl ?_
      refine wl_ex (ex_move rfl) rfl rfl ?_
      refine wl_pass rfl rfl rfl (decide_eq_false (fun e => e rfl)) ?_
      refine wl_ex (ex_move rfl) rfl rfl ?_
      refine wl_pass rfl rfl rfl (decide_eq_false (fun e => e rfl)) ?_
      refine wl_ex (ex_move rfl) rfl rfl ?_
      refine wl_pass rfl rfl rfl (decide_eq_false (fun e => e rfl)) ?_
      refine wl_ex (ex_neq rfl rfl) rfl rfl ?_
      refine wl_ex (ex_pickf rfl (decide_eq_false (fun e => e rfl)) rfl) rfl rfl ?_
      refine wl_ex (ex_move rfl) rfl rfl ?_
      refine wl_pass rfl rfl rfl (decide_eq_false (fun e => e rfl)) ?_
      refine wl_ex (ex_move rfl) rfl rfl ?_
      refine wl_pass rfl rfl rfl (decide_eq_false (fun e => e rfl)) ?_
      refine wl_ex (ex_move rfl) rfl rfl ?_
      refine wl_pass rfl rfl rfl (decide_eq_false (fun e => e rfl)) ?_
      refine wl_callV [.tmp 150, .tmp 151] rfl ok_25 rfl (fun w hm => c_Same A38 c39 (rndR (bentD (madeI x) bd.a bd.b bd.c)) A40 c41 (rndR (bentD (madeI x) bd.a bd.b bd.c)) w (((sl_own (.tail (.head _ _)))).at hm) (((sl_own (.head _ _))).at hm)  (by first | omega | assumption | (simp; omega))) rfl ?_
      refine wl_pass rfl rfl rfl (decide_eq_false (fun e => e rfl)) ?_
      refine wl_ex (ex_not rfl) rfl rfl ?_
      refine wl_ex (ex_pickf rfl (decide_eq_false (fun e => e rfl)) rfl) rfl rfl ?_
      refine wl_nil ?_
      refine pe_seq ?_
      refine wc_ite rfl (fun c154 => absurd c154 (fun e => e rfl)) (fun c154 => ?_)
      refine wc_skip ?_
      refine pe_block _ ?_
      refine pe_seq ?_
      refine wc_region ?_
      refine wl_ex (ex_add rfl rfl (by omega) (by omega)) rfl rfl ?_
      refine wl_ex (ex_move rfl) rfl rfl ?_
      refine wl_nil ?_
      refine pe_again ((1 : Int) + 1) (Sub.cons rfl rfl (Sub.cons rfl rfl (Sub.cons rfl rfl (Sub.cons rfl rfl (Sub.cons rfl rfl (Sub.cons rfl rfl (Sub.cons rfl rfl (Sub.cons rfl rfl (Sub.nil _))))))))) (.cons (.tail (.tail (.tail (.tail (.tail (.tail (.tail (.tail (.head _ _))))))))) rfl (.cons (.tail (.tail (.tail (.tail (.tail (.tail (.tail (.tail (.head _ _))))))))) rfl (.cons (.tail (.tail (.tail (.tail (.tail (.tail (.tail (.tail (.head _ _))))))))) rfl (.cons (.tail (.tail (.tail (.tail (.tail (.tail (.tail (.tail (.head _ _))))))))) rfl (.nil _))))) ?_ ?_
      · show 0 ≤ ((1 : Int) + 1) ∧ ((1 : Int) + 1) ≤ 3
        omega
      · first | omega | (simp only []; omega)
    · refine wl_ex (ex_load rfl ag_24 (rd_enc (j := 0) encV_len (sl_own (.head _ _)) (show ([.slice A2 ((madeI x).length) c3, .slice A7 ((bentD (madeI x) bd.a bd.b bd.c).length) c8, .slice Ar ((r.take 61).length) cr] : List Value)[((2 : Int)).toNat]? = some (.slice Ar ((r.take 61).length) cr) from rfl) rfl)) rfl rfl ?_
      refine wl_ex (ex_assign rfl) rfl rfl ?_
      refine wl_nil ?_
      refine pe_seq ?_
      refine wc_seq ?_
      refine wc_region ?_
      refine wl_ex (ex_move rfl) rfl rfl ?_
      refine wl_callS2 [.tmp 67] rfl ok_14 rfl (fun w hm => c_BalancesN Ar cr (r.take 61) w (((sl_arg hrt rfl)).at hm)  (by first | omega | assumption)) rfl fun A42 c43 => ?_
      refine wl_ex (ex_move rfl) rfl rfl ?_
      refine wl_ex (ex_extract rfl rfl) rfl rfl ?_
      refine wl_ex (ex_extract rfl rfl) rfl rfl ?_
      refine wl_ex (ex_assign rfl) rfl rfl ?_
      refine wl_ex (ex_assign rfl) rfl rfl ?_
      refine wl_nil ?_
      refine pe_seq ?_
      refine wc_seq ?_
      refine wc_region ?_
      refine wl_ex (ex_move rfl) rfl rfl ?_
      refine wl_callS2 [.tmp 72] rfl ok_15 rfl (fun w hm => c_BalancesR Ar cr (r.take 61) w (((sl_arg hrt rfl)).at hm)  (by first | omega | assumption)) rfl fun A44 c45 => ?_
      refine wl_ex (ex_move rfl) rfl rfl ?_
      refine wl_ex (ex_extract rfl rfl) rfl rfl ?_
      refine wl_ex (ex_extract rfl rfl) rfl rfl ?_
      refine wl_ex (ex_assign rfl) rfl rfl ?_
      refine wl_ex (ex_assign rfl) rfl rfl ?_
      refine wl_nil ?_
      refine pe_seq ?_
      refine wc_seq ?_
      refine wc_region ?_
      refine wl_ex (ex_move rfl) rfl rfl ?_
      refine wl_callS2 [.tmp 77] rfl ok_16 rfl (fun w hm => c_Pairs Ar cr (r.take 61) w (((sl_arg hrt rfl)).at hm)  (by first | omega | assumption)) rfl fun A46 c47 => ?_
      refine wl_ex (ex_move rfl) rfl rfl ?_
      refine wl_ex (ex_extract rfl rfl) rfl rfl ?_
      refine wl_ex (ex_extract rfl rfl) rfl rfl ?_
      refine wl_ex (ex_assign rfl) rfl rfl ?_
      refine wl_ex (ex_assign rfl) rfl rfl ?_
      refine wl_nil ?_
      refine pe_seq ?_
      refine wc_seq ?_
      refine wc_region ?_
      refine wl_ex (ex_move rfl) rfl rfl ?_
      refine wl_callS2 [.tmp 82] rfl ok_17 rfl (fun w hm => c_PairsR Ar cr (r.take 61) w (((sl_arg hrt rfl)).at hm)  (by first | omega | assumption)) rfl fun A48 c49 => ?_
      refine wl_ex (ex_move rfl) rfl rfl ?_
      refine wl_ex (ex_extract rfl rfl) rfl rfl ?_
      refine wl_ex (ex_extract rfl rfl) rfl rfl ?_
      refine wl_ex (ex_assign rfl) rfl rfl ?_
      refine wl_ex (ex_assign rfl) rfl rfl ?_
      refine wl_nil ?_
      refine pe_seq ?_
      refine wc_seq ?_
      refine wc_region ?_
      refine wl_ex (ex_move rfl) rfl rfl ?_
      refine wl_callS2 [.tmp 87] rfl ok_18 rfl (fun w hm => c_Cycle Ar cr (r.take 61) w (((sl_arg hrt rfl)).at hm)  (by first | assumption | omega)) rfl fun A50 c51 => ?_
      refine wl_ex (ex_move rfl) rfl rfl ?_
      refine wl_ex (ex_extract rfl rfl) rfl rfl ?_
      refine wl_ex (ex_extract rfl rfl) rfl rfl ?_
      refine wl_ex (ex_assign rfl) rfl rfl ?_
      refine wl_ex (ex_assign rfl) rfl rfl ?_
      refine wl_nil ?_
      refine pe_seq ?_
      refine wc_seq ?_
      refine wc_region ?_
      refine wl_ex (ex_move rfl) rfl rfl ?_
      refine wl_callS2 [.tmp 92] rfl ok_19 rfl (fun w hm => c_CycleR Ar cr (r.take 61) w (((sl_arg hrt rfl)).at hm)  (by first | assumption | omega)) rfl fun A52 c53 => ?_
      refine wl_ex (ex_move rfl) rfl rfl ?_
      refine wl_ex (ex_extract rfl rfl) rfl rfl ?_
      refine wl_ex (ex_extract rfl rfl) rfl rfl ?_
      refine wl_ex (ex_assign rfl) rfl rfl ?_
      refine wl_ex (ex_assign rfl) rfl rfl ?_
      refine wl_nil ?_
      refine pe_seq ?_
      refine wc_seq ?_
      refine wc_region ?_
      refine wl_ex (ex_move rfl) rfl rfl ?_
      refine wl_callS2 [.tmp 97] rfl ok_20 rfl (fun w hm => c_Round Ar cr (r.take 61) w (((sl_arg hrt rfl)).at hm)  (by first | omega | assumption)) rfl fun A54 c55 => ?_
      refine wl_ex (ex_move rfl) rfl rfl ?_
      refine wl_ex (ex_extract rfl rfl) rfl rfl ?_
      refine wl_ex (ex_extract rfl rfl) rfl rfl ?_
      refine wl_ex (ex_assign rfl) rfl rfl ?_
      refine wl_ex (ex_assign rfl) rfl rfl ?_
      refine wl_nil ?_
      refine pe_seq ?_
      refine wc_seq ?_
      refine wc_region ?_
      refine wl_ex (ex_move rfl) rfl rfl ?_
      refine wl_callS2 [.tmp 102] rfl ok_21 rfl (fun w hm => c_RoundR Ar cr (r.take 61) w (((sl_arg hrt rfl)).at hm)  (by first | omega | assumption)) rfl fun A56 c57 => ?_
      refine wl_ex (ex_move rfl) rfl rfl ?_
      refine wl_ex (ex_extract rfl rfl) rfl rfl ?_
      refine wl_ex (ex_extract rfl rfl) rfl rfl ?_
      refine wl_ex (ex_assign rfl) rfl rfl ?_
      refine wl_ex (ex_assign rfl) rfl rfl ?_
      refine wl_nil ?_
      refine pe_seq ?_
      refine wc_seq ?_
      refine wc_region ?_
      refine wl_ex (ex_move rfl) rfl rfl ?_
      refine wl_callV [.tmp 106] rfl ok_22 rfl (fun w hm => c_Valid Ar cr (r.take 61) w (((sl_arg hrt rfl)).at hm)  (by first | omega | assumption)) rfl ?_
      refine wl_ex (ex_move rfl) rfl rfl ?_
      refine wl_callV [.tmp 108] rfl ok_23 rfl (fun w hm => c_ValidR Ar cr (r.take 61) w (((sl_arg hrt rfl)).at hm)  (by assumption)) rfl ?_
      refine wl_ex (ex_bneq Try.underlying4 rfl rfl) rfl rfl ?_
      refine wl_ex (ex_move rfl) rfl rfl ?_
      refine wl_pass rfl rfl rfl (decide_eq_false (fun e => e rfl)) ?_
      refine wl_ex (ex_move rfl) rfl rfl ?_
      refine wl_pass rfl rfl rfl (decide_eq_false (fun e => e rfl)) ?_
      refine wl_ex (ex_move rfl) rfl rfl ?_
      refine wl_pass rfl rfl rfl (decide_eq_false (fun e => e rfl)) ?_
      refine wl_ex (ex_neq rfl rfl) rfl rfl ?_
      refine wl_ex (ex_pickf rfl (decide_eq_false (fun e => e rfl)) rfl) rfl rfl ?_
      refine wl_ex (ex_move rfl) rfl rfl ?_
      refine wl_pass rfl rfl rfl (decide_eq_false (fun e => e rfl)) ?_
      refine wl_ex (ex_move rfl) rfl rfl ?_
      refine wl_pass rfl rfl rfl (decide_eq_false (fun e => e rfl)) ?_
      refine wl_ex (ex_move rfl) rfl rfl ?_
      refine wl_pass rfl rfl rfl (decide_eq_false (fun e => e rfl)) ?_
      refine wl_callV [.tmp 117, .tmp 118] rfl ok_24 rfl (fun w hm => c_Ints A42 c43 (balR (r.take 61)) A44 c45 (balR (r.take 61)) w (((sl_own (.tail (.tail (.tail (.tail (.tail (.tail (.tail (.head _ _)))))))))).at hm) (((sl_own (.tail (.tail (.tail (.tail (.tail (.tail (.head _ _))))))))).at hm)  (by first | omega | assumption | (simp; omega))) rfl ?_
      refine wl_pass rfl rfl rfl (decide_eq_false (fun e => e rfl)) ?_
      refine wl_ex (ex_not rfl) rfl rfl ?_
      refine wl_ex (ex_pickf rfl (decide_eq_false (fun e => e rfl)) rfl) rfl rfl ?_
      refine wl_ex (ex_move rfl) rfl rfl ?_
      refine wl_pass rfl rfl rfl (decide_eq_false (fun e => e rfl)) ?_
      refine wl_ex (ex_move rfl) rfl rfl ?_
      refine wl_pass rfl rfl rfl (decide_eq_false (fun e => e rfl)) ?_
      refine wl_ex (ex_move rfl) rfl rfl ?_
      refine wl_pass rfl rfl rfl (decide_eq_false (fun e => e rfl)) ?_
      refine wl_ex (ex_neq rfl rfl) rfl rfl ?_
      refine wl_ex (ex_pickf rfl (decide_eq_false (fun e => e rfl)) rfl) rfl rfl ?_
      refine wl_ex (ex_move rfl) rfl rfl ?_
      refine wl_pass rfl rfl rfl (decide_eq_false (fun e => e rfl)) ?_
      refine wl_ex (ex_move rfl) rfl rfl ?_
      refine wl_pass rfl rfl rfl (decide_eq_false (fun e => e rfl)) ?_
      refine wl_ex (ex_move rfl) rfl rfl ?_
      refine wl_pass rfl rfl rfl (decide_eq_false (fun e => e rfl)) ?_
      refine wl_callV [.tmp 128, .tmp 129] rfl ok_25 rfl (fun w hm => c_Same A46 c47 (pairR (r.take 61)) A48 c49 (pairR (r.take 61)) w (((sl_own (.tail (.tail (.tail (.tail (.tail (.head _ _)))))))).at hm) (((sl_own (.tail (.tail (.tail (.tail (.head _ _))))))).at hm)  (by first | omega | assumption | (simp; omega))) rfl ?_
      refine wl_pass rfl rfl rfl (decide_eq_false (fun e => e rfl)) ?_
      refine wl_ex (ex_not rfl) rfl rfl ?_
      refine wl_ex (ex_pickf rfl (decide_eq_false (fun e => e rfl)) rfl) rfl rfl ?_
      refine wl_ex (ex_move rfl) rfl rfl ?_
      refine wl_pass rfl rfl rfl (decide_eq_false (fun e => e rfl)) ?_
      refine wl_ex (ex_move rfl) rfl rfl ?_
      refine wl_pass rfl rfl rfl (decide_eq_false (fun e => e rfl)) ?_
      refine wl_ex (ex_move rfl) rfl rfl ?_
      refine wl_pass rfl rfl rfl (decide_eq_false (fun e => e rfl)) ?_
      refine wl_ex (ex_bneq Try.underlying4 rfl rfl) rfl rfl ?_
      refine wl_ex (ex_pickf rfl (decide_eq_false (fun e => e rfl)) rfl) rfl rfl ?_
      refine wl_ex (ex_move rfl) rfl rfl ?_
      refine wl_pass rfl rfl rfl (decide_eq_false (fun e => e rfl)) ?_
      refine wl_ex (ex_move rfl) rfl rfl ?_
      refine wl_pass rfl rfl rfl (decide_eq_false (fun e => e rfl)) ?_
      refine wl_ex (ex_move rfl) rfl rfl ?_
      refine wl_pass rfl rfl rfl (decide_eq_false (fun e => e rfl)) ?_
      refine wl_callV [.tmp 139, .tmp 140] rfl ok_24 rfl (fun w hm => c_Ints A50 c51 (cycL (cycI (r.take 61))) A52 c53 (cycL (cycI (r.take 61))) w (((sl_own (.tail (.tail (.tail (.head _ _)))))).at hm) (((sl_own (.tail (.tail (.head _ _))))).at hm)  (by first | omega | assumption | (simp; omega))) rfl ?_
      refine wl_pass rfl rfl rfl (decide_eq_false (fun e => e rfl)) ?_
      refine wl_ex (ex_not rfl) rfl rfl ?_
      refine wl_ex (ex_pickf rfl (decide_eq_false (fun e => e rfl)) rfl) rfl rfl ?_
      refine wl_ex (ex_move rfl) rfl rfl ?_
      refine wl_pass rfl rfl rfl (decide_eq_false (fun e => e rfl)) ?_
      refine wl_ex (ex_move rfl) rfl rfl ?_
      refine wl_pass rfl rfl rfl (decide_eq_false (fun e => e rfl)) ?_
      refine wl_ex (ex_move rfl) rfl rfl ?_
      refine wl_pass rfl rfl rfl (decide_eq_false (fun e => e rfl)) ?_
      refine wl_ex (ex_neq rfl rfl) rfl rfl ?_
      refine wl_ex (ex_pickf rfl (decide_eq_false (fun e => e rfl)) rfl) rfl rfl ?_
      refine wl_ex (ex_move rfl) rfl rfl ?_
      refine wl_pass rfl rfl rfl (decide_eq_false (fun e => e rfl)) ?_
      refine wl_ex (ex_move rfl) rfl rfl ?_
      refine wl_pass rfl rfl rfl (decide_eq_false (fun e => e rfl)) ?_
      refine wl_ex (ex_move rfl) rfl rfl ?_
      refine wl_pass rfl rfl rfl (decide_eq_false (fun e => e rfl)) ?_
      refine wl_callV [.tmp 150, .tmp 151] rfl ok_25 rfl (fun w hm => c_Same A54 c55 (rndR (r.take 61)) A56 c57 (rndR (r.take 61)) w (((sl_own (.tail (.head _ _)))).at hm) (((sl_own (.head _ _))).at hm)  (by first | omega | assumption | (simp; omega))) rfl ?_
      refine wl_pass rfl rfl rfl (decide_eq_false (fun e => e rfl)) ?_
      refine wl_ex (ex_not rfl) rfl rfl ?_
      refine wl_ex (ex_pickf rfl (decide_eq_false (fun e => e rfl)) rfl) rfl rfl ?_
      refine wl_nil ?_
      refine pe_seq ?_
      refine wc_ite rfl (fun c154 => absurd c154 (fun e => e rfl)) (fun c154 => ?_)
      refine wc_skip ?_
      refine pe_block _ ?_
      refine pe_seq ?_
      refine wc_region ?_
      refine wl_ex (ex_add rfl rfl (by omega) (by omega)) rfl rfl ?_
      refine wl_ex (ex_move rfl) rfl rfl ?_
      refine wl_nil ?_
      refine pe_again ((2 : Int) + 1) (Sub.cons rfl rfl (Sub.cons rfl rfl (Sub.cons rfl rfl (Sub.cons rfl rfl (Sub.cons rfl rfl (Sub.cons rfl rfl (Sub.cons rfl rfl (Sub.cons rfl rfl (Sub.nil _))))))))) (.cons (.tail (.tail (.tail (.tail (.tail (.tail (.tail (.tail (.head _ _))))))))) rfl (.cons (.tail (.tail (.tail (.tail (.tail (.tail (.tail (.tail (.head _ _))))))))) rfl (.cons (.tail (.tail (.tail (.tail (.tail (.tail (.tail (.tail (.head _ _))))))))) rfl (.cons (.tail (.tail (.tail (.tail (.tail (.tail (.tail (.tail (.head _ _))))))))) rfl (.nil _))))) ?_ ?_
      · show 0 ≤ ((2 : Int) + 1) ∧ ((2 : Int) + 1) ≤ 3
        omega
      · first | omega | (simp only []; omega)
  · refine wc_exit ?_
    refine pe_seq_exit ?_
    refine pe_loop_exit ?_
    refine pe_block_exit ?_
    refine pe_seq ?_
    refine wc_seq ?_
    refine wc_region ?_
    refine wl_ex (ex_move rfl) rfl rfl ?_
    refine wl_callS [.tmp 156] rfl ok_26 rfl (fun w hm => c_Even Ay cy y w (((sl_arg hy rfl)).at hm)  (by first | assumption)) rfl fun A58 c59 => ?_
    refine wl_ex (ex_assign rfl) rfl rfl ?_
    refine wl_nil ?_
    refine pe_seq ?_
    refine wc_seq ?_
    refine wc_seq ?_
    refine wc_draw [.own A58 ((evenI y).length) c59 3 1 (encs encI (evenI y)), .own (some ⟨r9, 0, none⟩) 3 3 24 1 (encs encV ([.slice A2 ((madeI x).length) c3, .slice A7 ((bentD (madeI x) bd.a bd.b bd.c).length) c8, .slice Ar ((r.take 61).length) cr] : List Value)), .own A7 ((bentD (madeI x) bd.a bd.b bd.c).length) c8 47 3 (encs encD (bentD (madeI x) bd.a bd.b bd.c)), .own A2 ((madeI x).length) c3 47 3 (encs encD (madeI x)), .row r1 23 [.int .i64 bd.a, .int .i64 bd.b, .int .i64 bd.c]] [(0, true), (1, true), (2, true), (3, true), (4, true), (5, true), (6, true), (7, true), (9, true), (10, true), (11, true), (12, true), (13, true), (16, true), (8, false), (14, false), (15, true)] mixed (by kernel_rfl) (.cons (.head _ _) rfl (.cons (.head _ _) rfl (.cons (.head _ _) rfl (.cons (.head _ _) rfl (.cons (.head _ _) rfl (.nil _)))))) ?_
    refine cn_ex rfl (ex_move rfl) rfl rfl ?_
    refine cn_ex rfl (ex_move rfl) rfl rfl ?_
    refine cn_ex rfl (ex_indexAddrA (off' := 0) rfl rfl Try.underlying23 sz_3 (by omega) (by omega) (by simp)) rfl rfl ?_
    refine cn_ex rfl (ex_load rfl ag_3 (rd_row1 (.tail (.tail (.tail (.tail (.head _ _))))) rfl)) rfl rfl ?_
    refine cn_ex rfl (ex_indexAddrA (off' := 1) rfl rfl Try.underlying23 sz_3 (by omega) (by omega) (by simp)) rfl rfl ?_
    refine cn_ex rfl (ex_load rfl ag_3 (rd_row1 (.tail (.tail (.tail (.tail (.head _ _))))) rfl)) rfl rfl ?_
    refine cn_ex rfl (ex_indexAddrA (off' := 2) rfl rfl Try.underlying23 sz_3 (by omega) (by omega) (by simp)) rfl rfl ?_
    refine cn_ex rfl (ex_load rfl ag_3 (rd_row1 (.tail (.tail (.tail (.tail (.head _ _))))) rfl)) rfl rfl ?_
    refine cn_ex rfl (ex_move rfl) rfl rfl ?_
    refine cn_ex rfl (ex_move rfl) rfl rfl ?_
    refine cn_ex rfl (ex_len Try.underlying25 rfl) rfl rfl ?_
    refine cn_ex rfl (ex_min rfl rfl) rfl rfl ?_
    refine cn_ex rfl (ex_sliceH0 rfl rfl Try.underlying25 sz_3 (by omega) (by omega)) rfl rfl ?_
    refine cn_ex rfl (ex_move rfl) rfl rfl ?_
    refine cn_tail rfl ?_
    refine wl_callS [.tmp 159, .tmp 161, .tmp 163, .tmp 165] rfl ok_27 rfl (fun w hm => c_BentList A58 c59 (evenI y) bd.a bd.b bd.c w (((sl_own (.head _ _))).at hm)  (by omega) (by assumption) (by assumption) (by assumption) (by assumption)) rfl fun A63 c64 => ?_
    refine cn_back (.cons (.tail (.head _ _)) rfl (.cons (.tail (.head _ _)) rfl (.cons (.tail (.head _ _)) rfl (.cons (.tail (.head _ _)) rfl (.cons (.tail (.head _ _)) rfl (.nil _)))))) ?_
    rw [hon]
    refine cn_tail rfl ?_
    refine wl_buildSlice [.tmp 158, .tmp 166, .tmp 171] rfl rfl Try.underlying42 sz_25 ze_25 rfl (by simp [Value.cells]) (by omega) (by omega) rfl fun r65 => ?_
    rw [show List.flatMap (fun x => x.cells.toList) ([.slice A58 ((evenI y).length) c59, .slice A63 ((bentN (evenI y) bd.a bd.b bd.c).length) c64, .slice Ao ((o.take 9).length) co] : List Value) = encs encV ([.slice A58 ((evenI y).length) c59, .slice A63 ((bentN (evenI y) bd.a bd.b bd.c).length) c64, .slice Ao ((o.take 9).length) co] : List Value) from rfl]
    refine cn_back (.cons (.tail (.tail (.head _ _))) rfl (.cons (.tail (.tail (.head _ _))) rfl (.cons (.tail (.tail (.head _ _))) rfl (.cons (.tail (.tail (.head _ _))) rfl (.cons (.tail (.tail (.head _ _))) rfl (.nil _)))))) ?_
    refine cn_ex rfl (ex_len Try.underlying42 rfl) rfl rfl ?_
    refine cn_nil ?_
    refine pe_seq ?_
    refine wc_block ?_
    refine wc_loop (σ := Int) (fun s => [(174, .int .i64 s), (2, .slice Ar r.length cr), (6, .pointer (some ⟨r1, 0, none⟩)), (11, .slice A2 ((madeI x).length) c3), (172, .slice (some ⟨r65, 0, none⟩) 3 3), (173, .int .i64 ((3 : Nat) : Int))]) (fun s => [.own (some ⟨r65, 0, none⟩) 3 3 25 1 (encs encV ([.slice A58 ((evenI y).length) c59, .slice A63 ((bentN (evenI y) bd.a bd.b bd.c).length) c64, .slice Ao ((o.take 9).length) co] : List Value)), .own A63 ((bentN (evenI y) bd.a bd.b bd.c).length) c64 3 1 (encs encI (bentN (evenI y) bd.a bd.b bd.c)), .own A58 ((evenI y).length) c59 3 1 (encs encI (evenI y)), .own (some ⟨r9, 0, none⟩) 3 3 24 1 (encs encV ([.slice A2 ((madeI x).length) c3, .slice A7 ((bentD (madeI x) bd.a bd.b bd.c).length) c8, .slice Ar ((r.take 61).length) cr] : List Value)), .own A7 ((bentD (madeI x) bd.a bd.b bd.c).length) c8 47 3 (encs encD (bentD (madeI x) bd.a bd.b bd.c)), .own A2 ((madeI x).length) c3 47 3 (encs encD (madeI x)), .row r1 23 [.int .i64 bd.a, .int .i64 bd.b, .int .i64 bd.c]]) (fun s => 0 ≤ s ∧ s ≤ 3) (fun s => (3 - s).toNat) (0 : Int) (Sub.cons rfl rfl (Sub.cons rfl rfl (Sub.cons rfl rfl (Sub.cons rfl rfl (Sub.cons rfl rfl (Sub.cons rfl rfl (Sub.nil _))))))) (.cons (.head _ _) rfl (.cons (.head _ _) rfl (.cons (.head _ _) rfl (.cons (.head _ _) rfl (.cons (.head _ _) rfl (.cons (.head _ _) rfl (.cons (.head _ _) rfl (.nil _)))))))) (by omega) ?_
    rintro jq hG
    show WC _ _ _ [(174, .int .i64 jq), (2, .slice Ar r.length cr), (6, .pointer (some ⟨r1, 0, none⟩)), (11, .slice A2 ((madeI x).length) c3), (172, .slice (some ⟨r65, 0, none⟩) 3 3), (173, .int .i64 ((3 : Nat) : Int))] [.own (some ⟨r65, 0, none⟩) 3 3 25 1 (encs encV ([.slice A58 ((evenI y).length) c59, .slice A63 ((bentN (evenI y) bd.a bd.b bd.c).length) c64, .slice Ao ((o.take 9).length) co] : List Value)), .own A63 ((bentN (evenI y) bd.a bd.b bd.c).length) c64 3 1 (encs encI (bentN (evenI y) bd.a bd.b bd.c)), .own A58 ((evenI y).length) c59 3 1 (encs encI (evenI y)), .own (some ⟨r9, 0, none⟩) 3 3 24 1 (encs encV ([.slice A2 ((madeI x).length) c3, .slice A7 ((bentD (madeI x) bd.a bd.b bd.c).length) c8, .slice Ar ((r.take 61).length) cr] : List Value)), .own A7 ((bentD (madeI x) bd.a bd.b bd.c).length) c8 47 3 (encs encD (bentD (madeI x) bd.a bd.b bd.c)), .own A2 ((madeI x).length) c3 47 3 (encs encD (madeI x)), .row r1 23 [.int .i64 bd.a, .int .i64 bd.b, .int .i64 bd.c]]
    replace hG : 0 ≤ jq ∧ jq ≤ 3 := hG
    obtain ⟨j1, j2⟩ := hG
    refine wc_seq ?_
    refine wc_region ?_
    refine wl_ex (ex_lss rfl rfl) rfl rfl ?_
    refine wl_nil ?_
    refine pe_seq ?_
    refine wc_seq ?_
    refine wc_ite rfl (fun c175 => ?_) (fun c175 => ?_)
    · refine wc_skip ?_
      refine pe_seq ?_
      refine wc_seq ?_
      refine wc_block ?_
      refine wc_seq ?_
      refine wc_region ?_
      refine wl_ex (ex_indexAddrN rfl rfl rfl Try.underlying42 sz_25 (by omega) (by omega)) rfl rfl ?_
      rcases (show jq = 0 ∨ jq = 1 ∨ jq = 2 by omega) with rfl | rfl | rfl
      · refine wl_ex (ex_load rfl ag_25 (rd_enc (j := 0) encV_len (sl_own (.head _ _)) (show ([.slice A58 ((evenI y).length) c59, .slice A63 ((bentN (evenI y) bd.a bd.b bd.c).length) c64, .slice Ao ((o.take 9).length) co] : List Value)[((0 : Int)).toNat]? = some (.slice A58 ((evenI y).length) c59) from rfl) rfl)) rfl rfl ?_
        refine wl_ex (ex_assign rfl) rfl rfl ?_
        refine wl_nil ?_
        refine pe_seq ?_
        refine wc_seq ?_
        refine wc_region ?_
        refine wl_ex (ex_move rfl) rfl rfl ?_
        refine wl_callV [.tmp 179] rfl ok_28 rfl (fun w hm => c_Fewest A58 c59 (evenI y) w (((sl_own (.tail (.tail (.head _ _))))).at hm)  (by first | assumption | omega)) rfl ?_
        refine wl_ex (ex_move rfl) rfl rfl ?_
        refine wl_ex (ex_extract rfl rfl) rfl rfl ?_
        refine wl_ex (ex_extract rfl rfl) rfl rfl ?_
        refine wl_ex (ex_assign rfl) rfl rfl ?_
        refine wl_ex (ex_assign rfl) rfl rfl ?_
        refine wl_nil ?_
        refine pe_seq ?_
        refine wc_seq ?_
        refine wc_region ?_
        refine wl_ex (ex_move rfl) rfl rfl ?_
        refine wl_callV [.tmp 184] rfl ok_29 rfl (fun w hm => c_FewestR A58 c59 (evenI y) w (((sl_own (.tail (.tail (.head _ _))))).at hm)  (by first | assumption | omega)) rfl ?_
        refine wl_ex (ex_move rfl) rfl rfl ?_
        refine wl_ex (ex_extract rfl rfl) rfl rfl ?_
        refine wl_ex (ex_extract rfl rfl) rfl rfl ?_
        refine wl_ex (ex_assign rfl) rfl rfl ?_
        refine wl_ex (ex_assign rfl) rfl rfl ?_
        refine wl_nil ?_
        refine pe_seq ?_
        refine wc_seq ?_
        refine wc_region ?_
        refine wl_ex (ex_move rfl) rfl rfl ?_
        refine wl_callS2 [.tmp 189] rfl ok_30 rfl (fun w hm => c_Settle A58 c59 (evenI y) w (((sl_own (.tail (.tail (.head _ _))))).at hm)  (by first | assumption | omega)) rfl fun A66 c67 => ?_
        refine wl_ex (ex_move rfl) rfl rfl ?_
        refine wl_ex (ex_extract rfl rfl) rfl rfl ?_
        refine wl_ex (ex_extract rfl rfl) rfl rfl ?_
        refine wl_ex (ex_assign rfl) rfl rfl ?_
        refine wl_ex (ex_assign rfl) rfl rfl ?_
        refine wl_nil ?_
        refine pe_seq ?_
        refine wc_seq ?_
        refine wc_seq ?_
        refine wc_region ?_
        refine wl_ex (ex_move rfl) rfl rfl ?_
        refine wl_ex (ex_move rfl) rfl rfl ?_
        refine wl_ex (ex_neq rfl rfl) rfl rfl ?_
        refine wl_ex (ex_move rfl) rfl rfl ?_
        refine wl_pass rfl rfl rfl (decide_eq_false (fun e => e rfl)) ?_
        refine wl_ex (ex_move rfl) rfl rfl ?_
        refine wl_pass rfl rfl rfl (decide_eq_false (fun e => e rfl)) ?_
        refine wl_ex (ex_move rfl) rfl rfl ?_
        refine wl_pass rfl rfl rfl (decide_eq_false (fun e => e rfl)) ?_
        refine wl_ex (ex_neq rfl rfl) rfl rfl ?_
        refine wl_ex (ex_pickf rfl (decide_eq_false (fun e => e rfl)) rfl) rfl rfl ?_
        refine wl_ex (ex_move rfl) rfl rfl ?_
        refine wl_pass rfl rfl rfl (decide_eq_false (fun e => e rfl)) ?_
        refine wl_ex (ex_move rfl) rfl rfl ?_
        refine wl_pass rfl rfl rfl (decide_eq_false (fun e => e rfl)) ?_
        refine wl_ex (ex_move rfl) rfl rfl ?_
        refine wl_pass rfl rfl rfl (decide_eq_false (fun e => e rfl)) ?_
        refine wl_ex (ex_neq rfl rfl) rfl rfl ?_
        refine wl_ex (ex_pickf rfl (decide_eq_false (fun e => e rfl)) rfl) rfl rfl ?_
        refine wl_ex (ex_move rfl) rfl rfl ?_
        refine wl_pass rfl rfl rfl (decide_eq_false (fun e => e rfl)) ?_
        refine wl_ex (ex_move rfl) rfl rfl ?_
        refine wl_pass rfl rfl rfl (decide_eq_false (fun e => e rfl)) ?_
        refine wl_ex (ex_len Try.underlying24 rfl) rfl rfl ?_
        refine wl_pass rfl rfl rfl (decide_eq_false (fun e => e rfl)) ?_
        refine wl_ex (ex_move rfl) rfl rfl ?_
        refine wl_pass rfl rfl rfl (decide_eq_false (fun e => e rfl)) ?_
        refine wl_ex (ex_neq rfl rfl) rfl rfl ?_
        refine wl_ex (ex_pickf rfl (decide_eq_false (fun e => e rfl)) rfl) rfl rfl ?_
        refine wl_nil ?_
        refine pe_seq ?_
        refine wc_ite rfl (fun c211 => absurd c211 (fun e => e rfl)) (fun c211 => ?_)
        refine wc_skip ?_
        refine pe_seq ?_
        refine wc_seq ?_
        refine wc_seq ?_
        refine wc_region ?_
        refine wl_ex (ex_assign rfl) rfl rfl ?_
        refine wl_nil ?_
        refine pe_seq ?_
        refine wc_block ?_
        refine wc_loop (σ := Int) (fun s => [(39, .int .i64 s), (2, .slice Ar r.length cr), (6, .pointer (some ⟨r1, 0, none⟩)), (11, .slice A2 ((madeI x).length) c3), (32, .slice A58 ((evenI y).length) c59), (37, .slice A66 ((stlR (evenI y)).length) c67), (172, .slice (some ⟨r65, 0, none⟩) 3 3), (173, .int .i64 ((3 : Nat) : Int)), (174, .int .i64 (0 : Int))]) (fun s => [.own A66 ((stlR (evenI y)).length) c67 47 3 (encs encD (stlR (evenI y))), .own (some ⟨r65, 0, none⟩) 3 3 25 1 (encs encV ([.slice A58 ((evenI y).length) c59, .slice A63 ((bentN (evenI y) bd.a bd.b bd.c).length) c64, .slice Ao ((o.take 9).length) co] : List Value)), .own A63 ((bentN (evenI y) bd.a bd.b bd.c).length) c64 3 1 (encs encI (bentN (evenI y) bd.a bd.b bd.c)), .own A58 ((evenI y).length) c59 3 1 (encs encI (evenI y)), .own (some ⟨r9, 0, none⟩) 3 3 24 1 (encs encV ([.slice A2 ((madeI x).length) c3, .slice A7 ((bentD (madeI x) bd.a bd.b bd.c).length) c8, .slice Ar ((r.take 61).length) cr] : List Value)), .own A7 ((bentD (madeI x) bd.a bd.b bd.c).length) c8 47 3 (encs encD (bentD (madeI x) bd.a bd.b bd.c)), .own A2 ((madeI x).length) c3 47 3 (encs encD (madeI x)), .row r1 23 [.int .i64 bd.a, .int .i64 bd.b, .int .i64 bd.c]]) (fun s => 0 ≤ s ∧ s ≤ ((stlR (evenI y)).length : Int)) (fun s => (((stlR (evenI y)).length : Int) - s).toNat) (0 : Int) (Sub.cons rfl rfl (Sub.cons rfl rfl (Sub.cons rfl rfl (Sub.cons rfl rfl (Sub.cons rfl rfl (Sub.cons rfl rfl (Sub.cons rfl rfl (Sub.cons rfl rfl (Sub.cons rfl rfl (Sub.nil _)))))))))) (.cons (.head _ _) rfl (.cons (.head _ _) rfl (.cons (.head _ _) rfl (.cons (.head _ _) rfl (.cons (.head _ _) rfl (.cons (.head _ _) rfl (.cons (.head _ _) rfl (.cons (.head _ _) rfl (.nil _))))))))) (by omega) ?_
        rintro u hG
        show WC _ _ _ [(39, .int .i64 u), (2, .slice Ar r.length cr), (6, .pointer (some ⟨r1, 0, none⟩)), (11, .slice A2 ((madeI x).length) c3), (32, .slice A58 ((evenI y).length) c59), (37, .slice A66 ((stlR (evenI y)).length) c67), (172, .slice (some ⟨r65, 0, none⟩) 3 3), (173, .int .i64 ((3 : Nat) : Int)), (174, .int .i64 (0 : Int))] [.own A66 ((stlR (evenI y)).length) c67 47 3 (encs encD (stlR (evenI y))), .own (some ⟨r65, 0, none⟩) 3 3 25 1 (encs encV ([.slice A58 ((evenI y).length) c59, .slice A63 ((bentN (evenI y) bd.a bd.b bd.c).length) c64, .slice Ao ((o.take 9).length) co] : List Value)), .own A63 ((bentN (evenI y) bd.a bd.b bd.c).length) c64 3 1 (encs encI (bentN (evenI y) bd.a bd.b bd.c)), .own A58 ((evenI y).length) c59 3 1 (encs encI (evenI y)), .own (some ⟨r9, 0, none⟩) 3 3 24 1 (encs encV ([.slice A2 ((madeI x).length) c3, .slice A7 ((bentD (madeI x) bd.a bd.b bd.c).length) c8, .slice Ar ((r.take 61).length) cr] : List Value)), .own A7 ((bentD (madeI x) bd.a bd.b bd.c).length) c8 47 3 (encs encD (bentD (madeI x) bd.a bd.b bd.c)), .own A2 ((madeI x).length) c3 47 3 (encs encD (madeI x)), .row r1 23 [.int .i64 bd.a, .int .i64 bd.b, .int .i64 bd.c]]
        replace hG : 0 ≤ u ∧ u ≤ ((stlR (evenI y)).length : Int) := hG
        obtain ⟨u1, u2⟩ := hG
        refine wc_seq ?_
        refine wc_seq ?_
        refine wc_region ?_
        refine wl_ex (ex_move rfl) rfl rfl ?_
        refine wl_ex (ex_move rfl) rfl rfl ?_
        refine wl_ex (ex_len Try.underlying24 rfl) rfl rfl ?_
        refine wl_ex (ex_lss rfl rfl) rfl rfl ?_
        refine wl_nil ?_
        refine pe_seq ?_
        refine wc_ite rfl (fun c215 => ?_) (fun c215 => ?_)
        · refine wc_skip ?_
          refine pe_seq ?_
          refine wc_seq ?_
          refine wc_block ?_
          obtain ⟨d_stlR_evenI_y__u, hd_stlR_evenI_y__u⟩ := get_if (stlR (evenI y)) u
          obtain ⟨d_evenI_y_d_stlR_evenI_y__u_frm, hd_evenI_y_d_stlR_evenI_y__u_frm⟩ := get_if (evenI y) d_stlR_evenI_y__u.frm
          obtain ⟨d_evenI_y_d_stlR_evenI_y__u_to, hd_evenI_y_d_stlR_evenI_y__u_to⟩ := get_if (evenI y) d_stlR_evenI_y__u.to
          refine wc_cut (σ := Unit) (fun _ => [(2, .slice Ar r.length cr), (6, .pointer (some ⟨r1, 0, none⟩)), (11, .slice A2 ((madeI x).length) c3), (32, .slice A58 ((evenI y).length) c59), (37, .slice A66 ((stlR (evenI y)).length) c67), (39, .int .i64 u), (172, .slice (some ⟨r65, 0, none⟩) 3 3), (173, .int .i64 ((3 : Nat) : Int)), (174, .int .i64 (0 : Int)), (273, .bool (decide ((((((d_stlR_evenI_y__u.frm < 0) ∨ (((evenI y).length : Int) ≤ d_stlR_evenI_y__u.frm)) ∨ (d_stlR_evenI_y__u.to < 0)) ∨ (((evenI y).length : Int) ≤ d_stlR_evenI_y__u.to)) ∨ (0 ≤ d_evenI_y_d_stlR_evenI_y__u_frm)) ∨ (d_evenI_y_d_stlR_evenI_y__u_to ≤ 0))))]) (fun _ => [.own A66 ((stlR (evenI y)).length) c67 47 3 (encs encD (stlR (evenI y))), .own (some ⟨r65, 0, none⟩) 3 3 25 1 (encs encV ([.slice A58 ((evenI y).length) c59, .slice A63 ((bentN (evenI y) bd.a bd.b bd.c).length) c64, .slice Ao ((o.take 9).length) co] : List Value)), .own A63 ((bentN (evenI y) bd.a bd.b bd.c).length) c64 3 1 (encs encI (bentN (evenI y) bd.a bd.b bd.c)), .own A58 ((evenI y).length) c59 3 1 (encs encI (evenI y)), .own (some ⟨r9, 0, none⟩) 3 3 24 1 (encs encV ([.slice A2 ((madeI x).length) c3, .slice A7 ((bentD (madeI x) bd.a bd.b bd.c).length) c8, .slice Ar ((r.take 61).length) cr] : List Value)), .own A7 ((bentD (madeI x) bd.a bd.b bd.c).length) c8 47 3 (encs encD (bentD (madeI x) bd.a bd.b bd.c)), .own A2 ((madeI x).length) c3 47 3 (encs encD (madeI x)), .row r1 23 [.int .i64 bd.a, .int .i64 bd.b, .int .i64 bd.c]]) (fun _ => True) ?_ ?_
          · refine wc_region ?_
            refine wl_ex (ex_move rfl) rfl rfl ?_
            refine wl_ex (ex_move rfl) rfl rfl ?_
            refine wl_ex (ex_indexAddr rfl rfl Try.underlying24 sz_47 (sl_own (.head _ _)) (by omega) (by omega) (enc_pos encD_len (by omega))) rfl rfl ?_
            refine wl_ex (ex_fieldAddr (off' := oOf A66 + (u).toNat * 3 + 0) rfl Try.underlying47 rfl sz_3 rfl rfl) rfl rfl ?_
            refine wl_ex (ex_load rfl ag_3 (rd_enc (j := 0) encD_len (sl_own (.head _ _)) (hd_stlR_evenI_y__u (by omega) (by omega)) rfl)) rfl rfl ?_
            refine wl_ex (ex_lss rfl rfl) rfl rfl ?_
            refine wl_ex (ex_move rfl) rfl rfl ?_
            by_cases g68 : d_stlR_evenI_y__u.frm < 0
            · refine wl_skip rfl rfl rfl (fun h => of_decide_eq_false (Value.bool.inj h) g68) rfl rfl ?_
              refine wl_skip rfl rfl rfl (fun h => of_decide_eq_false (Value.bool.inj h) g68) rfl rfl ?_
              refine wl_skip rfl rfl rfl (fun h => of_decide_eq_false (Value.bool.inj h) g68) rfl rfl ?_
              refine wl_skip rfl rfl rfl (fun h => of_decide_eq_false (Value.bool.inj h) g68) rfl rfl ?_
              refine wl_skip rfl rfl rfl (fun h => of_decide_eq_false (Value.bool.inj h) g68) rfl rfl ?_
              refine wl_skip rfl rfl rfl (fun h => of_decide_eq_false (Value.bool.inj h) g68) rfl rfl ?_
              refine wl_skip rfl rfl rfl (fun h => of_decide_eq_false (Value.bool.inj h) g68) rfl rfl ?_
              refine wl_skip rfl rfl rfl (fun h => of_decide_eq_false (Value.bool.inj h) g68) rfl rfl ?_
              refine wl_ex (ex_pickt rfl (decide_eq_true g68) rfl) rfl rfl ?_
              refine wl_ex (ex_move rfl) rfl rfl ?_
              refine wl_skip rfl rfl rfl (by simp) rfl rfl ?_
              refine wl_skip rfl rfl rfl (by simp) rfl rfl ?_
              refine wl_skip rfl rfl rfl (by simp) rfl rfl ?_
              refine wl_skip rfl rfl rfl (by simp) rfl rfl ?_
              refine wl_skip rfl rfl rfl (by simp) rfl rfl ?_
              refine wl_skip rfl rfl rfl (by simp) rfl rfl ?_
              refine wl_ex (ex_pickt rfl rfl rfl) rfl rfl ?_
              refine wl_ex (ex_move rfl) rfl rfl ?_
              refine wl_skip rfl rfl rfl (by simp) rfl rfl ?_
              refine wl_skip rfl rfl rfl (by simp) rfl rfl ?_
              refine wl_skip rfl rfl rfl (by simp) rfl rfl ?_
              refine wl_skip rfl rfl rfl (by simp) rfl rfl ?_
              refine wl_skip rfl rfl rfl (by simp) rfl rfl ?_
              refine wl_skip rfl rfl rfl (by simp) rfl rfl ?_
              refine wl_skip rfl rfl rfl (by simp) rfl rfl ?_
              refine wl_skip rfl rfl rfl (by simp) rfl rfl ?_
              refine wl_ex (ex_pickt rfl rfl rfl) rfl rfl ?_
              refine wl_ex (ex_move rfl) rfl rfl ?_
              refine wl_skip rfl rfl rfl (by simp) rfl rfl ?_
              refine wl_skip rfl rfl rfl (by simp) rfl rfl ?_
              refine wl_skip rfl rfl rfl (by simp) rfl rfl ?_
              refine wl_skip rfl rfl rfl (by simp) rfl rfl ?_
              refine wl_skip rfl rfl rfl (by simp) rfl rfl ?_
              refine wl_skip rfl rfl rfl (by simp) rfl rfl ?_
              refine wl_skip rfl rfl rfl (by simp) rfl rfl ?_
              refine wl_skip rfl rfl rfl (by simp) rfl rfl ?_
              refine wl_skip rfl rfl rfl (by simp) rfl rfl ?_
              refine wl_ex (ex_pickt rfl rfl rfl) rfl rfl ?_
              refine wl_ex (ex_move rfl) rfl rfl ?_
              refine wl_skip rfl rfl rfl (by simp) rfl rfl ?_
              refine wl_skip rfl rfl rfl (by simp) rfl rfl ?_
              refine wl_skip rfl rfl rfl (by simp) rfl rfl ?_
              refine wl_skip rfl rfl rfl (by simp) rfl rfl ?_
              refine wl_skip rfl rfl rfl (by simp) rfl rfl ?_
              refine wl_skip rfl rfl rfl (by simp) rfl rfl ?_
              refine wl_skip rfl rfl rfl (by simp) rfl rfl ?_
              refine wl_skip rfl rfl rfl (by simp) rfl rfl ?_
              refine wl_skip rfl rfl rfl (by simp) rfl rfl ?_
              refine wl_ex (ex_pickt rfl rfl rfl) rfl rfl ?_
              refine wl_nil ?_
              refine pe_cut () (Sub.cons rfl rfl (Sub.cons rfl rfl (Sub.cons rfl rfl (Sub.cons rfl rfl (Sub.cons rfl rfl (Sub.cons rfl rfl (Sub.cons rfl rfl (Sub.cons rfl rfl (Sub.cons rfl rfl (Sub.cons rfl (congrArg Value.bool (by first | (simp [g68]; done) | grind)) (Sub.nil _))))))))))) (.cons (.head _ _) rfl (.cons (.head _ _) rfl (.cons (.head _ _) rfl (.cons (.head _ _) rfl (.cons (.head _ _) rfl (.cons (.head _ _) rfl (.cons (.head _ _) rfl (.cons (.head _ _) rfl (.nil _))))))))) trivial
            · refine wl_pass rfl rfl rfl (decide_eq_false g68) ?_
              refine wl_ex (ex_move rfl) rfl rfl ?_
              refine wl_pass rfl rfl rfl (decide_eq_false g68) ?_
              refine wl_ex (ex_move rfl) rfl rfl ?_
              refine wl_pass rfl rfl rfl (decide_eq_false g68) ?_
              refine wl_ex (ex_indexAddr rfl rfl Try.underlying24 sz_47 (sl_own (.head _ _)) (by omega) (by omega) (enc_pos encD_len (by omega))) rfl rfl ?_
              refine wl_pass rfl rfl rfl (decide_eq_false g68) ?_
              refine wl_ex (ex_fieldAddr (off' := oOf A66 + (u).toNat * 3 + 0) rfl Try.underlying47 rfl sz_3 rfl rfl) rfl rfl ?_
              refine wl_pass rfl rfl rfl (decide_eq_false g68) ?_
              refine wl_ex (ex_load rfl ag_3 (rd_enc (j := 0) encD_len (sl_own (.head _ _)) (hd_stlR_evenI_y__u (by omega) (by omega)) rfl)) rfl rfl ?_
              refine wl_pass rfl rfl rfl (decide_eq_false g68) ?_
              refine wl_ex (ex_move rfl) rfl rfl ?_
              refine wl_pass rfl rfl rfl (decide_eq_false g68) ?_
              refine wl_ex (ex_len Try.underlying25 rfl) rfl rfl ?_
              refine wl_pass rfl rfl rfl (decide_eq_false g68) ?_
              refine wl_ex (ex_geq rfl rfl) rfl rfl ?_
              refine wl_ex (ex_pickf rfl (decide_eq_false g68) rfl) rfl rfl ?_
              refine wl_ex (ex_move rfl) rfl rfl ?_
              by_cases g69 : ((evenI y).length : Int) ≤ d_stlR_evenI_y__u.frm
              · refine wl_skip rfl rfl rfl (fun h => of_decide_eq_false (Value.bool.inj h) g69) rfl rfl ?_
                refine wl_skip rfl rfl rfl (fun h => of_decide_eq_false (Value.bool.inj h) g69) rfl rfl ?_
                refine wl_skip rfl rfl rfl (fun h => of_decide_eq_false (Value.bool.inj h) g69) rfl rfl ?_
                refine wl_skip rfl rfl rfl (fun h => of_decide_eq_false (Value.bool.inj h) g69) rfl rfl ?_
                refine wl_skip rfl rfl rfl (fun h => of_decide_eq_false (Value.bool.inj h) g69) rfl rfl ?_
                refine wl_skip rfl rfl rfl (fun h => of_decide_eq_false (Value.bool.inj h) g69) rfl rfl ?_
                refine wl_ex (ex_pickt rfl (decide_eq_true g69) rfl) rfl rfl ?_
                refine wl_ex (ex_move rfl) rfl rfl ?_
                refine wl_skip rfl rfl rfl (by simp) rfl rfl ?_
                refine wl_skip rfl rfl rfl (by simp) rfl rfl ?_
                refine wl_skip rfl rfl rfl (by simp) rfl rfl ?_
                refine wl_skip rfl rfl rfl (by simp) rfl rfl ?_
                refine wl_skip rfl rfl rfl (by simp) rfl rfl ?_
                refine wl_skip rfl rfl rfl (by simp) rfl rfl ?_
                refine wl_skip rfl rfl rfl (by simp) rfl rfl ?_
                refine wl_skip rfl rfl rfl (by simp) rfl rfl ?_
                refine wl_ex (ex_pickt rfl rfl rfl) rfl rfl ?_
                refine wl_ex (ex_move rfl) rfl rfl ?_
                refine wl_skip rfl rfl rfl (by simp) rfl rfl ?_
                refine wl_skip rfl rfl rfl (by simp) rfl rfl ?_
                refine wl_skip rfl rfl rfl (by simp) rfl rfl ?_
                refine wl_skip rfl rfl rfl (by simp) rfl rfl ?_
                refine wl_skip rfl rfl rfl (by simp) rfl rfl ?_
                refine wl_skip rfl rfl rfl (by simp) rfl rfl ?_
                refine wl_skip rfl rfl rfl (by simp) rfl rfl ?_
                refine wl_skip rfl rfl rfl (by simp) rfl rfl ?_
                refine wl_skip rfl rfl rfl (by simp) rfl rfl ?_
                refine wl_ex (ex_pickt rfl rfl rfl) rfl rfl ?_
                refine wl_ex (ex_move rfl) rfl rfl ?_
                refine wl_skip rfl rfl rfl (by simp) rfl rfl ?_
                refine wl_skip rfl rfl rfl (by simp) rfl rfl ?_
                refine wl_skip rfl rfl rfl (by simp) rfl rfl ?_
                refine wl_skip rfl rfl rfl (by simp) rfl rfl ?_
                refine wl_skip rfl rfl rfl (by simp) rfl rfl ?_
                refine wl_skip rfl rfl rfl (by simp) rfl rfl ?_
                refine wl_skip rfl rfl rfl (by simp) rfl rfl ?_
                refine wl_skip rfl rfl rfl (by simp) rfl rfl ?_
                refine wl_skip rfl rfl rfl (by simp) rfl rfl ?_
                refine wl_ex (ex_pickt rfl rfl rfl) rfl rfl ?_
                refine wl_nil ?_
                refine pe_cut () (Sub.cons rfl rfl (Sub.cons rfl rfl (Sub.cons rfl rfl (Sub.cons rfl rfl (Sub.cons rfl rfl (Sub.cons rfl rfl (Sub.cons rfl rfl (Sub.cons rfl rfl (Sub.cons rfl rfl (Sub.cons rfl (congrArg Value.bool (by first | (simp [g68, g69]; done) | grind)) (Sub.nil _))))))))))) (.cons (.head _ _) rfl (.cons (.head _ _) rfl (.cons (.head _ _) rfl (.cons (.head _ _) rfl (.cons (.head _ _) rfl (.cons (.head _ _) rfl (.cons (.head _ _) rfl (.cons (.head _ _) rfl (.nil _))))))))) trivial
              · refine wl_pass rfl rfl rfl (decide_eq_false g69) ?_
                refine wl_ex (ex_move rfl) rfl rfl ?_
                refine wl_pass rfl rfl rfl (decide_eq_false g69) ?_
                refine wl_ex (ex_move rfl) rfl rfl ?_
                refine wl_pass rfl rfl rfl (decide_eq_false g69) ?_
                refine wl_ex (ex_indexAddr rfl rfl Try.underlying24 sz_47 (sl_own (.head _ _)) (by omega) (by omega) (enc_pos encD_len (by omega))) rfl rfl ?_
                refine wl_pass rfl rfl rfl (decide_eq_false g69) ?_
                refine wl_ex (ex_fieldAddr (off' := oOf A66 + (u).toNat * 3 + 1) rfl Try.underlying47 rfl sz_3 rfl rfl) rfl rfl ?_
                refine wl_pass rfl rfl rfl (decide_eq_false g69) ?_
                refine wl_ex (ex_load rfl ag_3 (rd_enc (j := 1) encD_len (sl_own (.head _ _)) (hd_stlR_evenI_y__u (by omega) (by omega)) rfl)) rfl rfl ?_
                refine wl_pass rfl rfl rfl (decide_eq_false g69) ?_
                refine wl_ex (ex_lss rfl rfl) rfl rfl ?_
                refine wl_ex (ex_pickf rfl (decide_eq_false g69) rfl) rfl rfl ?_
                refine wl_ex (ex_move rfl) rfl rfl ?_
                by_cases g70 : d_stlR_evenI_y__u.to < 0
                · refine wl_skip rfl rfl rfl (fun h => of_decide_eq_false (Value.bool.inj h) g70) rfl rfl ?_
                  refine wl_skip rfl rfl rfl (fun h => of_decide_eq_false (Value.bool.inj h) g70) rfl rfl ?_
                  refine wl_skip rfl rfl rfl (fun h => of_decide_eq_false (Value.bool.inj h) g70) rfl rfl ?_
                  refine wl_skip rfl rfl rfl (fun h => of_decide_eq_false (Value.bool.inj h) g70) rfl rfl ?_
                  refine wl_skip rfl rfl rfl (fun h => of_decide_eq_false (Value.bool.inj h) g70) rfl rfl ?_
                  refine wl_skip rfl rfl rfl (fun h => of_decide_eq_false (Value.bool.inj h) g70) rfl rfl ?_
                  refine wl_skip rfl rfl rfl (fun h => of_decide_eq_false (Value.bool.inj h) g70) rfl rfl ?_
                  refine wl_skip rfl rfl rfl (fun h => of_decide_eq_false (Value.bool.inj h) g70) rfl rfl ?_
                  refine wl_ex (ex_pickt rfl (decide_eq_true g70) rfl) rfl rfl ?_
                  refine wl_ex (ex_move rfl) rfl rfl ?_
                  refine wl_skip rfl rfl rfl (by simp) rfl rfl ?_
                  refine wl_skip rfl rfl rfl (by simp) rfl rfl ?_
                  refine wl_skip rfl rfl rfl (by simp) rfl rfl ?_
                  refine wl_skip rfl rfl rfl (by simp) rfl rfl ?_
                  refine wl_skip rfl rfl rfl (by simp) rfl rfl ?_
                  refine wl_skip rfl rfl rfl (by simp) rfl rfl ?_
                  refine wl_skip rfl rfl rfl (by simp) rfl rfl ?_
                  refine wl_skip rfl rfl rfl (by simp) rfl rfl ?_
                  refine wl_skip rfl rfl rfl (by simp) rfl rfl ?_
                  refine wl_ex (ex_pickt rfl rfl rfl) rfl rfl ?_
                  refine wl_ex (ex_move rfl) rfl rfl ?_
                  refine wl_skip rfl rfl rfl (by simp) rfl rfl ?_
                  refine wl_skip rfl rfl rfl (by simp) rfl rfl ?_
                  refine wl_skip rfl rfl rfl (by simp) rfl rfl ?_
                  refine wl_skip rfl rfl rfl (by simp) rfl rfl ?_
                  refine wl_skip rfl rfl rfl (by simp) rfl rfl ?_
                  refine wl_skip rfl rfl rfl (by simp) rfl rfl ?_
                  refine wl_skip rfl rfl rfl (by simp) rfl rfl ?_
                  refine wl_skip rfl rfl rfl (by simp) rfl rfl ?_
                  refine wl_skip rfl rfl rfl (by simp) rfl rfl ?_
                  refine wl_ex (ex_pickt rfl rfl rfl) rfl rfl ?_
                  refine wl_nil ?_
                  refine pe_cut () (Sub.cons rfl rfl (Sub.cons rfl rfl (Sub.cons rfl rfl (Sub.cons rfl rfl (Sub.cons rfl rfl (Sub.cons rfl rfl (Sub.cons rfl rfl (Sub.cons rfl rfl (Sub.cons rfl rfl (Sub.cons rfl (congrArg Value.bool (by first | (simp [g68, g69, g70]; done) | grind)) (Sub.nil _))))))))))) (.cons (.head _ _) rfl (.cons (.head _ _) rfl (.cons (.head _ _) rfl (.cons (.head _ _) rfl (.cons (.head _ _) rfl (.cons (.head _ _) rfl (.cons (.head _ _) rfl (.cons (.head _ _) rfl (.nil _))))))))) trivial
                · refine wl_pass rfl rfl rfl (decide_eq_false g70) ?_
                  refine wl_ex (ex_move rfl) rfl rfl ?_
                  refine wl_pass rfl rfl rfl (decide_eq_false g70) ?_
                  refine wl_ex (ex_move rfl) rfl rfl ?_
                  refine wl_pass rfl rfl rfl (decide_eq_false g70) ?_
                  refine wl_ex (ex_indexAddr rfl rfl Try.underlying24 sz_47 (sl_own (.head _ _)) (by omega) (by omega) (enc_pos encD_len (by omega))) rfl rfl ?_
                  refine wl_pass rfl rfl rfl (decide_eq_false g70) ?_
                  refine wl_ex (ex_fieldAddr (off' := oOf A66 + (u).toNat * 3 + 1) rfl Try.underlying47 rfl sz_3 rfl rfl) rfl rfl ?_
                  refine wl_pass rfl rfl rfl (decide_eq_false g70) ?_
                  refine wl_ex (ex_load rfl ag_3 (rd_enc (j := 1) encD_len (sl_own (.head _ _)) (hd_stlR_evenI_y__u (by omega) (by omega)) rfl)) rfl rfl ?_
                  refine wl_pass rfl rfl rfl (decide_eq_false g70) ?_
                  refine wl_ex (ex_move rfl) rfl rfl ?_
                  refine wl_pass rfl rfl rfl (decide_eq_false g70) ?_
                  refine wl_ex (ex_len Try.underlying25 rfl) rfl rfl ?_
                  refine wl_pass rfl rfl rfl (decide_eq_false g70) ?_
                  refine wl_ex (ex_geq rfl rfl) rfl rfl ?_
                  refine wl_ex (ex_pickf rfl (decide_eq_false g70) rfl) rfl rfl ?_
                  refine wl_ex (ex_move rfl) rfl rfl ?_
                  by_cases g71 : ((evenI y).length : Int) ≤ d_stlR_evenI_y__u.to
                  · refine wl_skip rfl rfl rfl (fun h => of_decide_eq_false (Value.bool.inj h) g71) rfl rfl ?_
                    refine wl_skip rfl rfl rfl (fun h => of_decide_eq_false (Value.bool.inj h) g71) rfl rfl ?_
                    refine wl_skip rfl rfl rfl (fun h => of_decide_eq_false (Value.bool.inj h) g71) rfl rfl ?_
                    refine wl_skip rfl rfl rfl (fun h => of_decide_eq_false (Value.bool.inj h) g71) rfl rfl ?_
                    refine wl_skip rfl rfl rfl (fun h => of_decide_eq_false (Value.bool.inj h) g71) rfl rfl ?_
                    refine wl_skip rfl rfl rfl (fun h => of_decide_eq_false (Value.bool.inj h) g71) rfl rfl ?_
                    refine wl_skip rfl rfl rfl (fun h => of_decide_eq_false (Value.bool.inj h) g71) rfl rfl ?_
                    refine wl_skip rfl rfl rfl (fun h => of_decide_eq_false (Value.bool.inj h) g71) rfl rfl ?_
                    refine wl_skip rfl rfl rfl (fun h => of_decide_eq_false (Value.bool.inj h) g71) rfl rfl ?_
                    refine wl_ex (ex_pickt rfl (decide_eq_true g71) rfl) rfl rfl ?_
                    refine wl_ex (ex_move rfl) rfl rfl ?_
                    refine wl_skip rfl rfl rfl (by simp) rfl rfl ?_
                    refine wl_skip rfl rfl rfl (by simp) rfl rfl ?_
                    refine wl_skip rfl rfl rfl (by simp) rfl rfl ?_
                    refine wl_skip rfl rfl rfl (by simp) rfl rfl ?_
                    refine wl_skip rfl rfl rfl (by simp) rfl rfl ?_
                    refine wl_skip rfl rfl rfl (by simp) rfl rfl ?_
                    refine wl_skip rfl rfl rfl (by simp) rfl rfl ?_
                    refine wl_skip rfl rfl rfl (by simp) rfl rfl ?_
                    refine wl_skip rfl rfl rfl (by simp) rfl rfl ?_
                    refine wl_ex (ex_pickt rfl rfl rfl) rfl rfl ?_
                    refine wl_nil ?_
                    refine pe_cut () (Sub.cons rfl rfl (Sub.cons rfl rfl (Sub.cons rfl rfl (Sub.cons rfl rfl (Sub.cons rfl rfl (Sub.cons rfl rfl (Sub.cons rfl rfl (Sub.cons rfl rfl (Sub.cons rfl rfl (Sub.cons rfl (congrArg Value.bool (by first | (simp [g68, g69, g70, g71]; done) | grind)) (Sub.nil _))))))))))) (.cons (.head _ _) rfl (.cons (.head _ _) rfl (.cons (.head _ _) rfl (.cons (.head _ _) rfl (.cons (.head _ _) rfl (.cons (.head _ _) rfl (.cons (.head _ _) rfl (.cons (.head _ _) rfl (.nil _))))))))) trivial
                  · refine wl_pass rfl rfl rfl (decide_eq_false g71) ?_
                    refine wl_ex (ex_move rfl) rfl rfl ?_
                    refine wl_pass rfl rfl rfl (decide_eq_false g71) ?_
                    refine wl_ex (ex_move rfl) rfl rfl ?_
                    refine wl_pass rfl rfl rfl (decide_eq_false g71) ?_
                    refine wl_ex (ex_move rfl) rfl rfl ?_
                    refine wl_pass rfl rfl rfl (decide_eq_false g71) ?_
                    refine wl_ex (ex_indexAddr rfl rfl Try.underlying24 sz_47 (sl_own (.head _ _)) (by omega) (by omega) (enc_pos encD_len (by omega))) rfl rfl ?_
                    refine wl_pass rfl rfl rfl (decide_eq_false g71) ?_
                    refine wl_ex (ex_fieldAddr (off' := oOf A66 + (u).toNat * 3 + 0) rfl Try.underlying47 rfl sz_3 rfl rfl) rfl rfl ?_
                    refine wl_pass rfl rfl rfl (decide_eq_false g71) ?_
                    refine wl_ex (ex_load rfl ag_3 (rd_enc (j := 0) encD_len (sl_own (.head _ _)) (hd_stlR_evenI_y__u (by omega) (by omega)) rfl)) rfl rfl ?_
                    refine wl_pass rfl rfl rfl (decide_eq_false g71) ?_
                    refine wl_ex (ex_indexAddr rfl rfl Try.underlying25 sz_3 (sl_own (.tail (.tail (.tail (.head _ _))))) (by omega) (by omega) (enc_pos encI_len (by omega))) rfl rfl ?_
                    refine wl_pass rfl rfl rfl (decide_eq_false g71) ?_
                    refine wl_ex (ex_load rfl ag_3 (rd_int (sl_own (.tail (.tail (.tail (.head _ _))))) (hd_evenI_y_d_stlR_evenI_y__u_frm (by omega) (by omega)))) rfl rfl ?_
                    refine wl_pass rfl rfl rfl (decide_eq_false g71) ?_
                    refine wl_ex (ex_geq rfl rfl) rfl rfl ?_
                    refine wl_ex (ex_pickf rfl (decide_eq_false g71) rfl) rfl rfl ?_
                    refine wl_ex (ex_move rfl) rfl rfl ?_
                    by_cases g72 : 0 ≤ d_evenI_y_d_stlR_evenI_y__u_frm
                    · refine wl_skip rfl rfl rfl (fun h => of_decide_eq_false (Value.bool.inj h) g72) rfl rfl ?_
                      refine wl_skip rfl rfl rfl (fun h => of_decide_eq_false (Value.bool.inj h) g72) rfl rfl ?_
                      refine wl_skip rfl rfl rfl (fun h => of_decide_eq_false (Value.bool.inj h) g72) rfl rfl ?_
                      refine wl_skip rfl rfl rfl (fun h => of_decide_eq_false (Value.bool.inj h) g72) rfl rfl ?_
                      refine wl_skip rfl rfl rfl (fun h => of_decide_eq_false (Value.bool.inj h) g72) rfl rfl ?_
                      refine wl_skip rfl rfl rfl (fun h => of_decide_eq_false (Value.bool.inj h) g72) rfl rfl ?_
                      refine wl_skip rfl rfl rfl (fun h => of_decide_eq_false (Value.bool.inj h) g72) rfl rfl ?_
                      refine wl_skip rfl rfl rfl (fun h => of_decide_eq_false (Value.bool.inj h) g72) rfl rfl ?_
                      refine wl_skip rfl rfl rfl (fun h => of_decide_eq_false (Value.bool.inj h) g72) rfl rfl ?_
                      refine wl_ex (ex_pickt rfl (decide_eq_true g72) rfl) rfl rfl ?_
                      refine wl_nil ?_
                      refine pe_cut () (Sub.cons rfl rfl (Sub.cons rfl rfl (Sub.cons rfl rfl (Sub.cons rfl rfl (Sub.cons rfl rfl (Sub.cons rfl rfl (Sub.cons rfl rfl (Sub.cons rfl rfl (Sub.cons rfl rfl (Sub.cons rfl (congrArg Value.bool (by first | (simp [g68, g69, g70, g71, g72]; done) | grind)) (Sub.nil _))))))))))) (.cons (.head _ _) rfl (.cons (.head _ _) rfl (.cons (.head _ _) rfl (.cons (.head _ _) rfl (.cons (.head _ _) rfl (.cons (.head _ _) rfl (.cons (.head _ _) rfl (.cons (.head _ _) rfl (.nil _))))))))) trivial
                    · refine wl_pass rfl rfl rfl (decide_eq_false g72) ?_
                      refine wl_ex (ex_move rfl) rfl rfl ?_
                      refine wl_pass rfl rfl rfl (decide_eq_false g72) ?_
                      refine wl_ex (ex_move rfl) rfl rfl ?_
                      refine wl_pass rfl rfl rfl (decide_eq_false g72) ?_
                      refine wl_ex (ex_move rfl) rfl rfl ?_
                      refine wl_pass rfl rfl rfl (decide_eq_false g72) ?_
                      refine wl_ex (ex_indexAddr rfl rfl Try.underlying24 sz_47 (sl_own (.head _ _)) (by omega) (by omega) (enc_pos encD_len (by omega))) rfl rfl ?_
                      refine wl_pass rfl rfl rfl (decide_eq_false g72) ?_
                      refine wl_ex (ex_fieldAddr (off' := oOf A66 + (u).toNat * 3 + 1) rfl Try.underlying47 rfl sz_3 rfl rfl) rfl rfl ?_
                      refine wl_pass rfl rfl rfl (decide_eq_false g72) ?_
                      refine wl_ex (ex_load rfl ag_3 (rd_enc (j := 1) encD_len (sl_own (.head _ _)) (hd_stlR_evenI_y__u (by omega) (by omega)) rfl)) rfl rfl ?_
                      refine wl_pass rfl rfl rfl (decide_eq_false g72) ?_
                      refine wl_ex (ex_indexAddr rfl rfl Try.underlying25 sz_3 (sl_own (.tail (.tail (.tail (.head _ _))))) (by omega) (by omega) (enc_pos encI_len (by omega))) rfl rfl ?_
                      refine wl_pass rfl rfl rfl (decide_eq_false g72) ?_
                      refine wl_ex (ex_load rfl ag_3 (rd_int (sl_own (.tail (.tail (.tail (.head _ _))))) (hd_evenI_y_d_stlR_evenI_y__u_to (by omega) (by omega)))) rfl rfl ?_
                      refine wl_pass rfl rfl rfl (decide_eq_false g72) ?_
                      refine wl_ex (ex_leq rfl rfl) rfl rfl ?_
                      refine wl_ex (ex_pickf rfl (decide_eq_false g72) rfl) rfl rfl ?_
                      refine wl_nil ?_
                      refine pe_cut () (Sub.cons rfl rfl (Sub.cons rfl rfl (Sub.cons rfl rfl (Sub.cons rfl rfl (Sub.cons rfl rfl (Sub.cons rfl rfl (Sub.cons rfl rfl (Sub.cons rfl rfl (Sub.cons rfl rfl (Sub.cons rfl (congrArg Value.bool (by first | (simp [g68, g69, g70, g71, g72]; done) | grind)) (Sub.nil _))))))))))) (.cons (.head _ _) rfl (.cons (.head _ _) rfl (.cons (.head _ _) rfl (.cons (.head _ _) rfl (.cons (.head _ _) rfl (.cons (.head _ _) rfl (.cons (.head _ _) rfl (.cons (.head _ _) rfl (.nil _))))))))) trivial
          · rintro _ _
            show WC _ _ _ [(2, .slice Ar r.length cr), (6, .pointer (some ⟨r1, 0, none⟩)), (11, .slice A2 ((madeI x).length) c3), (32, .slice A58 ((evenI y).length) c59), (37, .slice A66 ((stlR (evenI y)).length) c67), (39, .int .i64 u), (172, .slice (some ⟨r65, 0, none⟩) 3 3), (173, .int .i64 ((3 : Nat) : Int)), (174, .int .i64 (0 : Int)), (273, .bool (decide ((((((d_stlR_evenI_y__u.frm < 0) ∨ (((evenI y).length : Int) ≤ d_stlR_evenI_y__u.frm)) ∨ (d_stlR_evenI_y__u.to < 0)) ∨ (((evenI y).length : Int) ≤ d_stlR_evenI_y__u.to)) ∨ (0 ≤ d_evenI_y_d_stlR_evenI_y__u_frm)) ∨ (d_evenI_y_d_stlR_evenI_y__u_to ≤ 0))))] [.own A66 ((stlR (evenI y)).length) c67 47 3 (encs encD (stlR (evenI y))), .own (some ⟨r65, 0, none⟩) 3 3 25 1 (encs encV ([.slice A58 ((evenI y).length) c59, .slice A63 ((bentN (evenI y) bd.a bd.b bd.c).length) c64, .slice Ao ((o.take 9).length) co] : List Value)), .own A63 ((bentN (evenI y) bd.a bd.b bd.c).length) c64 3 1 (encs encI (bentN (evenI y) bd.a bd.b bd.c)), .own A58 ((evenI y).length) c59 3 1 (encs encI (evenI y)), .own (some ⟨r9, 0, none⟩) 3 3 24 1 (encs encV ([.slice A2 ((madeI x).length) c3, .slice A7 ((bentD (madeI x) bd.a bd.b bd.c).length) c8, .slice Ar ((r.take 61).length) cr] : List Value)), .own A7 ((bentD (madeI x) bd.a bd.b bd.c).length) c8 47 3 (encs encD (bentD (madeI x) bd.a bd.b bd.c)), .own A2 ((madeI x).length) c3 47 3 (encs encD (madeI x)), .row r1 23 [.int .i64 bd.a, .int .i64 bd.b, .int .i64 bd.c]]
            refine wc_ite rfl (fun c273 => ?_) (fun c273 => ?_)
            · obtain ⟨m1, m2, m3, m4, m5⟩ := stlR_sgn (mem_at (hd_stlR_evenI_y__u (by omega) (by omega)))
              rw [getD_of (hd_evenI_y_d_stlR_evenI_y__u_frm (by omega) (by omega))] at m4
              rw [getD_of (hd_evenI_y_d_stlR_evenI_y__u_to (by omega) (by omega))] at m5
              exfalso; omega
            · refine wc_skip ?_
              refine pe_block _ ?_
              refine pe_seq ?_
              refine wc_region ?_
              refine wl_ex (ex_move rfl) rfl rfl ?_
              refine wl_ex (ex_add rfl rfl (by omega) (by omega)) rfl rfl ?_
              refine wl_ex (ex_assign rfl) rfl rfl ?_
              refine wl_nil ?_
              refine pe_again (u + 1) (Sub.cons rfl rfl (Sub.cons rfl rfl (Sub.cons rfl rfl (Sub.cons rfl rfl (Sub.cons rfl rfl (Sub.cons rfl rfl (Sub.cons rfl rfl (Sub.cons rfl rfl (Sub.cons rfl rfl (Sub.nil _)))))))))) (.cons (.head _ _) rfl (.cons (.head _ _) rfl (.cons (.head _ _) rfl (.cons (.head _ _) rfl (.cons (.head _ _) rfl (.cons (.head _ _) rfl (.cons (.head _ _) rfl (.cons (.head _ _) rfl (.nil _))))))))) ?_ ?_
              · show 0 ≤ (u + 1) ∧ (u + 1) ≤ ((stlR (evenI y)).length : Int)
                omega
              · first | omega | (simp only []; omega)
        · refine wc_exit ?_
          refine pe_seq_exit ?_
          refine pe_loop_exit ?_
          refine pe_block_exit ?_
          refine pe_seq ?_
          refine wc_seq ?_
          refine wc_draw [.own A66 ((stlR (evenI y)).length) c67 47 3 (encs encD (stlR (evenI y))), .own (some ⟨r65, 0, none⟩) 3 3 25 1 (encs encV ([.slice A58 ((evenI y).length) c59, .slice A63 ((bentN (evenI y) bd.a bd.b bd.c).length) c64, .slice Ao ((o.take 9).length) co] : List Value)), .own A63 ((bentN (evenI y) bd.a bd.b bd.c).length) c64 3 1 (encs encI (bentN (evenI y) bd.a bd.b bd.c)), .own A58 ((evenI y).length) c59 3 1 (encs encI (evenI y)), .own (some ⟨r9, 0, none⟩) 3 3 24 1 (encs encV ([.slice A2 ((madeI x).length) c3, .slice A7 ((bentD (madeI x) bd.a bd.b bd.c).length) c8, .slice Ar ((r.take 61).length) cr] : List Value)), .own A7 ((bentD (madeI x) bd.a bd.b bd.c).length) c8 47 3 (encs encD (bentD (madeI x) bd.a bd.b bd.c)), .own A2 ((madeI x).length) c3 47 3 (encs encD (madeI x)), .row r1 23 [.int .i64 bd.a, .int .i64 bd.b, .int .i64 bd.c]] [(0, true), (1, true), (2, true), (3, true), (4, true), (5, true), (6, true), (7, true), (8, true), (10, true), (11, true), (12, true), (13, true), (14, true), (17, true), (9, false), (15, false), (16, true)] mixed (by kernel_rfl) (.cons (.head _ _) rfl (.cons (.head _ _) rfl (.cons (.head _ _) rfl (.cons (.head _ _) rfl (.cons (.head _ _) rfl (.cons (.head _ _) rfl (.cons (.head _ _) rfl (.cons (.head _ _) rfl (.nil _))))))))) ?_
          refine cn_ex rfl (ex_move rfl) rfl rfl ?_
          refine cn_ex rfl (ex_move rfl) rfl rfl ?_
          refine cn_ex rfl (ex_move rfl) rfl rfl ?_
          refine cn_ex rfl (ex_indexAddrA (off' := 0) rfl rfl Try.underlying23 sz_3 (by omega) (by omega) (by simp)) rfl rfl ?_
          refine cn_ex rfl (ex_load rfl ag_3 (rd_row1 (.tail (.tail (.tail (.tail (.tail (.tail (.tail (.head _ _)))))))) rfl)) rfl rfl ?_
          refine cn_ex rfl (ex_indexAddrA (off' := 1) rfl rfl Try.underlying23 sz_3 (by omega) (by omega) (by simp)) rfl rfl ?_
          refine cn_ex rfl (ex_load rfl ag_3 (rd_row1 (.tail (.tail (.tail (.tail (.tail (.tail (.tail (.head _ _)))))))) rfl)) rfl rfl ?_
          refine cn_ex rfl (ex_indexAddrA (off' := 2) rfl rfl Try.underlying23 sz_3 (by omega) (by omega) (by simp)) rfl rfl ?_
          refine cn_ex rfl (ex_load rfl ag_3 (rd_row1 (.tail (.tail (.tail (.tail (.tail (.tail (.tail (.head _ _)))))))) rfl)) rfl rfl ?_
          refine cn_ex rfl (ex_move rfl) rfl rfl ?_
          refine cn_ex rfl (ex_move rfl) rfl rfl ?_
          refine cn_ex rfl (ex_len Try.underlying24 rfl) rfl rfl ?_
          refine cn_ex rfl (ex_min rfl rfl) rfl rfl ?_
          refine cn_ex rfl (ex_sliceH0 rfl rfl Try.underlying24 sz_47 (by omega) (by omega)) rfl rfl ?_
          refine cn_ex rfl (ex_move rfl) rfl rfl ?_
          refine cn_tail rfl ?_
          refine wl_callS [.tmp 276, .tmp 278, .tmp 280, .tmp 282] rfl ok_13 rfl (fun w hm => c_Bent A66 c67 (stlR (evenI y)) bd.a bd.b bd.c w (((sl_own (.head _ _))).at hm)  (by omega) (by assumption) (by assumption) (by assumption)) rfl fun A76 c77 => ?_
          refine cn_back (.cons (.tail (.head _ _)) rfl (.cons (.tail (.head _ _)) rfl (.cons (.tail (.head _ _)) rfl (.cons (.tail (.head _ _)) rfl (.cons (.tail (.head _ _)) rfl (.cons (.tail (.head _ _)) rfl (.cons (.tail (.head _ _)) rfl (.cons (.tail (.head _ _)) rfl (.nil _))))))))) ?_
          rw [hrn]
          refine cn_tail rfl ?_
          refine wl_buildSlice [.tmp 274, .tmp 275, .tmp 283, .tmp 288] rfl rfl Try.underlying29 sz_24 ze_24 rfl (by simp [Value.cells]) (by omega) (by omega) rfl fun r78 => ?_
          rw [show List.flatMap (fun x => x.cells.toList) ([.slice A66 ((stlR (evenI y)).length) c67, .slice A2 ((madeI x).length) c3, .slice A76 ((bentD (stlR (evenI y)) bd.a bd.b bd.c).length) c77, .slice Ar ((r.take 61).length) cr] : List Value) = encs encV ([.slice A66 ((stlR (evenI y)).length) c67, .slice A2 ((madeI x).length) c3, .slice A76 ((bentD (stlR (evenI y)) bd.a bd.b bd.c).length) c77, .slice Ar ((r.take 61).length) cr] : List Value) from rfl]
          refine cn_back (.cons (.tail (.tail (.head _ _))) rfl (.cons (.tail (.tail (.head _ _))) rfl (.cons (.tail (.tail (.head _ _))) rfl (.cons (.tail (.tail (.head _ _))) rfl (.cons (.tail (.tail (.head _ _))) rfl (.cons (.tail (.tail (.head _ _))) rfl (.cons (.tail (.tail (.head _ _))) rfl (.cons (.tail (.tail (.head _ _))) rfl (.nil _))))))))) ?_
          refine cn_ex rfl (ex_len Try.underlying29 rfl) rfl rfl ?_
          refine cn_nil ?_
          refine pe_seq ?_
          refine wc_block ?_
          refine wc_loop (σ := Int) (fun s => [(291, .int .i64 s), (2, .slice Ar r.length cr), (6, .pointer (some ⟨r1, 0, none⟩)), (11, .slice A2 ((madeI x).length) c3), (32, .slice A58 ((evenI y).length) c59), (172, .slice (some ⟨r65, 0, none⟩) 3 3), (173, .int .i64 ((3 : Nat) : Int)), (174, .int .i64 (0 : Int)), (289, .slice (some ⟨r78, 0, none⟩) 4 4), (290, .int .i64 ((4 : Nat) : Int))]) (fun s => [.own (some ⟨r78, 0, none⟩) 4 4 24 1 (encs encV ([.slice A66 ((stlR (evenI y)).length) c67, .slice A2 ((madeI x).length) c3, .slice A76 ((bentD (stlR (evenI y)) bd.a bd.b bd.c).length) c77, .slice Ar ((r.take 61).length) cr] : List Value)), .own A76 ((bentD (stlR (evenI y)) bd.a bd.b bd.c).length) c77 47 3 (encs encD (bentD (stlR (evenI y)) bd.a bd.b bd.c)), .own A66 ((stlR (evenI y)).length) c67 47 3 (encs encD (stlR (evenI y))), .own (some ⟨r65, 0, none⟩) 3 3 25 1 (encs encV ([.slice A58 ((evenI y).length) c59, .slice A63 ((bentN (evenI y) bd.a bd.b bd.c).length) c64, .slice Ao ((o.take 9).length) co] : List Value)), .own A63 ((bentN (evenI y) bd.a bd.b bd.c).length) c64 3 1 (encs encI (bentN (evenI y) bd.a bd.b bd.c)), .own A58 ((evenI y).length) c59 3 1 (encs encI (evenI y)), .own (some ⟨r9, 0, none⟩) 3 3 24 1 (encs encV ([.slice A2 ((madeI x).length) c3, .slice A7 ((bentD (madeI x) bd.a bd.b bd.c).length) c8, .slice Ar ((r.take 61).length) cr] : List Value)), .own A7 ((bentD (madeI x) bd.a bd.b bd.c).length) c8 47 3 (encs encD (bentD (madeI x) bd.a bd.b bd.c)), .own A2 ((madeI x).length) c3 47 3 (encs encD (madeI x)), .row r1 23 [.int .i64 bd.a, .int .i64 bd.b, .int .i64 bd.c]]) (fun s => 0 ≤ s ∧ s ≤ 4) (fun s => (4 - s).toNat) (0 : Int) (Sub.cons rfl rfl (Sub.cons rfl rfl (Sub.cons rfl rfl (Sub.cons rfl rfl (Sub.cons rfl rfl (Sub.cons rfl rfl (Sub.cons rfl rfl (Sub.cons rfl rfl (Sub.cons rfl rfl (Sub.cons rfl rfl (Sub.nil _))))))))))) (.cons (.head _ _) rfl (.cons (.head _ _) rfl (.cons (.head _ _) rfl (.cons (.head _ _) rfl (.cons (.head _ _) rfl (.cons (.head _ _) rfl (.cons (.head _ _) rfl (.cons (.head _ _) rfl (.cons (.head _ _) rfl (.cons (.head _ _) rfl (.nil _))))))))))) (by omega) ?_
          rintro kq hG
          show WC _ _ _ [(291, .int .i64 kq), (2, .slice Ar r.length cr), (6, .pointer (some ⟨r1, 0, none⟩)), (11, .slice A2 ((madeI x).length) c3), (32, .slice A58 ((evenI y).length) c59), (172, .slice (some ⟨r65, 0, none⟩) 3 3), (173, .int .i64 ((3 : Nat) : Int)), (174, .int .i64 (0 : Int)), (289, .slice (some ⟨r78, 0, none⟩) 4 4), (290, .int .i64 ((4 : Nat) : Int))] [.own (some ⟨r78, 0, none⟩) 4 4 24 1 (encs encV ([.slice A66 ((stlR (evenI y)).length) c67, .slice A2 ((madeI x).length) c3, .slice A76 ((bentD (stlR (evenI y)) bd.a bd.b bd.c).length) c77, .slice Ar ((r.take 61).length) cr] : List Value)), .own A76 ((bentD (stlR (evenI y)) bd.a bd.b bd.c).length) c77 47 3 (encs encD (bentD (stlR (evenI y)) bd.a bd.b bd.c)), .own A66 ((stlR (evenI y)).length) c67 47 3 (encs encD (stlR (evenI y))), .own (some ⟨r65, 0, none⟩) 3 3 25 1 (encs encV ([.slice A58 ((evenI y).length) c59, .slice A63 ((bentN (evenI y) bd.a bd.b bd.c).length) c64, .slice Ao ((o.take 9).length) co] : List Value)), .own A63 ((bentN (evenI y) bd.a bd.b bd.c).length) c64 3 1 (encs encI (bentN (evenI y) bd.a bd.b bd.c)), .own A58 ((evenI y).length) c59 3 1 (encs encI (evenI y)), .own (some ⟨r9, 0, none⟩) 3 3 24 1 (encs encV ([.slice A2 ((madeI x).length) c3, .slice A7 ((bentD (madeI x) bd.a bd.b bd.c).length) c8, .slice Ar ((r.take 61).length) cr] : List Value)), .own A7 ((bentD (madeI x) bd.a bd.b bd.c).length) c8 47 3 (encs encD (bentD (madeI x) bd.a bd.b bd.c)), .own A2 ((madeI x).length) c3 47 3 (encs encD (madeI x)), .row r1 23 [.int .i64 bd.a, .int .i64 bd.b, .int .i64 bd.c]]
          replace hG : 0 ≤ kq ∧ kq ≤ 4 := hG
          obtain ⟨k1, k2⟩ := hG
          refine wc_seq ?_
          refine wc_region ?_
          refine wl_ex (ex_lss rfl rfl) rfl rfl ?_
          refine wl_nil ?_
          refine pe_seq ?_
          refine wc_seq ?_
          refine wc_ite rfl (fun c292 => ?_) (fun c292 => ?_)
          · refine wc_skip ?_
            refine pe_seq ?_
            refine wc_seq ?_
            refine wc_block ?_
            refine wc_seq ?_
            refine wc_region ?_
            refine wl_ex (ex_indexAddrN rfl rfl rfl Try.underlying29 sz_24 (by omega) (by omega)) rfl rfl ?_
            rcases (show kq = 0 ∨ kq = 1 ∨ kq = 2 ∨ kq = 3 by omega) with rfl | rfl | rfl | rfl
            · refine wl_ex (ex_load rfl ag_24 (rd_enc (j := 0) encV_len (sl_own (.head _ _)) (show ([.slice A66 ((stlR (evenI y)).length) c67, .slice A2 ((madeI x).length) c3, .slice A76 ((bentD (stlR (evenI y)) bd.a bd.b bd.c).length) c77, .slice Ar ((r.take 61).length) cr] : List Value)[((0 : Int)).toNat]? = some (.slice A66 ((stlR (evenI y)).length) c67) from rfl) rfl)) rfl rfl ?_
              refine wl_ex (ex_assign rfl) rfl rfl ?_
              refine wl_nil ?_
              refine pe_seq ?_
              refine wc_seq ?_
              refine wc_region ?_
              refine wl_ex (ex_move rfl) rfl rfl ?_
              refine wl_ex (ex_move rfl) rfl rfl ?_
              refine wl_callV [.tmp 295, .tmp 296] rfl ok_31 rfl (fun w hm => c_Check A58 c59 (evenI y) A66 c67 (stlR (evenI y)) w (((sl_own (.tail (.tail (.tail (.tail (.tail (.head _ _)))))))).at hm) (((sl_own (.tail (.tail (.head _ _))))).at hm)  (by first | assumption | omega) (by first | assumption | omega)) rfl ?_
              refine wl_ex (ex_move rfl) rfl rfl ?_
              refine wl_ex (ex_move rfl) rfl rfl ?_
              refine wl_callV [.tmp 298, .tmp 299] rfl ok_32 rfl (fun w hm => c_CheckR A58 c59 (evenI y) A66 c67 (stlR (evenI y)) w (((sl_own (.tail (.tail (.tail (.tail (.tail (.head _ _)))))))).at hm) (((sl_own (.tail (.tail (.head _ _))))).at hm)  (by first | assumption | omega) (by first | assumption | omega)) rfl ?_
              refine wl_ex (ex_bneq Try.underlying4 rfl rfl) rfl rfl ?_
              refine wl_nil ?_
              refine pe_seq ?_
              refine wc_ite rfl (fun c301 => absurd c301 (fun e => e rfl)) (fun c301 => ?_)
              refine wc_skip ?_
              refine pe_block _ ?_
              refine pe_seq ?_
              refine wc_region ?_
              refine wl_ex (ex_add rfl rfl (by omega) (by omega)) rfl rfl ?_
              refine wl_ex (ex_move rfl) rfl rfl ?_
              refine wl_nil ?_
              refine pe_again ((0 : Int) + 1) (Sub.cons rfl rfl (Sub.cons rfl rfl (Sub.cons rfl rfl (Sub.cons rfl rfl (Sub.cons rfl rfl (Sub.cons rfl rfl (Sub.cons rfl rfl (Sub.cons rfl rfl (Sub.cons rfl rfl (Sub.cons rfl rfl (Sub.nil _))))))))))) (.cons (.head _ _) rfl (.cons (.head _ _) rfl (.cons (.head _ _) rfl (.cons (.head _ _) rfl (.cons (.head _ _) rfl (.cons (.head _ _) rfl (.cons (.head _ _) rfl (.cons (.head _ _) rfl (.cons (.head _ _) rfl (.cons (.head _ _) rfl (.nil _))))))))))) ?_ ?_
              · show 0 ≤ ((0 : Int) + 1) ∧ ((0 : Int) + 1) ≤ 4
                omega
              · first | omega | (simp only []; omega)
            · refine wl_ex (ex_load rfl ag_24 (rd_enc (j := 0) encV_len (sl_own (.head _ _)) (show ([.slice A66 ((stlR (evenI y)).length) c67, .slice A2 ((madeI x).length) c3, .slice A76 ((bentD (stlR (evenI y)) bd.a bd.b bd.c).length) c77, .slice Ar ((r.take 61).length) cr] : List Value)[((1 : Int)).toNat]? = some (.slice A2 ((madeI x).length) c3) from rfl) rfl)) rfl rfl ?_
              refine wl_ex (ex_assign rfl) rfl rfl ?_
              refine wl_nil ?_
              refine pe_seq ?_
              refine wc_seq ?_
              refine wc_region ?_
              refine wl_ex (ex_move rfl) rfl rfl ?_
              refine wl_ex (ex_move rfl) rfl rfl ?_
              refine wl_callV [.tmp 295, .tmp 296] rfl ok_31 rfl (fun w hm => c_Check A58 c59 (evenI y) A2 c3 (madeI x) w (((sl_own (.tail (.tail (.tail (.tail (.tail (.head _ _)))))))).at hm) (((sl_own (.tail (.tail (.tail (.tail (.tail (.tail (.tail (.tail (.head _ _))))))))))).at hm)  (by first | assumption | omega) (by first | assumption | omega)) rfl ?_
              refine wl_ex (ex_move rfl) rfl rfl ?_
              refine wl_ex (ex_move rfl) rfl rfl ?_
              refine wl_callV [.tmp 298, .tmp 299] rfl ok_32 rfl (fun w hm => c_CheckR A58 c59 (evenI y) A2 c3 (madeI x) w (((sl_own (.tail (.tail (.tail (.tail (.tail (.head _ _)))))))).at hm) (((sl_own (.tail (.tail (.tail (.tail (.tail (.tail (.tail (.tail (.head _ _))))))))))).at hm)  (by first | assumption | omega) (by first | assumption | omega)) rfl ?_
              refine wl_ex (ex_bneq Try.underlying4 rfl rfl) rfl rfl ?_
              refine wl_nil ?_
              refine pe_seq ?_
              refine wc_ite rfl (fun c301 => absurd c301 (fun e => e rfl)) (fun c301 => ?_)
              refine wc_skip ?_
              refine pe_block _ ?_
              refine pe_seq ?_
              refine wc_region ?_
              refine wl_ex (ex_add rfl rfl (by omega) (by omega)) rfl rfl ?_
              refine wl_ex (ex_move rfl) rfl rfl ?_
              refine wl_nil ?_
              refine pe_again ((1 : Int) + 1) (Sub.cons rfl rfl (Sub.cons rfl rfl (Sub.cons rfl rfl (Sub.cons rfl rfl (Sub.cons rfl rfl (Sub.cons rfl rfl (Sub.cons rfl rfl (Sub.cons rfl rfl (Sub.cons rfl rfl (Sub.cons rfl rfl (Sub.nil _))))))))))) (.cons (.head _ _) rfl (.cons (.head _ _) rfl (.cons (.head _ _) rfl (.cons (.head _ _) rfl (.cons (.head _ _) rfl (.cons (.head _ _) rfl (.cons (.head _ _) rfl (.cons (.head _ _) rfl (.cons (.head _ _) rfl (.cons (.head _ _) rfl (.nil _))))))))))) ?_ ?_
              · show 0 ≤ ((1 : Int) + 1) ∧ ((1 : Int) + 1) ≤ 4
                omega
              · first | omega | (simp only []; omega)
            · refine wl_ex (ex_load rfl ag_24 (rd_enc (j := 0) encV_len (sl_own (.head _ _)) (show ([.slice A66 ((stlR (evenI y)).length) c67, .slice A2 ((madeI x).length) c3, .slice A76 ((bentD (stlR (evenI y)) bd.a bd.b bd.c).length) c77, .slice Ar ((r.take 61).length) cr] : List Value)[((2 : Int)).toNat]? = some (.slice A76 ((bentD (stlR (evenI y)) bd.a bd.b bd.c).length) c77) from rfl) rfl)) rfl rfl ?_
              refine wl_ex (ex_assign rfl) rfl rfl ?_
              refine wl_nil ?_
              refine pe_seq ?_
              refine wc_seq ?_
              refine wc_region ?_
              refine wl_ex (ex_move rfl) rfl rfl ?_
              refine wl_ex (ex_move rfl) rfl rfl ?_
              refine wl_callV [.tmp 295, .tmp 296] rfl ok_31 rfl (fun w hm => c_Check A58 c59 (evenI y) A76 c77 (bentD (stlR (evenI y)) bd.a bd.b bd.c) w (((sl_own (.tail (.tail (.tail (.tail (.tail (.head _ _)))))))).at hm) (((sl_own (.tail (.head _ _)))).at hm)  (by first | assumption | omega) (by first | assumption | omega)) rfl ?_
              refine wl_ex (ex_move rfl) rfl rfl ?_
              refine wl_ex (ex_move rfl) rfl rfl ?_
              refine wl_callV [.tmp 298, .tmp 299] rfl ok_32 rfl (fun w hm => c_CheckR A58 c59 (evenI y) A76 c77 (bentD (stlR (evenI y)) bd.a bd.b bd.c) w (((sl_own (.tail (.tail (.tail (.tail (.tail (.head _ _)))))))).at hm) (((sl_own (.tail (.head _ _)))).at hm)  (by first | assumption | omega) (by first | assumption | omega)) rfl ?_
              refine wl_ex (ex_bneq Try.underlying4 rfl rfl) rfl rfl ?_
              refine wl_nil ?_
              refine pe_seq ?_
              refine wc_ite rfl (fun c301 => absurd c301 (fun e => e rfl)) (fun c301 => ?_)
              refine wc_skip ?_
              refine pe_block _ ?_
              refine pe_seq ?_
              refine wc_region ?_
              refine wl_ex (ex_add rfl rfl (by omega) (by omega)) rfl rfl ?_
              refine wl_ex (ex_move rfl) rfl rfl ?_
              refine wl_nil ?_
              refine pe_again ((2 : Int) + 1) (Sub.cons rfl rfl (Sub.cons rfl rfl (Sub.cons rfl rfl (Sub.cons rfl rfl (Sub.cons rfl rfl (Sub.cons rfl rfl (Sub.cons rfl rfl (Sub.cons rfl rfl (Sub.cons rfl rfl (Sub.cons rfl rfl (Sub.nil _))))))))))) (.cons (.head _ _) rfl (.cons (.head _ _) rfl (.cons (.head _ _) rfl (.cons (.head _ _) rfl (.cons (.head _ _) rfl (.cons (.head _ _) rfl (.cons (.head _ _) rfl (.cons (.head _ _) rfl (.cons (.head _ _) rfl (.cons (.head _ _) rfl (.nil _))))))))))) ?_ ?_
              · show 0 ≤ ((2 : Int) + 1) ∧ ((2 : Int) + 1) ≤ 4
                omega
              · first | omega | (simp only []; omega)
            · refine wl_ex (ex_load rfl ag_24 (rd_enc (j := 0) encV_len (sl_own (.head _ _)) (show ([.slice A66 ((stlR (evenI y)).length) c67, .slice A2 ((madeI x).length) c3, .slice A76 ((bentD (stlR (evenI y)) bd.a bd.b bd.c).length) c77, .slice Ar ((r.take 61).length) cr] : List Value)[((3 : Int)).toNat]? = some (.slice Ar ((r.take 61).length) cr) from rfl) rfl)) rfl rfl ?_
              refine wl_ex (ex_assign rfl) rfl rfl ?_
              refine wl_nil ?_
              refine pe_seq ?_
              refine wc_seq ?_
              refine wc_region ?_
              refine wl_ex (ex_move rfl) rfl rfl ?_
              refine wl_ex (ex_move rfl) rfl rfl ?_
              refine wl_callV [.tmp 295, .tmp 296] rfl ok_31 rfl (fun w hm => c_Check A58 c59 (evenI y) Ar cr (r.take 61) w (((sl_own (.tail (.tail (.tail (.tail (.tail (.head _ _)))))))).at hm) (((sl_arg hrt rfl)).at hm)  (by first | assumption | omega) (by first | assumption | omega)) rfl ?_
              refine wl_ex (ex_move rfl) rfl rfl ?_
              refine wl_ex (ex_move rfl) rfl rfl ?_
              refine wl_callV [.tmp 298, .tmp 299] rfl ok_32 rfl (fun w hm => c_CheckR A58 c59 (evenI y) Ar cr (r.take 61) w (((sl_own (.tail (.tail (.tail (.tail (.tail (.head _ _)))))))).at hm) (((sl_arg hrt rfl)).at hm)  (by first | assumption | omega) (by first | assumption | omega)) rfl ?_
              refine wl_ex (ex_bneq Try.underlying4 rfl rfl) rfl rfl ?_
              refine wl_nil ?_
              refine pe_seq ?_
              refine wc_ite rfl (fun c301 => absurd c301 (fun e => e rfl)) (fun c301 => ?_)
              refine wc_skip ?_
              refine pe_block _ ?_
              refine pe_seq ?_
              refine wc_region ?_
              refine wl_ex (ex_add rfl rfl (by omega) (by omega)) rfl rfl ?_
              refine wl_ex (ex_move rfl) rfl rfl ?_
              refine wl_nil ?_
              refine pe_again ((3 : Int) + 1) (Sub.cons rfl rfl (Sub.cons rfl rfl (Sub.cons rfl rfl (Sub.cons rfl rfl (Sub.cons rfl rfl (Sub.cons rfl rfl (Sub.cons rfl rfl (Sub.cons rfl rfl (Sub.cons rfl rfl (Sub.cons rfl rfl (Sub.nil _))))))))))) (.cons (.head _ _) rfl (.cons (.head _ _) rfl (.cons (.head _ _) rfl (.cons (.head _ _) rfl (.cons (.head _ _) rfl (.cons (.head _ _) rfl (.cons (.head _ _) rfl (.cons (.head _ _) rfl (.cons (.head _ _) rfl (.cons (.head _ _) rfl (.nil _))))))))))) ?_ ?_
              · show 0 ≤ ((3 : Int) + 1) ∧ ((3 : Int) + 1) ≤ 4
                omega
              · first | omega | (simp only []; omega)
          · refine wc_exit ?_
            refine pe_seq_exit ?_
            refine pe_loop_exit ?_
            refine pe_block_exit ?_
            refine pe_block _ ?_
            refine pe_seq ?_
            refine wc_region ?_
            refine wl_ex (ex_add rfl rfl (by omega) (by omega)) rfl rfl ?_
            refine wl_ex (ex_move rfl) rfl rfl ?_
            refine wl_nil ?_
            refine pe_again ((0 : Int) + 1) (Sub.cons rfl rfl (Sub.cons rfl rfl (Sub.cons rfl rfl (Sub.cons rfl rfl (Sub.cons rfl rfl (Sub.cons rfl rfl (Sub.nil _))))))) (.cons (.tail (.tail (.tail (.head _ _)))) rfl (.cons (.tail (.tail (.tail (.head _ _)))) rfl (.cons (.tail (.tail (.tail (.head _ _)))) rfl (.cons (.tail (.tail (.tail (.head _ _)))) rfl (.cons (.tail (.tail (.tail (.head _ _)))) rfl (.cons (.tail (.tail (.tail (.head _ _)))) rfl (.cons (.tail (.tail (.tail (.head _ _)))) rfl (.nil _)))))))) ?_ ?_
            · show 0 ≤ ((0 : Int) + 1) ∧ ((0 : Int) + 1) ≤ 3
              omega
            · first | omega | (simp only []; omega)
      · refine wl_ex (ex_load rfl ag_25 (rd_enc (j := 0) encV_len (sl_own (.head _ _)) (show ([.slice A58 ((evenI y).length) c59, .slice A63 ((bentN (evenI y) bd.a bd.b bd.c).length) c64, .slice Ao ((o.take 9).length) co] : List Value)[((1 : Int)).toNat]? = some (.slice A63 ((bentN (evenI y) bd.a bd.b bd.c).length) c64) from rfl) rfl)) rfl rfl ?_
        refine wl_ex (ex_assign rfl) rfl rfl ?_
        refine wl_nil ?_
        refine pe_seq ?_
        refine wc_seq ?_
        refine wc_region ?_
        refine wl_ex (ex_move rfl) rfl rfl ?_
        refine wl_callV [.tmp 179] rfl ok_28 rfl (fun w hm => c_Fewest A63 c64 (bentN (evenI y) bd.a bd.b bd.c) w (((sl_own (.tail (.head _ _)))).at hm)  (by first | assumption | omega)) rfl ?_
        refine wl_ex (ex_move rfl) rfl rfl ?_
        refine wl_ex (ex_extract rfl rfl) rfl rfl ?_
        refine wl_ex (ex_extract rfl rfl) rfl rfl ?_
        refine wl_ex (ex_assign rfl) rfl rfl ?_
        refine wl_ex (ex_assign rfl) rfl rfl ?_
        refine wl_nil ?_
        refine pe_seq ?_
        refine wc_seq ?_
        refine wc_region ?_
        refine wl_ex (ex_move rfl) rfl rfl ?_
        refine wl_callV [.tmp 184] rfl ok_29 rfl (fun w hm => c_FewestR A63 c64 (bentN (evenI y) bd.a bd.b bd.c) w (((sl_own (.tail (.head _ _)))).at hm)  (by first | assumption | omega)) rfl ?_
        refine wl_ex (ex_move rfl) rfl rfl ?_
        refine wl_ex (ex_extract rfl rfl) rfl rfl ?_
        refine wl_ex (ex_extract rfl rfl) rfl rfl ?_
        refine wl_ex (ex_assign rfl) rfl rfl ?_
        refine wl_ex (ex_assign rfl) rfl rfl ?_
        refine wl_nil ?_
        refine pe_seq ?_
        refine wc_seq ?_
        refine wc_region ?_
        refine wl_ex (ex_move rfl) rfl rfl ?_
        refine wl_callS2 [.tmp 189] rfl ok_30 rfl (fun w hm => c_Settle A63 c64 (bentN (evenI y) bd.a bd.b bd.c) w (((sl_own (.tail (.head _ _)))).at hm)  (by first | assumption | omega)) rfl fun A79 c80 => ?_
        refine wl_ex (ex_move rfl) rfl rfl ?_
        refine wl_ex (ex_extract rfl rfl) rfl rfl ?_
        refine wl_ex (ex_extract rfl rfl) rfl rfl ?_
        refine wl_ex (ex_assign rfl) rfl rfl ?_
        refine wl_ex (ex_assign rfl) rfl rfl ?_
        refine wl_nil ?_
        refine pe_seq ?_
        refine wc_seq ?_
        refine wc_seq ?_
        refine wc_region ?_
        refine wl_ex (ex_move rfl) rfl rfl ?_
        refine wl_ex (ex_move rfl) rfl rfl ?_
        refine wl_ex (ex_neq rfl rfl) rfl rfl ?_
        refine wl_ex (ex_move rfl) rfl rfl ?_
        refine wl_pass rfl rfl rfl (decide_eq_false (fun e => e rfl)) ?_
        refine wl_ex (ex_move rfl) rfl rfl ?_
        refine wl_pass rfl rfl rfl (decide_eq_false (fun e => e rfl)) ?_
        refine wl_ex (ex_move rfl) rfl rfl ?_
        refine wl_pass rfl rfl rfl (decide_eq_false (fun e => e rfl)) ?_
        refine wl_ex (ex_neq rfl rfl) rfl rfl ?_
        refine wl_ex (ex_pickf rfl (decide_eq_false (fun e => e rfl)) rfl) rfl rfl ?_
        refine wl_ex (ex_move rfl) rfl rfl ?_
        refine wl_pass rfl rfl rfl (decide_eq_false (fun e => e rfl)) ?_
        refine wl_ex (ex_move rfl) rfl rfl ?_
        refine wl_pass rfl rfl rfl (decide_eq_false (fun e => e rfl)) ?_
        refine wl_ex (ex_move rfl) rfl rfl ?_
        refine wl_pass rfl rfl rfl (decide_eq_false (fun e => e rfl)) ?_
        refine wl_ex (ex_neq rfl rfl) rfl rfl ?_
        refine wl_ex (ex_pickf rfl (decide_eq_false (fun e => e rfl)) rfl) rfl rfl ?_
        refine wl_ex (ex_move rfl) rfl rfl ?_
        refine wl_pass rfl rfl rfl (decide_eq_false (fun e => e rfl)) ?_
        refine wl_ex (ex_move rfl) rfl rfl ?_
        refine wl_pass rfl rfl rfl (decide_eq_false (fun e => e rfl)) ?_
        refine wl_ex (ex_len Try.underlying24 rfl) rfl rfl ?_
        refine wl_pass rfl rfl rfl (decide_eq_false (fun e => e rfl)) ?_
        refine wl_ex (ex_move rfl) rfl rfl ?_
        refine wl_pass rfl rfl rfl (decide_eq_false (fun e => e rfl)) ?_
        refine wl_ex (ex_neq rfl rfl) rfl rfl ?_
        refine wl_ex (ex_pickf rfl (decide_eq_false (fun e => e rfl)) rfl) rfl rfl ?_
        refine wl_nil ?_
        refine pe_seq ?_
        refine wc_ite rfl (fun c211 => absurd c211 (fun e => e rfl)) (fun c211 => ?_)
        refine wc_skip ?_
        refine pe_seq ?_
        refine wc_seq ?_
        refine wc_seq ?_
        refine wc_region ?_
        refine wl_ex (ex_assign rfl) rfl rfl ?_
        refine wl_nil ?_
        refine pe_seq ?_
        refine wc_block ?_
        refine wc_loop (σ := Int) (fun s => [(39, .int .i64 s), (2, .slice Ar r.length cr), (6, .pointer (some ⟨r1, 0, none⟩)), (11, .slice A2 ((madeI x).length) c3), (32, .slice A63 ((bentN (evenI y) bd.a bd.b bd.c).length) c64), (37, .slice A79 ((stlR (bentN (evenI y) bd.a bd.b bd.c)).length) c80), (172, .slice (some ⟨r65, 0, none⟩) 3 3), (173, .int .i64 ((3 : Nat) : Int)), (174, .int .i64 (1 : Int))]) (fun s => [.own A79 ((stlR (bentN (evenI y) bd.a bd.b bd.c)).length) c80 47 3 (encs encD (stlR (bentN (evenI y) bd.a bd.b bd.c))), .own (some ⟨r65, 0, none⟩) 3 3 25 1 (encs encV ([.slice A58 ((evenI y).length) c59, .slice A63 ((bentN (evenI y) bd.a bd.b bd.c).length) c64, .slice Ao ((o.take 9).length) co] : List Value)), .own A63 ((bentN (evenI y) bd.a bd.b bd.c).length) c64 3 1 (encs encI (bentN (evenI y) bd.a bd.b bd.c)), .own A58 ((evenI y).length) c59 3 1 (encs encI (evenI y)), .own (some ⟨r9, 0, none⟩) 3 3 24 1 (encs encV ([.slice A2 ((madeI x).length) c3, .slice A7 ((bentD (madeI x) bd.a bd.b bd.c).length) c8, .slice Ar ((r.take 61).length) cr] : List Value)), .own A7 ((bentD (madeI x) bd.a bd.b bd.c).length) c8 47 3 (encs encD (bentD (madeI x) bd.a bd.b bd.c)), .own A2 ((madeI x).length) c3 47 3 (encs encD (madeI x)), .row r1 23 [.int .i64 bd.a, .int .i64 bd.b, .int .i64 bd.c]]) (fun s => 0 ≤ s ∧ s ≤ ((stlR (bentN (evenI y) bd.a bd.b bd.c)).length : Int)) (fun s => (((stlR (bentN (evenI y) bd.a bd.b bd.c)).length : Int) - s).toNat) (0 : Int) (Sub.cons rfl rfl (Sub.cons rfl rfl (Sub.cons rfl rfl (Sub.cons rfl rfl (Sub.cons rfl rfl (Sub.cons rfl rfl (Sub.cons rfl rfl (Sub.cons rfl rfl (Sub.cons rfl rfl (Sub.nil _)))))))))) (.cons (.head _ _) rfl (.cons (.head _ _) rfl (.cons (.head _ _) rfl (.cons (.head _ _) rfl (.cons (.head _ _) rfl (.cons (.head _ _) rfl (.cons (.head _ _) rfl (.cons (.head _ _) rfl (.nil _))))))))) (by omega) ?_
        rintro u hG
        show WC _ _ _ [(39, .int .i64 u), (2, .slice Ar r.length cr), (6, .pointer (some ⟨r1, 0, none⟩)), (11, .slice A2 ((madeI x).length) c3), (32, .slice A63 ((bentN (evenI y) bd.a bd.b bd.c).length) c64), (37, .slice A79 ((stlR (bentN (evenI y) bd.a bd.b bd.c)).length) c80), (172, .slice (some ⟨r65, 0, none⟩) 3 3), (173, .int .i64 ((3 : Nat) : Int)), (174, .int .i64 (1 : Int))] [.own A79 ((stlR (bentN (evenI y) bd.a bd.b bd.c)).length) c80 47 3 (encs encD (stlR (bentN (evenI y) bd.a bd.b bd.c))), .own (some ⟨r65, 0, none⟩) 3 3 25 1 (encs encV ([.slice A58 ((evenI y).length) c59, .slice A63 ((bentN (evenI y) bd.a bd.b bd.c).length) c64, .slice Ao ((o.take 9).length) co] : List Value)), .own A63 ((bentN (evenI y) bd.a bd.b bd.c).length) c64 3 1 (encs encI (bentN (evenI y) bd.a bd.b bd.c)), .own A58 ((evenI y).length) c59 3 1 (encs encI (evenI y)), .own (some ⟨r9, 0, none⟩) 3 3 24 1 (encs encV ([.slice A2 ((madeI x).length) c3, .slice A7 ((bentD (madeI x) bd.a bd.b bd.c).length) c8, .slice Ar ((r.take 61).length) cr] : List Value)), .own A7 ((bentD (madeI x) bd.a bd.b bd.c).length) c8 47 3 (encs encD (bentD (madeI x) bd.a bd.b bd.c)), .own A2 ((madeI x).length) c3 47 3 (encs encD (madeI x)), .row r1 23 [.int .i64 bd.a, .int .i64 bd.b, .int .i64 bd.c]]
        replace hG : 0 ≤ u ∧ u ≤ ((stlR (bentN (evenI y) bd.a bd.b bd.c)).length : Int) := hG
        obtain ⟨u1, u2⟩ := hG
        refine wc_seq ?_
        refine wc_seq ?_
        refine wc_region ?_
        refine wl_ex (ex_move rfl) rfl rfl ?_
        refine wl_ex (ex_move rfl) rfl rfl ?_
        refine wl_ex (ex_len Try.underlying24 rfl) rfl rfl ?_
        refine wl_ex (ex_lss rfl rfl) rfl rfl ?_
        refine wl_nil ?_
        refine pe_seq ?_
        refine wc_ite rfl (fun c215 => ?_) (fun c215 => ?_)
        · refine wc_skip ?_
          refine pe_seq ?_
          refine wc_seq ?_
          refine wc_block ?_
          obtain ⟨d_stlR_bentN_evenI_y_bd_a_bd_b_bd_c__u, hd_stlR_bentN_evenI_y_bd_a_bd_b_bd_c__u⟩ := get_if (stlR (bentN (evenI y) bd.a bd.b bd.c)) u
          obtain ⟨d_bentN_evenI_y_bd_a_bd_b_bd_c_d_stlR_bentN_evenI_y_bd_a_bd_b_bd_c__u_frm, hd_bentN_evenI_y_bd_a_bd_b_bd_c_d_stlR_bentN_evenI_y_bd_a_bd_b_bd_c__u_frm⟩ := get_if (bentN (evenI y) bd.a bd.b bd.c) d_stlR_bentN_evenI_y_bd_a_bd_b_bd_c__u.frm
          obtain ⟨d_bentN_evenI_y_bd_a_bd_b_bd_c_d_stlR_bentN_evenI_y_bd_a_bd_b_bd_c__u_to, hd_bentN_evenI_y_bd_a_bd_b_bd_c_d_stlR_bentN_evenI_y_bd_a_bd_b_bd_c__u_to⟩ := get_if (bentN (evenI y) bd.a bd.b bd.c) d_stlR_bentN_evenI_y_bd_a_bd_b_bd_c__u.to
          refine wc_cut (σ := Unit) (fun _ => [(2, .slice Ar r.length cr), (6, .pointer (some ⟨r1, 0, none⟩)), (11, .slice A2 ((madeI x).length) c3), (32, .slice A63 ((bentN (evenI y) bd.a bd.b bd.c).length) c64), (37, .slice A79 ((stlR (bentN (evenI y) bd.a bd.b bd.c)).length) c80), (39, .int .i64 u), (172, .slice (some ⟨r65, 0, none⟩) 3 3), (173, .int .i64 ((3 : Nat) : Int)), (174, .int .i64 (1 : Int)), (273, .bool (decide ((((((d_stlR_bentN_evenI_y_bd_a_bd_b_bd_c__u.frm < 0) ∨ (((bentN (evenI y) bd.a bd.b bd.c).length : Int) ≤ d_stlR_bentN_evenI_y_bd_a_bd_b_bd_c__u.frm)) ∨ (d_stlR_bentN_evenI_y_bd_a_bd_b_bd_c__u.to < 0)) ∨ (((bentN (evenI y) bd.a bd.b bd.c).length : Int) ≤ d_stlR_bentN_evenI_y_bd_a_bd_b_bd_c__u.to)) ∨ (0 ≤ d_bentN_evenI_y_bd_a_bd_b_bd_c_d_stlR_bentN_evenI_y_bd_a_bd_b_bd_c__u_frm)) ∨ (d_bentN_evenI_y_bd_a_bd_b_bd_c_d_stlR_bentN_evenI_y_bd_a_bd_b_bd_c__u_to ≤ 0))))]) (fun _ => [.own A79 ((stlR (bentN (evenI y) bd.a bd.b bd.c)).length) c80 47 3 (encs encD (stlR (bentN (evenI y) bd.a bd.b bd.c))), .own (some ⟨r65, 0, none⟩) 3 3 25 1 (encs encV ([.slice A58 ((evenI y).length) c59, .slice A63 ((bentN (evenI y) bd.a bd.b bd.c).length) c64, .slice Ao ((o.take 9).length) co] : List Value)), .own A63 ((bentN (evenI y) bd.a bd.b bd.c).length) c64 3 1 (encs encI (bentN (evenI y) bd.a bd.b bd.c)), .own A58 ((evenI y).length) c59 3 1 (encs encI (evenI y)), .own (some ⟨r9, 0, none⟩) 3 3 24 1 (encs encV ([.slice A2 ((madeI x).length) c3, .slice A7 ((bentD (madeI x) bd.a bd.b bd.c).length) c8, .slice Ar ((r.take 61).length) cr] : List Value)), .own A7 ((bentD (madeI x) bd.a bd.b bd.c).length) c8 47 3 (encs encD (bentD (madeI x) bd.a bd.b bd.c)), .own A2 ((madeI x).length) c3 47 3 (encs encD (madeI x)), .row r1 23 [.int .i64 bd.a, .int .i64 bd.b, .int .i64 bd.c]]) (fun _ => True) ?_ ?_
          · refine wc_region ?_
            refine wl_ex (ex_move rfl) rfl rfl ?_
            refine wl_ex (ex_move rfl) rfl rfl ?_
            refine wl_ex (ex_indexAddr rfl rfl Try.underlying24 sz_47 (sl_own (.head _ _)) (by omega) (by omega) (enc_pos encD_len (by omega))) rfl rfl ?_
            refine wl_ex (ex_fieldAddr (off' := oOf A79 + (u).toNat * 3 + 0) rfl Try.underlying47 rfl sz_3 rfl rfl) rfl rfl ?_
            refine wl_ex (ex_load rfl ag_3 (rd_enc (j := 0) encD_len (sl_own (.head _ _)) (hd_stlR_bentN_evenI_y_bd_a_bd_b_bd_c__u (by omega) (by omega)) rfl)) rfl rfl ?_
            refine wl_ex (ex_lss rfl rfl) rfl rfl ?_
            refine wl_ex (ex_move rfl) rfl rfl ?_
            by_cases g81 : d_stlR_bentN_evenI_y_bd_a_bd_b_bd_c__u.frm < 0
            · refine wl_skip rfl rfl rfl (fun h => of_decide_eq_false (Value.bool.inj h) g81) rfl rfl ?_
              refine wl_skip rfl rfl rfl (fun h => of_decide_eq_false (Value.bool.inj h) g81) rfl rfl ?_
              refine wl_skip rfl rfl rfl (fun h => of_decide_eq_false (Value.bool.inj h) g81) rfl rfl ?_
              refine wl_skip rfl rfl rfl (fun h => of_decide_eq_false (Value.bool.inj h) g81) rfl rfl ?_
              refine wl_skip rfl rfl rfl (fun h => of_decide_eq_false (Value.bool.inj h) g81) rfl rfl ?_
              refine wl_skip rfl rfl rfl (fun h => of_decide_eq_false (Value.bool.inj h) g81) rfl rfl ?_
              refine wl_skip rfl rfl rfl (fun h => of_decide_eq_false (Value.bool.inj h) g81) rfl rfl ?_
              refine wl_skip rfl rfl rfl (fun h => of_decide_eq_false (Value.bool.inj h) g81) rfl rfl ?_
              refine wl_ex (ex_pickt rfl (decide_eq_true g81) rfl) rfl rfl ?_
              refine wl_ex (ex_move rfl) rfl rfl ?_
              refine wl_skip rfl rfl rfl (by simp) rfl rfl ?_
              refine wl_skip rfl rfl rfl (by simp) rfl rfl ?_
              refine wl_skip rfl rfl rfl (by simp) rfl rfl ?_
              refine wl_skip rfl rfl rfl (by simp) rfl rfl ?_
              refine wl_skip rfl rfl rfl (by simp) rfl rfl ?_
              refine wl_skip rfl rfl rfl (by simp) rfl rfl ?_
              refine wl_ex (ex_pickt rfl rfl rfl) rfl rfl ?_
              refine wl_ex (ex_move rfl) rfl rfl ?_
              refine wl_skip rfl rfl rfl (by simp) rfl rfl ?_
              refine wl_skip rfl rfl rfl (by simp) rfl rfl ?_
              refine wl_skip rfl rfl rfl (by simp) rfl rfl ?_
              refine wl_skip rfl rfl rfl (by simp) rfl rfl ?_
              refine wl_skip rfl rfl rfl (by simp) rfl rfl ?_
              refine wl_skip rfl rfl rfl (by simp) rfl rfl ?_
              refine wl_skip rfl rfl rfl (by simp) rfl rfl ?_
              refine wl_skip rfl rfl rfl (by simp) rfl rfl ?_
              refine wl_ex (ex_pickt rfl rfl rfl) rfl rfl ?_
              refine wl_ex (ex_move rfl) rfl rfl ?_
              refine wl_skip rfl rfl rfl (by simp) rfl rfl ?_
              refine wl_skip rfl rfl rfl (by simp) rfl rfl ?_
              refine wl_skip rfl rfl rfl (by simp) rfl rfl ?_
              refine wl_skip rfl rfl rfl (by simp) rfl rfl ?_
              refine wl_skip rfl rfl rfl (by simp) rfl rfl ?_
              refine wl_skip rfl rfl rfl (by simp) rfl rfl ?_
              refine wl_skip rfl rfl rfl (by simp) rfl rfl ?_
              refine wl_skip rfl rfl rfl (by simp) rfl rfl ?_
              refine wl_skip rfl rfl rfl (by simp) rfl rfl ?_
              refine wl_ex (ex_pickt rfl rfl rfl) rfl rfl ?_
              refine wl_ex (ex_move rfl) rfl rfl ?_
              refine wl_skip rfl rfl rfl (by simp) rfl rfl ?_
              refine wl_skip rfl rfl rfl (by simp) rfl rfl ?_
              refine wl_skip rfl rfl rfl (by simp) rfl rfl ?_
              refine wl_skip rfl rfl rfl (by simp) rfl rfl ?_
              refine wl_skip rfl rfl rfl (by simp) rfl rfl ?_
              refine wl_skip rfl rfl rfl (by simp) rfl rfl ?_
              refine wl_skip rfl rfl rfl (by simp) rfl rfl ?_
              refine wl_skip rfl rfl rfl (by simp) rfl rfl ?_
              refine wl_skip rfl rfl rfl (by simp) rfl rfl ?_
              refine wl_ex (ex_pickt rfl rfl rfl) rfl rfl ?_
              refine wl_nil ?_
              refine pe_cut () (Sub.cons rfl rfl (Sub.cons rfl rfl (Sub.cons rfl rfl (Sub.cons rfl rfl (Sub.cons rfl rfl (Sub.cons rfl rfl (Sub.cons rfl rfl (Sub.cons rfl rfl (Sub.cons rfl rfl (Sub.cons rfl (congrArg Value.bool (by first | (simp [g81]; done) | grind)) (Sub.nil _))))))))))) (.cons (.head _ _) rfl (.cons (.head _ _) rfl (.cons (.head _ _) rfl (.cons (.head _ _) rfl (.cons (.head _ _) rfl (.cons (.head _ _) rfl (.cons (.head _ _) rfl (.cons (.head _ _) rfl (.nil _))))))))) trivial
            · refine wl_pass rfl rfl rfl (decide_eq_false g81) ?_
              refine wl_ex (ex_move rfl) rfl rfl ?_
              refine wl_pass rfl rfl rfl (decide_eq_false g81) ?_
              refine wl_ex (ex_move rfl) rfl rfl ?_
              refine wl_pass rfl rfl rfl (decide_eq_false g81) ?_
              refine wl_ex (ex_indexAddr rfl rfl Try.underlying24 sz_47 (sl_own (.head _ _)) (by omega) (by omega) (enc_pos encD_len (by omega))) rfl rfl ?_
              refine wl_pass rfl rfl rfl (decide_eq_false g81) ?_
              refine wl_ex (ex_fieldAddr (off' := oOf A79 + (u).toNat * 3 + 0) rfl Try.underlying47 rfl sz_3 rfl rfl) rfl rfl ?_
              refine wl_pass rfl rfl rfl (decide_eq_false g81) ?_
              refine wl_ex (ex_load rfl ag_3 (rd_enc (j := 0) encD_len (sl_own (.head _ _)) (hd_stlR_bentN_evenI_y_bd_a_bd_b_bd_c__u (by omega) (by omega)) rfl)) rfl rfl ?_
              refine wl_pass rfl rfl rfl (decide_eq_false g81) ?_
              refine wl_ex (ex_move rfl) rfl rfl ?_
              refine wl_pass rfl rfl rfl (decide_eq_false g81) ?_
              refine wl_ex (ex_len Try.underlying25 rfl) rfl rfl ?_
              refine wl_pass rfl rfl rfl (decide_eq_false g81) ?_
              refine wl_ex (ex_geq rfl rfl) rfl rfl ?_
              refine wl_ex (ex_pickf rfl (decide_eq_false g81) rfl) rfl rfl ?_
              refine wl_ex (ex_move rfl) rfl rfl ?_
              by_cases g82 : ((bentN (evenI y) bd.a bd.b bd.c).length : Int) ≤ d_stlR_bentN_evenI_y_bd_a_bd_b_bd_c__u.frm
              · refine wl_skip rfl rfl rfl (fun h => of_decide_eq_false (Value.bool.inj h) g82) rfl rfl ?_
                refine wl_skip rfl rfl rfl (fun h => of_decide_eq_false (Value.bool.inj h) g82) rfl rfl ?_
                refine wl_skip rfl rfl rfl (fun h => of_decide_eq_false (Value.bool.inj h) g82) rfl rfl ?_
                refine wl_skip rfl rfl rfl (fun h => of_decide_eq_false (Value.bool.inj h) g82) rfl rfl ?_
                refine wl_skip rfl rfl rfl (fun h => of_decide_eq_false (Value.bool.inj h) g82) rfl rfl ?_
                refine wl_skip rfl rfl rfl (fun h => of_decide_eq_false (Value.bool.inj h) g82) rfl rfl ?_
                refine wl_ex (ex_pickt rfl (decide_eq_true g82) rfl) rfl rfl ?_
                refine wl_ex (ex_move rfl) rfl rfl ?_
                refine wl_skip rfl rfl rfl (by simp) rfl rfl ?_
                refine wl_skip rfl rfl rfl (by simp) rfl rfl ?_
                refine wl_skip rfl rfl rfl (by simp) rfl rfl ?_
                refine wl_skip rfl rfl rfl (by simp) rfl rfl ?_
                refine wl_skip rfl rfl rfl (by simp) rfl rfl ?_
                refine wl_skip rfl rfl rfl (by simp) rfl rfl ?_
                refine wl_skip rfl rfl rfl (by simp) rfl rfl ?_
                refine wl_skip rfl rfl rfl (by simp) rfl rfl ?_
                refine wl_ex (ex_pickt rfl rfl rfl) rfl rfl ?_
                refine wl_ex (ex_move rfl) rfl rfl ?_
                refine wl_skip rfl rfl rfl (by simp) rfl rfl ?_
                refine wl_skip rfl rfl rfl (by simp) rfl rfl ?_
                refine wl_skip rfl rfl rfl (by simp) rfl rfl ?_
                refine wl_skip rfl rfl rfl (by simp) rfl rfl ?_
                refine wl_skip rfl rfl rfl (by simp) rfl rfl ?_
                refine wl_skip rfl rfl rfl (by simp) rfl rfl ?_
                refine wl_skip rfl rfl rfl (by simp) rfl rfl ?_
                refine wl_skip rfl rfl rfl (by simp) rfl rfl ?_
                refine wl_skip rfl rfl rfl (by simp) rfl rfl ?_
                refine wl_ex (ex_pickt rfl rfl rfl) rfl rfl ?_
                refine wl_ex (ex_move rfl) rfl rfl ?_
                refine wl_skip rfl rfl rfl (by simp) rfl rfl ?_
                refine wl_skip rfl rfl rfl (by simp) rfl rfl ?_
                refine wl_skip rfl rfl rfl (by simp) rfl rfl ?_
                refine wl_skip rfl rfl rfl (by simp) rfl rfl ?_
                refine wl_skip rfl rfl rfl (by simp) rfl rfl ?_
                refine wl_skip rfl rfl rfl (by simp) rfl rfl ?_
                refine wl_skip rfl rfl rfl (by simp) rfl rfl ?_
                refine wl_skip rfl rfl rfl (by simp) rfl rfl ?_
                refine wl_skip rfl rfl rfl (by simp) rfl rfl ?_
                refine wl_ex (ex_pickt rfl rfl rfl) rfl rfl ?_
                refine wl_nil ?_
                refine pe_cut () (Sub.cons rfl rfl (Sub.cons rfl rfl (Sub.cons rfl rfl (Sub.cons rfl rfl (Sub.cons rfl rfl (Sub.cons rfl rfl (Sub.cons rfl rfl (Sub.cons rfl rfl (Sub.cons rfl rfl (Sub.cons rfl (congrArg Value.bool (by first | (simp [g81, g82]; done) | grind)) (Sub.nil _))))))))))) (.cons (.head _ _) rfl (.cons (.head _ _) rfl (.cons (.head _ _) rfl (.cons (.head _ _) rfl (.cons (.head _ _) rfl (.cons (.head _ _) rfl (.cons (.head _ _) rfl (.cons (.head _ _) rfl (.nil _))))))))) trivial
              · refine wl_pass rfl rfl rfl (decide_eq_false g82) ?_
                refine wl_ex (ex_move rfl) rfl rfl ?_
                refine wl_pass rfl rfl rfl (decide_eq_false g82) ?_
                refine wl_ex (ex_move rfl) rfl rfl ?_
                refine wl_pass rfl rfl rfl (decide_eq_false g82) ?_
                refine wl_ex (ex_indexAddr rfl rfl Try.underlying24 sz_47 (sl_own (.head _ _)) (by omega) (by omega) (enc_pos encD_len (by omega))) rfl rfl ?_
                refine wl_pass rfl rfl rfl (decide_eq_false g82) ?_
                refine wl_ex (ex_fieldAddr (off' := oOf A79 + (u).toNat * 3 + 1) rfl Try.underlying47 rfl sz_3 rfl rfl) rfl rfl ?_
                refine wl_pass rfl rfl rfl (decide_eq_false g82) ?_
                refine wl_ex (ex_load rfl ag_3 (rd_enc (j := 1) encD_len (sl_own (.head _ _)) (hd_stlR_bentN_evenI_y_bd_a_bd_b_bd_c__u (by omega) (by omega)) rfl)) rfl rfl ?_
                refine wl_pass rfl rfl rfl (decide_eq_false g82) ?_
                refine wl_ex (ex_lss rfl rfl) rfl rfl ?_
                refine wl_ex (ex_pickf rfl (decide_eq_false g82) rfl) rfl rfl ?_
                refine wl_ex (ex_move rfl) rfl rfl ?_
                by_cases g83 : d_stlR_bentN_evenI_y_bd_a_bd_b_bd_c__u.to < 0
                · refine wl_skip rfl rfl rfl (fun h => of_decide_eq_false (Value.bool.inj h) g83) rfl rfl ?_
                  refine wl_skip rfl rfl rfl (fun h => of_decide_eq_false (Value.bool.inj h) g83) rfl rfl ?_
                  refine wl_skip rfl rfl rfl (fun h => of_decide_eq_false (Value.bool.inj h) g83) rfl rfl ?_
                  refine wl_skip rfl rfl rfl (fun h => of_decide_eq_false (Value.bool.inj h) g83) rfl rfl ?_
                  refine wl_skip rfl rfl rfl (fun h => of_decide_eq_false (Value.bool.inj h) g83) rfl rfl ?_
                  refine wl_skip rfl rfl rfl (fun h => of_decide_eq_false (Value.bool.inj h) g83) rfl rfl ?_
                  refine wl_skip rfl rfl rfl (fun h => of_decide_eq_false (Value.bool.inj h) g83) rfl rfl ?_
                  refine wl_skip rfl rfl rfl (fun h => of_decide_eq_false (Value.bool.inj h) g83) rfl rfl ?_
                  refine wl_ex (ex_pickt rfl (decide_eq_true g83) rfl) rfl rfl ?_
                  refine wl_ex (ex_move rfl) rfl rfl ?_
                  refine wl_skip rfl rfl rfl (by simp) rfl rfl ?_
                  refine wl_skip rfl rfl rfl (by simp) rfl rfl ?_
                  refine wl_skip rfl rfl rfl (by simp) rfl rfl ?_
                  refine wl_skip rfl rfl rfl (by simp) rfl rfl ?_
                  refine wl_skip rfl rfl rfl (by simp) rfl rfl ?_
                  refine wl_skip rfl rfl rfl (by simp) rfl rfl ?_
                  refine wl_skip rfl rfl rfl (by simp) rfl rfl ?_
                  refine wl_skip rfl rfl rfl (by simp) rfl rfl ?_
                  refine wl_skip rfl rfl rfl (by simp) rfl rfl ?_
                  refine wl_ex (ex_pickt rfl rfl rfl) rfl rfl ?_
                  refine wl_ex (ex_move rfl) rfl rfl ?_
                  refine wl_skip rfl rfl rfl (by simp) rfl rfl ?_
                  refine wl_skip rfl rfl rfl (by simp) rfl rfl ?_
                  refine wl_skip rfl rfl rfl (by simp) rfl rfl ?_
                  refine wl_skip rfl rfl rfl (by simp) rfl rfl ?_
                  refine wl_skip rfl rfl rfl (by simp) rfl rfl ?_
                  refine wl_skip rfl rfl rfl (by simp) rfl rfl ?_
                  refine wl_skip rfl rfl rfl (by simp) rfl rfl ?_
                  refine wl_skip rfl rfl rfl (by simp) rfl rfl ?_
                  refine wl_skip rfl rfl rfl (by simp) rfl rfl ?_
                  refine wl_ex (ex_pickt rfl rfl rfl) rfl rfl ?_
                  refine wl_nil ?_
                  refine pe_cut () (Sub.cons rfl rfl (Sub.cons rfl rfl (Sub.cons rfl rfl (Sub.cons rfl rfl (Sub.cons rfl rfl (Sub.cons rfl rfl (Sub.cons rfl rfl (Sub.cons rfl rfl (Sub.cons rfl rfl (Sub.cons rfl (congrArg Value.bool (by first | (simp [g81, g82, g83]; done) | grind)) (Sub.nil _))))))))))) (.cons (.head _ _) rfl (.cons (.head _ _) rfl (.cons (.head _ _) rfl (.cons (.head _ _) rfl (.cons (.head _ _) rfl (.cons (.head _ _) rfl (.cons (.head _ _) rfl (.cons (.head _ _) rfl (.nil _))))))))) trivial
                · refine wl_pass rfl rfl rfl (decide_eq_false g83) ?_
                  refine wl_ex (ex_move rfl) rfl rfl ?_
                  refine wl_pass rfl rfl rfl (decide_eq_false g83) ?_
                  refine wl_ex (ex_move rfl) rfl rfl ?_
                  refine wl_pass rfl rfl rfl (decide_eq_false g83) ?_
                  refine wl_ex (ex_indexAddr rfl rfl Try.underlying24 sz_47 (sl_own (.head _ _)) (by omega) (by omega) (enc_pos encD_len (by omega))) rfl rfl ?_
                  refine wl_pass rfl rfl rfl (decide_eq_false g83) ?_
                  refine wl_ex (ex_fieldAddr (off' := oOf A79 + (u).toNat * 3 + 1) rfl Try.underlying47 rfl sz_3 rfl rfl) rfl rfl ?_
                  refine wl_pass rfl rfl rfl (decide_eq_false g83) ?_
                  refine wl_ex (ex_load rfl ag_3 (rd_enc (j := 1) encD_len (sl_own (.head _ _)) (hd_stlR_bentN_evenI_y_bd_a_bd_b_bd_c__u (by omega) (by omega)) rfl)) rfl rfl ?_
                  refine wl_pass rfl rfl rfl (decide_eq_false g83) ?_
                  refine wl_ex (ex_move rfl) rfl rfl ?_
                  refine wl_pass rfl rfl rfl (decide_eq_false g83) ?_
                  refine wl_ex (ex_len Try.underlying25 rfl) rfl rfl ?_
                  refine wl_pass rfl rfl rfl (decide_eq_false g83) ?_
                  refine wl_ex (ex_geq rfl rfl) rfl rfl ?_
                  refine wl_ex (ex_pickf rfl (decide_eq_false g83) rfl) rfl rfl ?_
                  refine wl_ex (ex_move rfl) rfl rfl ?_
                  by_cases g84 : ((bentN (evenI y) bd.a bd.b bd.c).length : Int) ≤ d_stlR_bentN_evenI_y_bd_a_bd_b_bd_c__u.to
                  · refine wl_skip rfl rfl rfl (fun h => of_decide_eq_false (Value.bool.inj h) g84) rfl rfl ?_
                    refine wl_skip rfl rfl rfl (fun h => of_decide_eq_false (Value.bool.inj h) g84) rfl rfl ?_
                    refine wl_skip rfl rfl rfl (fun h => of_decide_eq_false (Value.bool.inj h) g84) rfl rfl ?_
                    refine wl_skip rfl rfl rfl (fun h => of_decide_eq_false (Value.bool.inj h) g84) rfl rfl ?_
                    refine wl_skip rfl rfl rfl (fun h => of_decide_eq_false (Value.bool.inj h) g84) rfl rfl ?_
                    refine wl_skip rfl rfl rfl (fun h => of_decide_eq_false (Value.bool.inj h) g84) rfl rfl ?_
                    refine wl_skip rfl rfl rfl (fun h => of_decide_eq_false (Value.bool.inj h) g84) rfl rfl ?_
                    refine wl_skip rfl rfl rfl (fun h => of_decide_eq_false (Value.bool.inj h) g84) rfl rfl ?_
                    refine wl_skip rfl rfl rfl (fun h => of_decide_eq_false (Value.bool.inj h) g84) rfl rfl ?_
                    refine wl_ex (ex_pickt rfl (decide_eq_true g84) rfl) rfl rfl ?_
                    refine wl_ex (ex_move rfl) rfl rfl ?_
                    refine wl_skip rfl rfl rfl (by simp) rfl rfl ?_
                    refine wl_skip rfl rfl rfl (by simp) rfl rfl ?_
                    refine wl_skip rfl rfl rfl (by simp) rfl rfl ?_
                    refine wl_skip rfl rfl rfl (by simp) rfl rfl ?_
                    refine wl_skip rfl rfl rfl (by simp) rfl rfl ?_
                    refine wl_skip rfl rfl rfl (by simp) rfl rfl ?_
                    refine wl_skip rfl rfl rfl (by simp) rfl rfl ?_
                    refine wl_skip rfl rfl rfl (by simp) rfl rfl ?_
                    refine wl_skip rfl rfl rfl (by simp) rfl rfl ?_
                    refine wl_ex (ex_pickt rfl rfl rfl) rfl rfl ?_
                    refine wl_nil ?_
                    refine pe_cut () (Sub.cons rfl rfl (Sub.cons rfl rfl (Sub.cons rfl rfl (Sub.cons rfl rfl (Sub.cons rfl rfl (Sub.cons rfl rfl (Sub.cons rfl rfl (Sub.cons rfl rfl (Sub.cons rfl rfl (Sub.cons rfl (congrArg Value.bool (by first | (simp [g81, g82, g83, g84]; done) | grind)) (Sub.nil _))))))))))) (.cons (.head _ _) rfl (.cons (.head _ _) rfl (.cons (.head _ _) rfl (.cons (.head _ _) rfl (.cons (.head _ _) rfl (.cons (.head _ _) rfl (.cons (.head _ _) rfl (.cons (.head _ _) rfl (.nil _))))))))) trivial
                  · refine wl_pass rfl rfl rfl (decide_eq_false g84) ?_
                    refine wl_ex (ex_move rfl) rfl rfl ?_
                    refine wl_pass rfl rfl rfl (decide_eq_false g84) ?_
                    refine wl_ex (ex_move rfl) rfl rfl ?_
                    refine wl_pass rfl rfl rfl (decide_eq_false g84) ?_
                    refine wl_ex (ex_move rfl) rfl rfl ?_
                    refine wl_pass rfl rfl rfl (decide_eq_false g84) ?_
                    refine wl_ex (ex_indexAddr rfl rfl Try.underlying24 sz_47 (sl_own (.head _ _)) (by omega) (by omega) (enc_pos encD_len (by omega))) rfl rfl ?_
                    refine wl_pass rfl rfl rfl (decide_eq_false g84) ?_
                    refine wl_ex (ex_fieldAddr (off' := oOf A79 + (u).toNat * 3 + 0) rfl Try.underlying47 rfl sz_3 rfl rfl) rfl rfl ?_
                    refine wl_pass rfl rfl rfl (decide_eq_false g84) ?_
                    refine wl_ex (ex_load rfl ag_3 (rd_enc (j := 0) encD_len (sl_own (.head _ _)) (hd_stlR_bentN_evenI_y_bd_a_bd_b_bd_c__u (by omega) (by omega)) rfl)) rfl rfl ?_
                    refine wl_pass rfl rfl rfl (decide_eq_false g84) ?_
                    refine wl_ex (ex_indexAddr rfl rfl Try.underlying25 sz_3 (sl_own (.tail (.tail (.head _ _)))) (by omega) (by omega) (enc_pos encI_len (by omega))) rfl rfl ?_
                    refine wl_pass rfl rfl rfl (decide_eq_false g84) ?_
                    refine wl_ex (ex_load rfl ag_3 (rd_int (sl_own (.tail (.tail (.head _ _)))) (hd_bentN_evenI_y_bd_a_bd_b_bd_c_d_stlR_bentN_evenI_y_bd_a_bd_b_bd_c__u_frm (by omega) (by omega)))) rfl rfl ?_
                    refine wl_pass rfl rfl rfl (decide_eq_false g84) ?_
                    refine wl_ex (ex_geq rfl rfl) rfl rfl ?_
                    refine wl_ex (ex_pickf rfl (decide_eq_false g84) rfl) rfl rfl ?_
                    refine wl_ex (ex_move rfl) rfl rfl ?_
                    by_cases g85 : 0 ≤ d_bentN_evenI_y_bd_a_bd_b_bd_c_d_stlR_bentN_evenI_y_bd_a_bd_b_bd_c__u_frm
                    · refine wl_skip rfl rfl rfl (fun h => of_decide_eq_false (Value.bool.inj h) g85) rfl rfl ?_
                      refine wl_skip rfl rfl rfl (fun h => of_decide_eq_false (Value.bool.inj h) g85) rfl rfl ?_
                      refine wl_skip rfl rfl rfl (fun h => of_decide_eq_false (Value.bool.inj h) g85) rfl rfl ?_
                      refine wl_skip rfl rfl rfl (fun h => of_decide_eq_false (Value.bool.inj h) g85) rfl rfl ?_
                      refine wl_skip rfl rfl rfl (fun h => of_decide_eq_false (Value.bool.inj h) g85) rfl rfl ?_
                      refine wl_skip rfl rfl rfl (fun h => of_decide_eq_false (Value.bool.inj h) g85) rfl rfl ?_
                      refine wl_skip rfl rfl rfl (fun h => of_decide_eq_false (Value.bool.inj h) g85) rfl rfl ?_
                      refine wl_skip rfl rfl rfl (fun h => of_decide_eq_false (Value.bool.inj h) g85) rfl rfl ?_
                      refine wl_skip rfl rfl rfl (fun h => of_decide_eq_false (Value.bool.inj h) g85) rfl rfl ?_
                      refine wl_ex (ex_pickt rfl (decide_eq_true g85) rfl) rfl rfl ?_
                      refine wl_nil ?_
                      refine pe_cut () (Sub.cons rfl rfl (Sub.cons rfl rfl (Sub.cons rfl rfl (Sub.cons rfl rfl (Sub.cons rfl rfl (Sub.cons rfl rfl (Sub.cons rfl rfl (Sub.cons rfl rfl (Sub.cons rfl rfl (Sub.cons rfl (congrArg Value.bool (by first | (simp [g81, g82, g83, g84, g85]; done) | grind)) (Sub.nil _))))))))))) (.cons (.head _ _) rfl (.cons (.head _ _) rfl (.cons (.head _ _) rfl (.cons (.head _ _) rfl (.cons (.head _ _) rfl (.cons (.head _ _) rfl (.cons (.head _ _) rfl (.cons (.head _ _) rfl (.nil _))))))))) trivial
                    · refine wl_pass rfl rfl rfl (decide_eq_false g85) ?_
                      refine wl_ex (ex_move rfl) rfl rfl ?_
                      refine wl_pass rfl rfl rfl (decide_eq_false g85) ?_
                      refine wl_ex (ex_move rfl) rfl rfl ?_
                      refine wl_pass rfl rfl rfl (decide_eq_false g85) ?_
                      refine wl_ex (ex_move rfl) rfl rfl ?_
                      refine wl_pass rfl rfl rfl (decide_eq_false g85) ?_
                      refine wl_ex (ex_indexAddr rfl rfl Try.underlying24 sz_47 (sl_own (.head _ _)) (by omega) (by omega) (enc_pos encD_len (by omega))) rfl rfl ?_
                      refine wl_pass rfl rfl rfl (decide_eq_false g85) ?_
                      refine wl_ex (ex_fieldAddr (off' := oOf A79 + (u).toNat * 3 + 1) rfl Try.underlying47 rfl sz_3 rfl rfl) rfl rfl ?_
                      refine wl_pass rfl rfl rfl (decide_eq_false g85) ?_
                      refine wl_ex (ex_load rfl ag_3 (rd_enc (j := 1) encD_len (sl_own (.head _ _)) (hd_stlR_bentN_evenI_y_bd_a_bd_b_bd_c__u (by omega) (by omega)) rfl)) rfl rfl ?_
                      refine wl_pass rfl rfl rfl (decide_eq_false g85) ?_
                      refine wl_ex (ex_indexAddr rfl rfl Try.underlying25 sz_3 (sl_own (.tail (.tail (.head _ _)))) (by omega) (by omega) (enc_pos encI_len (by omega))) rfl rfl ?_
                      refine wl_pass rfl rfl rfl (decide_eq_false g85) ?_
                      refine wl_ex (ex_load rfl ag_3 (rd_int (sl_own (.tail (.tail (.head _ _)))) (hd_bentN_evenI_y_bd_a_bd_b_bd_c_d_stlR_bentN_evenI_y_bd_a_bd_b_bd_c__u_to (by omega) (by omega)))) rfl rfl ?_
                      refine wl_pass rfl rfl rfl (decide_eq_false g85) ?_
                      refine wl_ex (ex_leq rfl rfl) rfl rfl ?_
                      refine wl_ex (ex_pickf rfl (decide_eq_false g85) rfl) rfl rfl ?_
                      refine wl_nil ?_
                      refine pe_cut () (Sub.cons rfl rfl (Sub.cons rfl rfl (Sub.cons rfl rfl (Sub.cons rfl rfl (Sub.cons rfl rfl (Sub.cons rfl rfl (Sub.cons rfl rfl (Sub.cons rfl rfl (Sub.cons rfl rfl (Sub.cons rfl (congrArg Value.bool (by first | (simp [g81, g82, g83, g84, g85]; done) | grind)) (Sub.nil _))))))))))) (.cons (.head _ _) rfl (.cons (.head _ _) rfl (.cons (.head _ _) rfl (.cons (.head _ _) rfl (.cons (.head _ _) rfl (.cons (.head _ _) rfl (.cons (.head _ _) rfl (.cons (.head _ _) rfl (.nil _))))))))) trivial
          · rintro _ _
            show WC _ _ _ [(2, .slice Ar r.length cr), (6, .pointer (some ⟨r1, 0, none⟩)), (11, .slice A2 ((madeI x).length) c3), (32, .slice A63 ((bentN (evenI y) bd.a bd.b bd.c).length) c64), (37, .slice A79 ((stlR (bentN (evenI y) bd.a bd.b bd.c)).length) c80), (39, .int .i64 u), (172, .slice (some ⟨r65, 0, none⟩) 3 3), (173, .int .i64 ((3 : Nat) : Int)), (174, .int .i64 (1 : Int)), (273, .bool (decide ((((((d_stlR_bentN_evenI_y_bd_a_bd_b_bd_c__u.frm < 0) ∨ (((bentN (evenI y) bd.a bd.b bd.c).length : Int) ≤ d_stlR_bentN_evenI_y_bd_a_bd_b_bd_c__u.frm)) ∨ (d_stlR_bentN_evenI_y_bd_a_bd_b_bd_c__u.to < 0)) ∨ (((bentN (evenI y) bd.a bd.b bd.c).length : Int) ≤ d_stlR_bentN_evenI_y_bd_a_bd_b_bd_c__u.to)) ∨ (0 ≤ d_bentN_evenI_y_bd_a_bd_b_bd_c_d_stlR_bentN_evenI_y_bd_a_bd_b_bd_c__u_frm)) ∨ (d_bentN_evenI_y_bd_a_bd_b_bd_c_d_stlR_bentN_evenI_y_bd_a_bd_b_bd_c__u_to ≤ 0))))] [.own A79 ((stlR (bentN (evenI y) bd.a bd.b bd.c)).length) c80 47 3 (encs encD (stlR (bentN (evenI y) bd.a bd.b bd.c))), .own (some ⟨r65, 0, none⟩) 3 3 25 1 (encs encV ([.slice A58 ((evenI y).length) c59, .slice A63 ((bentN (evenI y) bd.a bd.b bd.c).length) c64, .slice Ao ((o.take 9).length) co] : List Value)), .own A63 ((bentN (evenI y) bd.a bd.b bd.c).length) c64 3 1 (encs encI (bentN (evenI y) bd.a bd.b bd.c)), .own A58 ((evenI y).length) c59 3 1 (encs encI (evenI y)), .own (some ⟨r9, 0, none⟩) 3 3 24 1 (encs encV ([.slice A2 ((madeI x).length) c3, .slice A7 ((bentD (madeI x) bd.a bd.b bd.c).length) c8, .slice Ar ((r.take 61).length) cr] : List Value)), .own A7 ((bentD (madeI x) bd.a bd.b bd.c).length) c8 47 3 (encs encD (bentD (madeI x) bd.a bd.b bd.c)), .own A2 ((madeI x).length) c3 47 3 (encs encD (madeI x)), .row r1 23 [.int .i64 bd.a, .int .i64 bd.b, .int .i64 bd.c]]
            refine wc_ite rfl (fun c273 => ?_) (fun c273 => ?_)
            · obtain ⟨m1, m2, m3, m4, m5⟩ := stlR_sgn (mem_at (hd_stlR_bentN_evenI_y_bd_a_bd_b_bd_c__u (by omega) (by omega)))
              rw [getD_of (hd_bentN_evenI_y_bd_a_bd_b_bd_c_d_stlR_bentN_evenI_y_bd_a_bd_b_bd_c__u_frm (by omega) (by omega))] at m4
              rw [getD_of (hd_bentN_evenI_y_bd_a_bd_b_bd_c_d_stlR_bentN_evenI_y_bd_a_bd_b_bd_c__u_to (by omega) (by omega))] at m5
              exfalso; omega
            · refine wc_skip ?_
              refine pe_block _ ?_
              refine pe_seq ?_
              refine wc_region ?_
              refine wl_ex (ex_move rfl) rfl rfl ?_
              refine wl_ex (ex_add rfl rfl (by omega) (by omega)) rfl rfl ?_
              refine wl_ex (ex_assign rfl) rfl rfl ?_
              refine wl_nil ?_
              refine pe_again (u + 1) (Sub.cons rfl rfl (Sub.cons rfl rfl (Sub.cons rfl rfl (Sub.cons rfl rfl (Sub.cons rfl rfl (Sub.cons rfl rfl (Sub.cons rfl rfl (Sub.cons rfl rfl (Sub.cons rfl rfl (Sub.nil _)))))))))) (.cons (.head _ _) rfl (.cons (.head _ _) rfl (.cons (.head _ _) rfl (.cons (.head _ _) rfl (.cons (.head _ _) rfl (.cons (.head _ _) rfl (.cons (.head _ _) rfl (.cons (.head _ _) rfl (.nil _))))))))) ?_ ?_
              · show 0 ≤ (u + 1) ∧ (u + 1) ≤ ((stlR (bentN (evenI y) bd.a bd.b bd.c)).length : Int)
                omega
              · first | omega | (simp only []; omega)
        · refine wc_exit ?_
          refine pe_seq_exit ?_
          refine pe_loop_exit ?_
          refine pe_block_exit ?_
          refine pe_seq ?_
          refine wc_seq ?_
          refine wc_draw [.own A79 ((stlR (bentN (evenI y) bd.a bd.b bd.c)).length) c80 47 3 (encs encD (stlR (bentN (evenI y) bd.a bd.b bd.c))), .own (some ⟨r65, 0, none⟩) 3 3 25 1 (encs encV ([.slice A58 ((evenI y).length) c59, .slice A63 ((bentN (evenI y) bd.a bd.b bd.c).length) c64, .slice Ao ((o.take 9).length) co] : List Value)), .own A63 ((bentN (evenI y) bd.a bd.b bd.c).length) c64 3 1 (encs encI (bentN (evenI y) bd.a bd.b bd.c)), .own A58 ((evenI y).length) c59 3 1 (encs encI (evenI y)), .own (some ⟨r9, 0, none⟩) 3 3 24 1 (encs encV ([.slice A2 ((madeI x).length) c3, .slice A7 ((bentD (madeI x) bd.a bd.b bd.c).length) c8, .slice Ar ((r.take 61).length) cr] : List Value)), .own A7 ((bentD (madeI x) bd.a bd.b bd.c).length) c8 47 3 (encs encD (bentD (madeI x) bd.a bd.b bd.c)), .own A2 ((madeI x).length) c3 47 3 (encs encD (madeI x)), .row r1 23 [.int .i64 bd.a, .int .i64 bd.b, .int .i64 bd.c]] [(0, true), (1, true), (2, true), (3, true), (4, true), (5, true), (6, true), (7, true), (8, true), (10, true), (11, true), (12, true), (13, true), (14, true), (17, true), (9, false), (15, false), (16, true)] mixed (by kernel_rfl) (.cons (.head _ _) rfl (.cons (.head _ _) rfl (.cons (.head _ _) rfl (.cons (.head _ _) rfl (.cons (.head _ _) rfl (.cons (.head _ _) rfl (.cons (.head _ _) rfl (.cons (.head _ _) rfl (.nil _))))))))) ?_
          refine cn_ex rfl (ex_move rfl) rfl rfl ?_
          refine cn_ex rfl (ex_move rfl) rfl rfl ?_
          refine cn_ex rfl (ex_move rfl) rfl rfl ?_
          refine cn_ex rfl (ex_indexAddrA (off' := 0) rfl rfl Try.underlying23 sz_3 (by omega) (by omega) (by simp)) rfl rfl ?_
          refine cn_ex rfl (ex_load rfl ag_3 (rd_row1 (.tail (.tail (.tail (.tail (.tail (.tail (.tail (.head _ _)))))))) rfl)) rfl rfl ?_
          refine cn_ex rfl (ex_indexAddrA (off' := 1) rfl rfl Try.underlying23 sz_3 (by omega) (by omega) (by simp)) rfl rfl ?_
          refine cn_ex rfl (ex_load rfl ag_3 (rd_row1 (.tail (.tail (.tail (.tail (.tail (.tail (.tail (.head _ _)))))))) rfl)) rfl rfl ?_
          refine cn_ex rfl (ex_indexAddrA (off' := 2) rfl rfl Try.underlying23 sz_3 (by omega) (by omega) (by simp)) rfl rfl ?_
          refine cn_ex rfl (ex_load rfl ag_3 (rd_row1 (.tail (.tail (.tail (.tail (.tail (.tail (.tail (.head _ _)))))))) rfl)) rfl rfl ?_
          refine cn_ex rfl (ex_move rfl) rfl rfl ?_
          refine cn_ex rfl (ex_move rfl) rfl rfl ?_
          refine cn_ex rfl (ex_len Try.underlying24 rfl) rfl rfl ?_
          refine cn_ex rfl (ex_min rfl rfl) rfl rfl ?_
          refine cn_ex rfl (ex_sliceH0 rfl rfl Try.underlying24 sz_47 (by omega) (by omega)) rfl rfl ?_
          refine cn_ex rfl (ex_move rfl) rfl rfl ?_
          refine cn_tail rfl ?_
          refine wl_callS [.tmp 276, .tmp 278, .tmp 280, .tmp 282] rfl ok_13 rfl (fun w hm => c_Bent A79 c80 (stlR (bentN (evenI y) bd.a bd.b bd.c)) bd.a bd.b bd.c w (((sl_own (.head _ _))).at hm)  (by omega) (by assumption) (by assumption) (by assumption)) rfl fun A89 c90 => ?_
          refine cn_back (.cons (.tail (.head _ _)) rfl (.cons (.tail (.head _ _)) rfl (.cons (.tail (.head _ _)) rfl (.cons (.tail (.head _ _)) rfl (.cons (.tail (.head _ _)) rfl (.cons (.tail (.head _ _)) rfl (.cons (.tail (.head _ _)) rfl (.cons (.tail (.head _ _)) rfl (.nil _))))))))) ?_
          rw [hrn]
          refine cn_tail rfl ?_
          refine wl_buildSlice [.tmp 274, .tmp 275, .tmp 283, .tmp 288] rfl rfl Try.underlying29 sz_24 ze_24 rfl (by simp [Value.cells]) (by omega) (by omega) rfl fun r91 => ?_
          rw [show List.flatMap (fun x => x.cells.toList) ([.slice A79 ((stlR (bentN (evenI y) bd.a bd.b bd.c)).length) c80, .slice A2 ((madeI x).length) c3, .slice A89 ((bentD (stlR (bentN (evenI y) bd.a bd.b bd.c)) bd.a bd.b bd.c).length) c90, .slice Ar ((r.take 61).length) cr] : List Value) = encs encV ([.slice A79 ((stlR (bentN (evenI y) bd.a bd.b bd.c)).length) c80, .slice A2 ((madeI x).length) c3, .slice A89 ((bentD (stlR (bentN (evenI y) bd.a bd.b bd.c)) bd.a bd.b bd.c).length) c90, .slice Ar ((r.take 61).length) cr] : List Value) from rfl]
          refine cn_back (.cons (.tail (.tail (.head _ _))) rfl (.cons (.tail (.tail (.head _ _))) rfl (.cons (.tail (.tail (.head _ _))) rfl (.cons (.tail (.tail (.head _ _))) rfl (.cons (.tail (.tail (.head _ _))) rfl (.cons (.tail (.tail (.head _ _))) rfl (.cons (.tail (.tail (.head _ _))) rfl (.cons (.tail (.tail (.head _ _))) rfl (.nil _))))))))) ?_
          refine cn_ex rfl (ex_len Try.underlying29 rfl) rfl rfl ?_
          refine cn_nil ?_
          refine pe_seq ?_
          refine wc_block ?_
          refine wc_loop (σ := Int) (fun s => [(291, .int .i64 s), (2, .slice Ar r.length cr), (6, .pointer (some ⟨r1, 0, none⟩)), (11, .slice A2 ((madeI x).length) c3), (32, .slice A63 ((bentN (evenI y) bd.a bd.b bd.c).length) c64), (172, .slice (some ⟨r65, 0, none⟩) 3 3), (173, .int .i64 ((3 : Nat) : Int)), (174, .int .i64 (1 : Int)), (289, .slice (some ⟨r91, 0, none⟩) 4 4), (290, .int .i64 ((4 : Nat) : Int))]) (fun s => [.own (some ⟨r91, 0, none⟩) 4 4 24 1 (encs encV ([.slice A79 ((stlR (bentN (evenI y) bd.a bd.b bd.c)).length) c80, .slice A2 ((madeI x).length) c3, .slice A89 ((bentD (stlR (bentN (evenI y) bd.a bd.b bd.c)) bd.a bd.b bd.c).length) c90, .slice Ar ((r.take 61).length) cr] : List Value)), .own A89 ((bentD (stlR (bentN (evenI y) bd.a bd.b bd.c)) bd.a bd.b bd.c).length) c90 47 3 (encs encD (bentD (stlR (bentN (evenI y) bd.a bd.b bd.c)) bd.a bd.b bd.c)), .own A79 ((stlR (bentN (evenI y) bd.a bd.b bd.c)).length) c80 47 3 (encs encD (stlR (bentN (evenI y) bd.a bd.b bd.c))), .own (some ⟨r65, 0, none⟩) 3 3 25 1 (encs encV ([.slice A58 ((evenI y).length) c59, .slice A63 ((bentN (evenI y) bd.a bd.b bd.c).length) c64, .slice Ao ((o.take 9).length) co] : List Value)), .own A63 ((bentN (evenI y) bd.a bd.b bd.c).length) c64 3 1 (encs encI (bentN (evenI y) bd.a bd.b bd.c)), .own A58 ((evenI y).length) c59 3 1 (encs encI (evenI y)), .own (some ⟨r9, 0, none⟩) 3 3 24 1 (encs encV ([.slice A2 ((madeI x).length) c3, .slice A7 ((bentD (madeI x) bd.a bd.b bd.c).length) c8, .slice Ar ((r.take 61).length) cr] : List Value)), .own A7 ((bentD (madeI x) bd.a bd.b bd.c).length) c8 47 3 (encs encD (bentD (madeI x) bd.a bd.b bd.c)), .own A2 ((madeI x).length) c3 47 3 (encs encD (madeI x)), .row r1 23 [.int .i64 bd.a, .int .i64 bd.b, .int .i64 bd.c]]) (fun s => 0 ≤ s ∧ s ≤ 4) (fun s => (4 - s).toNat) (0 : Int) (Sub.cons rfl rfl (Sub.cons rfl rfl (Sub.cons rfl rfl (Sub.cons rfl rfl (Sub.cons rfl rfl (Sub.cons rfl rfl (Sub.cons rfl rfl (Sub.cons rfl rfl (Sub.cons rfl rfl (Sub.cons rfl rfl (Sub.nil _))))))))))) (.cons (.head _ _) rfl (.cons (.head _ _) rfl (.cons (.head _ _) rfl (.cons (.head _ _) rfl (.cons (.head _ _) rfl (.cons (.head _ _) rfl (.cons (.head _ _) rfl (.cons (.head _ _) rfl (.cons (.head _ _) rfl (.cons (.head _ _) rfl (.nil _))))))))))) (by omega) ?_
          rintro kq hG
          show WC _ _ _ [(291, .int .i64 kq), (2, .slice Ar r.length cr), (6, .pointer (some ⟨r1, 0, none⟩)), (11, .slice A2 ((madeI x).length) c3), (32, .slice A63 ((bentN (evenI y) bd.a bd.b bd.c).length) c64), (172, .slice (some ⟨r65, 0, none⟩) 3 3), (173, .int .i64 ((3 : Nat) : Int)), (174, .int .i64 (1 : Int)), (289, .slice (some ⟨r91, 0, none⟩) 4 4), (290, .int .i64 ((4 : Nat) : Int))] [.own (some ⟨r91, 0, none⟩) 4 4 24 1 (encs encV ([.slice A79 ((stlR (bentN (evenI y) bd.a bd.b bd.c)).length) c80, .slice A2 ((madeI x).length) c3, .slice A89 ((bentD (stlR (bentN (evenI y) bd.a bd.b bd.c)) bd.a bd.b bd.c).length) c90, .slice Ar ((r.take 61).length) cr] : List Value)), .own A89 ((bentD (stlR (bentN (evenI y) bd.a bd.b bd.c)) bd.a bd.b bd.c).length) c90 47 3 (encs encD (bentD (stlR (bentN (evenI y) bd.a bd.b bd.c)) bd.a bd.b bd.c)), .own A79 ((stlR (bentN (evenI y) bd.a bd.b bd.c)).length) c80 47 3 (encs encD (stlR (bentN (evenI y) bd.a bd.b bd.c))), .own (some ⟨r65, 0, none⟩) 3 3 25 1 (encs encV ([.slice A58 ((evenI y).length) c59, .slice A63 ((bentN (evenI y) bd.a bd.b bd.c).length) c64, .slice Ao ((o.take 9).length) co] : List Value)), .own A63 ((bentN (evenI y) bd.a bd.b bd.c).length) c64 3 1 (encs encI (bentN (evenI y) bd.a bd.b bd.c)), .own A58 ((evenI y).length) c59 3 1 (encs encI (evenI y)), .own (some ⟨r9, 0, none⟩) 3 3 24 1 (encs encV ([.slice A2 ((madeI x).length) c3, .slice A7 ((bentD (madeI x) bd.a bd.b bd.c).length) c8, .slice Ar ((r.take 61).length) cr] : List Value)), .own A7 ((bentD (madeI x) bd.a bd.b bd.c).length) c8 47 3 (encs encD (bentD (madeI x) bd.a bd.b bd.c)), .own A2 ((madeI x).length) c3 47 3 (encs encD (madeI x)), .row r1 23 [.int .i64 bd.a, .int .i64 bd.b, .int .i64 bd.c]]
          replace hG : 0 ≤ kq ∧ kq ≤ 4 := hG
          obtain ⟨k1, k2⟩ := hG
          refine wc_seq ?_
          refine wc_region ?_
          refine wl_ex (ex_lss rfl rfl) rfl rfl ?_
          refine wl_nil ?_
          refine pe_seq ?_
          refine wc_seq ?_
          refine wc_ite rfl (fun c292 => ?_) (fun c292 => ?_)
          · refine wc_skip ?_
            refine pe_seq ?_
            refine wc_seq ?_
            refine wc_block ?_
            refine wc_seq ?_
            refine wc_region ?_
            refine wl_ex (ex_indexAddrN rfl rfl rfl Try.underlying29 sz_24 (by omega) (by omega)) rfl rfl ?_
            rcases (show kq = 0 ∨ kq = 1 ∨ kq = 2 ∨ kq = 3 by omega) with rfl | rfl | rfl | rfl
            · refine wl_ex (ex_load rfl ag_24 (rd_enc (j := 0) encV_len (sl_own (.head _ _)) (show ([.slice A79 ((stlR (bentN (evenI y) bd.a bd.b bd.c)).length) c80, .slice A2 ((madeI x).length) c3, .slice A89 ((bentD (stlR (bentN (evenI y) bd.a bd.b bd.c)) bd.a bd.b bd.c).length) c90, .slice Ar ((r.take 61).length) cr] : List Value)[((0 : Int)).toNat]? = some (.slice A79 ((stlR (bentN (evenI y) bd.a bd.b bd.c)).length) c80) from rfl) rfl)) rfl rfl ?_
              refine wl_ex (ex_assign rfl) rfl rfl ?_
              refine wl_nil ?_
              refine pe_seq ?_
              refine wc_seq ?_
              refine wc_region ?_
              refine wl_ex (ex_move rfl) rfl rfl ?_
              refine wl_ex (ex_move rfl) rfl rfl ?_
              refine wl_callV [.tmp 295, .tmp 296] rfl ok_31 rfl (fun w hm => c_Check A63 c64 (bentN (evenI y) bd.a bd.b bd.c) A79 c80 (stlR (bentN (evenI y) bd.a bd.b bd.c)) w (((sl_own (.tail (.tail (.tail (.tail (.head _ _))))))).at hm) (((sl_own (.tail (.tail (.head _ _))))).at hm)  (by first | assumption | omega) (by first | assumption | omega)) rfl ?_
              refine wl_ex (ex_move rfl) rfl rfl ?_
              refine wl_ex (ex_move rfl) rfl rfl ?_
              refine wl_callV [.tmp 298, .tmp 299] rfl ok_32 rfl (fun w hm => c_CheckR A63 c64 (bentN (evenI y) bd.a bd.b bd.c) A79 c80 (stlR (bentN (evenI y) bd.a bd.b bd.c)) w (((sl_own (.tail (.tail (.tail (.tail (.head _ _))))))).at hm) (((sl_own (.tail (.tail (.head _ _))))).at hm)  (by first | assumption | omega) (by first | assumption | omega)) rfl ?_
              refine wl_ex (ex_bneq Try.underlying4 rfl rfl) rfl rfl ?_
              refine wl_nil ?_
              refine pe_seq ?_
              refine wc_ite rfl (fun c301 => absurd c301 (fun e => e rfl)) (fun c301 => ?_)
              refine wc_skip ?_
              refine pe_block _ ?_
              refine pe_seq ?_
              refine wc_region ?_
              refine wl_ex (ex_add rfl rfl (by omega) (by omega)) rfl rfl ?_
              refine wl_ex (ex_move rfl) rfl rfl ?_
              refine wl_nil ?_
              refine pe_again ((0 : Int) + 1) (Sub.cons rfl rfl (Sub.cons rfl rfl (Sub.cons rfl rfl (Sub.cons rfl rfl (Sub.cons rfl rfl (Sub.cons rfl rfl (Sub.cons rfl rfl (Sub.cons rfl rfl (Sub.cons rfl rfl (Sub.cons rfl rfl (Sub.nil _))))))))))) (.cons (.head _ _) rfl (.cons (.head _ _) rfl (.cons (.head _ _) rfl (.cons (.head _ _) rfl (.cons (.head _ _) rfl (.cons (.head _ _) rfl (.cons (.head _ _) rfl (.cons (.head _ _) rfl (.cons (.head _ _) rfl (.cons (.head _ _) rfl (.nil _))))))))))) ?_ ?_
              · show 0 ≤ ((0 : Int) + 1) ∧ ((0 : Int) + 1) ≤ 4
                omega
              · first | omega | (simp only []; omega)
            · refine wl_ex (ex_load rfl ag_24 (rd_enc (j := 0) encV_len (sl_own (.head _ _)) (show ([.slice A79 ((stlR (bentN (evenI y) bd.a bd.b bd.c)).length) c80, .slice A2 ((madeI x).length) c3, .slice A89 ((bentD (stlR (bentN (evenI y) bd.a bd.b bd.c)) bd.a bd.b bd.c).length) c90, .slice Ar ((r.take 61).length) cr] : List Value)[((1 : Int)).toNat]? = some (.slice A2 ((madeI x).length) c3) from rfl) rfl)) rfl rfl ?_
              refine wl_ex (ex_assign rfl) rfl rfl ?_
              refine wl_nil ?_
              refine pe_seq ?_
              refine wc_seq ?_
              refine wc_region ?_
              refine wl_ex (ex_move rfl) rfl rfl ?_
              refine wl_ex (ex_move rfl) rfl rfl ?_
              refine wl_callV [.tmp 295, .tmp 296] rfl ok_31 rfl (fun w hm => c_Check A63 c64 (bentN (evenI y) bd.a bd.b bd.c) A2 c3 (madeI x) w (((sl_own (.tail (.tail (.tail (.tail (.head _ _))))))).at hm) (((sl_own (.tail (.tail (.tail (.tail (.tail (.tail (.tail (.tail (.head _ _))))))))))).at hm)  (by first | assumption | omega) (by first | assumption | omega)) rfl ?_
              refine wl_ex (ex_move rfl) rfl rfl ?_
              refine wl_ex (ex_move rfl) rfl rfl ?_
              refine wl_callV [.tmp 298, .tmp 299] rfl ok_32 rfl (fun w hm => c_CheckR A63 c64 (bentN (evenI y) bd.a bd.b bd.c) A2 c3 (madeI x) w (((sl_own (.tail (.tail (.tail (.tail (.head _ _))))))).at hm) (((sl_own (.tail (.tail (.tail (.tail (.tail (.tail (.tail (.tail (.head _ _))))))))))).at hm)  (by first | assumption | omega) (by first | assumption | omega)) rfl ?_
              refine wl_ex (ex_bneq Try.underlying4 rfl rfl) rfl rfl ?_
              refine wl_nil ?_
              refine pe_seq ?_
              refine wc_ite rfl (fun c301 => absurd c301 (fun e => e rfl)) (fun c301 => ?_)
              refine wc_skip ?_
              refine pe_block _ ?_
              refine pe_seq ?_
              refine wc_region ?_
              refine wl_ex (ex_add rfl rfl (by omega) (by omega)) rfl rfl ?_
              refine wl_ex (ex_move rfl) rfl rfl ?_
              refine wl_nil ?_
              refine pe_again ((1 : Int) + 1) (Sub.cons rfl rfl (Sub.cons rfl rfl (Sub.cons rfl rfl (Sub.cons rfl rfl (Sub.cons rfl rfl (Sub.cons rfl rfl (Sub.cons rfl rfl (Sub.cons rfl rfl (Sub.cons rfl rfl (Sub.cons rfl rfl (Sub.nil _))))))))))) (.cons (.head _ _) rfl (.cons (.head _ _) rfl (.cons (.head _ _) rfl (.cons (.head _ _) rfl (.cons (.head _ _) rfl (.cons (.head _ _) rfl (.cons (.head _ _) rfl (.cons (.head _ _) rfl (.cons (.head _ _) rfl (.cons (.head _ _) rfl (.nil _))))))))))) ?_ ?_
              · show 0 ≤ ((1 : Int) + 1) ∧ ((1 : Int) + 1) ≤ 4
                omega
              · first | omega | (simp only []; omega)
            · refine wl_ex (ex_load rfl ag_24 (rd_enc (j := 0) encV_len (sl_own (.head _ _)) (show ([.slice A79 ((stlR (bentN (evenI y) bd.a bd.b bd.c)).length) c80, .slice A2 ((madeI x).length) c3, .slice A89 ((bentD (stlR (bentN (evenI y) bd.a bd.b bd.c)) bd.a bd.b bd.c).length) c90, .slice Ar ((r.take 61).length) cr] : List Value)[((2 : Int)).toNat]? = some (.slice A89 ((bentD (stlR (bentN (evenI y) bd.a bd.b bd.c)) bd.a bd.b bd.c).length) c90) from rfl) rfl)) rfl rfl ?_
              refine wl_ex (ex_assign rfl) rfl rfl ?_
              refine wl_nil ?_
              refine pe_seq ?_
              refine wc_seq ?_
              refine wc_region ?_
              refine wl_ex (ex_move rfl) rfl rfl ?_
              refine wl_ex (ex_move rfl) rfl rfl ?_
              refine wl_callV [.tmp 295, .tmp 296] rfl ok_31 rfl (fun w hm => c_Check A63 c64 (bentN (evenI y) bd.a bd.b bd.c) A89 c90 (bentD (stlR (bentN (evenI y) bd.a bd.b bd.c)) bd.a bd.b bd.c) w (((sl_own (.tail (.tail (.tail (.tail (.head _ _))))))).at hm) (((sl_own (.tail (.head _ _)))).at hm)  (by first | assumption | omega) (by first | assumption | omega)) rfl ?_
              refine wl_ex (ex_move rfl) rfl rfl ?_
              refine wl_ex (ex_move rfl) rfl rfl ?_
              refine wl_callV [.tmp 298, .tmp 299] rfl ok_32 rfl (fun w hm => c_CheckR A63 c64 (bentN (evenI y) bd.a bd.b bd.c) A89 c90 (bentD (stlR (bentN (evenI y) bd.a bd.b bd.c)) bd.a bd.b bd.c) w (((sl_own (.tail (.tail (.tail (.tail (.head _ _))))))).at hm) (((sl_own (.tail (.head _ _)))).at hm)  (by first | assumption | omega) (by first | assumption | omega)) rfl ?_
              refine wl_ex (ex_bneq Try.underlying4 rfl rfl) rfl rfl ?_
              refine wl_nil ?_
              refine pe_seq ?_
              refine wc_ite rfl (fun c301 => absurd c301 (fun e => e rfl)) (fun c301 => ?_)
              refine wc_skip ?_
              refine pe_block _ ?_
              refine pe_seq ?_
              refine wc_region ?_
              refine wl_ex (ex_add rfl rfl (by omega) (by omega)) rfl rfl ?_
              refine wl_ex (ex_move rfl) rfl rfl ?_
              refine wl_nil ?_
              refine pe_again ((2 : Int) + 1) (Sub.cons rfl rfl (Sub.cons rfl rfl (Sub.cons rfl rfl (Sub.cons rfl rfl (Sub.cons rfl rfl (Sub.cons rfl rfl (Sub.cons rfl rfl (Sub.cons rfl rfl (Sub.cons rfl rfl (Sub.cons rfl rfl (Sub.nil _))))))))))) (.cons (.head _ _) rfl (.cons (.head _ _) rfl (.cons (.head _ _) rfl (.cons (.head _ _) rfl (.cons (.head _ _) rfl (.cons (.head _ _) rfl (.cons (.head _ _) rfl (.cons (.head _ _) rfl (.cons (.head _ _) rfl (.cons (.head _ _) rfl (.nil _))))))))))) ?_ ?_
              · show 0 ≤ ((2 : Int) + 1) ∧ ((2 : Int) + 1) ≤ 4
                omega
              · first | omega | (simp only []; omega)
            · refine wl_ex (ex_load rfl ag_24 (rd_enc (j := 0) encV_len (sl_own (.head _ _)) (show ([.slice A79 ((stlR (bentN (evenI y) bd.a bd.b bd.c)).length) c80, .slice A2 ((madeI x).length) c3, .slice A89 ((bentD (stlR (bentN (evenI y) bd.a bd.b bd.c)) bd.a bd.b bd.c).length) c90, .slice Ar ((r.take 61).length) cr] : List Value)[((3 : Int)).toNat]? = some (.slice Ar ((r.take 61).length) cr) from rfl) rfl)) rfl rfl ?_
              refine wl_ex (ex_assign rfl) rfl rfl ?_
              refine wl_nil ?_
              refine pe_seq ?_
              refine wc_seq ?_
              refine wc_region ?_
              refine wl_ex (ex_move rfl) rfl rfl ?_
              refine wl_ex (ex_move rfl) rfl rfl ?_
              refine wl_callV [.tmp 295, .tmp 296] rfl ok_31 rfl (fun w hm => c_Check A63 c64 (bentN (evenI y) bd.a bd.b bd.c) Ar cr (r.take 61) w (((sl_own (.tail (.tail (.tail (.tail (.head _ _))))))).at hm) (((sl_arg hrt rfl)).at hm)  (by first | assumption | omega) (by first | assumption | omega)) rfl ?_
              refine wl_ex (ex_move rfl) rfl rfl ?_
              refine wl_ex (ex_move rfl) rfl rfl ?_
              refine wl_callV [.tmp 298, .tmp 299] rfl ok_32 rfl (fun w hm => c_CheckR A63 c64 (bentN (evenI y) bd.a bd.b bd.c) Ar cr (r.take 61) w (((sl_own (.tail (.tail (.tail (.tail (.head _ _))))))).at hm) (((sl_arg hrt rfl)).at hm)  (by first | assumption | omega) (by first | assumption | omega)) rfl ?_
              refine wl_ex (ex_bneq Try.underlying4 rfl rfl) rfl rfl ?_
              refine wl_nil ?_
              refine pe_seq ?_
              refine wc_ite rfl (fun c301 => absurd c301 (fun e => e rfl)) (fun c301 => ?_)
              refine wc_skip ?_
              refine pe_block _ ?_
              refine pe_seq ?_
              refine wc_region ?_
              refine wl_ex (ex_add rfl rfl (by omega) (by omega)) rfl rfl ?_
              refine wl_ex (ex_move rfl) rfl rfl ?_
              refine wl_nil ?_
              refine pe_again ((3 : Int) + 1) (Sub.cons rfl rfl (Sub.cons rfl rfl (Sub.cons rfl rfl (Sub.cons rfl rfl (Sub.cons rfl rfl (Sub.cons rfl rfl (Sub.cons rfl rfl (Sub.cons rfl rfl (Sub.cons rfl rfl (Sub.cons rfl rfl (Sub.nil _))))))))))) (.cons (.head _ _) rfl (.cons (.head _ _) rfl (.cons (.head _ _) rfl (.cons (.head _ _) rfl (.cons (.head _ _) rfl (.cons (.head _ _) rfl (.cons (.head _ _) rfl (.cons (.head _ _) rfl (.cons (.head _ _) rfl (.cons (.head _ _) rfl (.nil _))))))))))) ?_ ?_
              · show 0 ≤ ((3 : Int) + 1) ∧ ((3 : Int) + 1) ≤ 4
                omega
              · first | omega | (simp only []; omega)
          · refine wc_exit ?_
            refine pe_seq_exit ?_
            refine pe_loop_exit ?_
            refine pe_block_exit ?_
            refine pe_block _ ?_
            refine pe_seq ?_
            refine wc_region ?_
            refine wl_ex (ex_add rfl rfl (by omega) (by omega)) rfl rfl ?_
            refine wl_ex (ex_move rfl) rfl rfl ?_
            refine wl_nil ?_
            refine pe_again ((1 : Int) + 1) (Sub.cons rfl rfl (Sub.cons rfl rfl (Sub.cons rfl rfl (Sub.cons rfl rfl (Sub.cons rfl rfl (Sub.cons rfl rfl (Sub.nil _))))))) (.cons (.tail (.tail (.tail (.head _ _)))) rfl (.cons (.tail (.tail (.tail (.head _ _)))) rfl (.cons (.tail (.tail (.tail (.head _ _)))) rfl (.cons (.tail (.tail (.tail (.head _ _)))) rfl (.cons (.tail (.tail (.tail (.head _ _)))) rfl (.cons (.tail (.tail (.tail (.head _ _)))) rfl (.cons (.tail (.tail (.tail (.head _ _)))) rfl (.nil _)))))))) ?_ ?_
            · show 0 ≤ ((1 : Int) + 1) ∧ ((1 : Int) + 1) ≤ 3
              omega
            · first | omega | (simp only []; omega)
      · refine wl_ex (ex_load rfl ag_25 (rd_enc (j := 0) encV_len (sl_own (.head _ _)) (show ([.slice A58 ((evenI y).length) c59, .slice A63 ((bentN (evenI y) bd.a bd.b bd.c).length) c64, .slice Ao ((o.take 9).length) co] : List Value)[((2 : Int)).toNat]? = some (.slice Ao ((o.take 9).length) co) from rfl) rfl)) rfl rfl ?_
        refine wl_ex (ex_assign rfl) rfl rfl ?_
        refine wl_nil ?_
        refine pe_seq ?_
        refine wc_seq ?_
        refine wc_region ?_
        refine wl_ex (ex_move rfl) rfl rfl ?_
        refine wl_callV [.tmp 179] rfl ok_28 rfl (fun w hm => c_Fewest Ao co (o.take 9) w (((sl_arg hot rfl)).at hm)  (by first | assumption | omega)) rfl ?_
        refine wl_ex (ex_move rfl) rfl rfl ?_
        refine wl_ex (ex_extract rfl rfl) rfl rfl ?_
        refine wl_ex (ex_extract rfl rfl) rfl rfl ?_
        refine wl_ex (ex_assign rfl) rfl rfl ?_
        refine wl_ex (ex_assign rfl) rfl rfl ?_
        refine wl_nil ?_
        refine pe_seq ?_
        refine wc_seq ?_
        refine wc_region ?_
        refine wl_ex (ex_move rfl) rfl rfl ?_
        refine wl_callV [.tmp 184] rfl ok_29 rfl (fun w hm => c_FewestR Ao co (o.take 9) w (((sl_arg hot rfl)).at hm)  (by first | assumption | omega)) rfl ?_
        refine wl_ex (ex_move rfl) rfl rfl ?_
        refine wl_ex (ex_extract rfl rfl) rfl rfl ?_
        refine wl_ex (ex_extract rfl rfl) rfl rfl ?_
        refine wl_ex (ex_assign rfl) rfl rfl ?_
        refine wl_ex (ex_assign rfl) rfl rfl ?_
        refine wl_nil ?_
        refine pe_seq ?_
        refine wc_seq ?_
        refine wc_region ?_
        refine wl_ex (ex_move rfl) rfl rfl ?_
        refine wl_callS2 [.tmp 189] rfl ok_30 rfl (fun w hm => c_Settle Ao co (o.take 9) w (((sl_arg hot rfl)).at hm)  (by first | assumption | omega)) rfl fun A92 c93 => ?_
        refine wl_ex (ex_move rfl) rfl rfl ?_
        refine wl_ex (ex_extract rfl rfl) rfl rfl ?_
        refine wl_ex (ex_extract rfl rfl) rfl rfl ?_
        refine wl_ex (ex_assign rfl) rfl rfl ?_
        refine wl_ex (ex_assign rfl) rfl rfl ?_
        refine wl_nil ?_
        refine pe_seq ?_
        refine wc_seq ?_
        refine wc_seq ?_
        refine wc_region ?_
        refine wl_ex (ex_move rfl) rfl rfl ?_
        refine wl_ex (ex_move rfl) rfl rfl ?_
        refine wl_ex (ex_neq rfl rfl) rfl rfl ?_
        refine wl_ex (ex_move rfl) rfl rfl ?_
        refine wl_pass rfl rfl rfl (decide_eq_false (fun e => e rfl)) ?_
        refine wl_ex (ex_move rfl) rfl rfl ?_
        refine wl_pass rfl rfl rfl (decide_eq_false (fun e => e rfl)) ?_
        refine wl_ex (ex_move rfl) rfl rfl ?_
        refine wl_pass rfl rfl rfl (decide_eq_false (fun e => e rfl)) ?_
        refine wl_ex (ex_neq rfl rfl) rfl rfl ?_
        refine wl_ex (ex_pickf rfl (decide_eq_false (fun e => e rfl)) rfl) rfl rfl ?_
        refine wl_ex (ex_move rfl) rfl rfl ?_
        refine wl_pass rfl rfl rfl (decide_eq_false (fun e => e rfl)) ?_
        refine wl_ex (ex_move rfl) rfl rfl ?_
        refine wl_pass rfl rfl rfl (decide_eq_false (fun e => e rfl)) ?_
        refine wl_ex (ex_move rfl) rfl rfl ?_
        refine wl_pass rfl rfl rfl (decide_eq_false (fun e => e rfl)) ?_
        refine wl_ex (ex_neq rfl rfl) rfl rfl ?_
        refine wl_ex (ex_pickf rfl (decide_eq_false (fun e => e rfl)) rfl) rfl rfl ?_
        refine wl_ex (ex_move rfl) rfl rfl ?_
        refine wl_pass rfl rfl rfl (decide_eq_false (fun e => e rfl)) ?_
        refine wl_ex (ex_move rfl) rfl rfl ?_
        refine wl_pass rfl rfl rfl (decide_eq_false (fun e => e rfl)) ?_
        refine wl_ex (ex_len Try.underlying24 rfl) rfl rfl ?_
        refine wl_pass rfl rfl rfl (decide_eq_false (fun e => e rfl)) ?_
        refine wl_ex (ex_move rfl) rfl rfl ?_
        refine wl_pass rfl rfl rfl (decide_eq_false (fun e => e rfl)) ?_
        refine wl_ex (ex_neq rfl rfl) rfl rfl ?_
        refine wl_ex (ex_pickf rfl (decide_eq_false (fun e => e rfl)) rfl) rfl rfl ?_
        refine wl_nil ?_
        refine pe_seq ?_
        refine wc_ite rfl (fun c211 => absurd c211 (fun e => e rfl)) (fun c211 => ?_)
        refine wc_skip ?_
        refine pe_seq ?_
        refine wc_seq ?_
        refine wc_seq ?_
        refine wc_region ?_
        refine wl_ex (ex_assign rfl) rfl rfl ?_
        refine wl_nil ?_
        refine pe_seq ?_
        refine wc_block ?_
        refine wc_loop (σ := Int) (fun s => [(39, .int .i64 s), (2, .slice Ar r.length cr), (6, .pointer (some ⟨r1, 0, none⟩)), (11, .slice A2 ((madeI x).length) c3), (32, .slice Ao ((o.take 9).length) co), (37, .slice A92 ((stlR (o.take 9)).length) c93), (172, .slice (some ⟨r65, 0, none⟩) 3 3), (173, .int .i64 ((3 : Nat) : Int)), (174, .int .i64 (2 : Int))]) (fun s => [.own A92 ((stlR (o.take 9)).length) c93 47 3 (encs encD (stlR (o.take 9))), .own (some ⟨r65, 0, none⟩) 3 3 25 1 (encs encV ([.slice A58 ((evenI y).length) c59, .slice A63 ((bentN (evenI y) bd.a bd.b bd.c).length) c64, .slice Ao ((o.take 9).length) co] : List Value)), .own A63 ((bentN (evenI y) bd.a bd.b bd.c).length) c64 3 1 (encs encI (bentN (evenI y) bd.a bd.b bd.c)), .own A58 ((evenI y).length) c59 3 1 (encs encI (evenI y)), .own (some ⟨r9, 0, none⟩) 3 3 24 1 (encs encV ([.slice A2 ((madeI x).length) c3, .slice A7 ((bentD (madeI x) bd.a bd.b bd.c).length) c8, .slice Ar ((r.take 61).length) cr] : List Value)), .own A7 ((bentD (madeI x) bd.a bd.b bd.c).length) c8 47 3 (encs encD (bentD (madeI x) bd.a bd.b bd.c)), .own A2 ((madeI x).length) c3 47 3 (encs encD (madeI x)), .row r1 23 [.int .i64 bd.a, .int .i64 bd.b, .int .i64 bd.c]]) (fun s => 0 ≤ s ∧ s ≤ ((stlR (o.take 9)).length : Int)) (fun s => (((stlR (o.take 9)).length : Int) - s).toNat) (0 : Int) (Sub.cons rfl rfl (Sub.cons rfl rfl (Sub.cons rfl rfl (Sub.cons rfl rfl (Sub.cons rfl rfl (Sub.cons rfl rfl (Sub.cons rfl rfl (Sub.cons rfl rfl (Sub.cons rfl rfl (Sub.nil _)))))))))) (.cons (.head _ _) rfl (.cons (.head _ _) rfl (.cons (.head _ _) rfl (.cons (.head _ _) rfl (.cons (.head _ _) rfl (.cons (.head _ _) rfl (.cons (.head _ _) rfl (.cons (.head _ _) rfl (.nil _))))))))) (by omega) ?_
        rintro u hG
        show WC _ _ _ [(39, .int .i64 u), (2, .slice Ar r.length cr), (6, .pointer (some ⟨r1, 0, none⟩)), (11, .slice A2 ((madeI x).length) c3), (32, .slice Ao ((o.take 9).length) co), (37, .slice A92 ((stlR (o.take 9)).length) c93), (172, .slice (some ⟨r65, 0, none⟩) 3 3), (173, .int .i64 ((3 : Nat) : Int)), (174, .int .i64 (2 : Int))] [.own A92 ((stlR (o.take 9)).length) c93 47 3 (encs encD (stlR (o.take 9))), .own (some ⟨r65, 0, none⟩) 3 3 25 1 (encs encV ([.slice A58 ((evenI y).length) c59, .slice A63 ((bentN (evenI y) bd.a bd.b bd.c).length) c64, .slice Ao ((o.take 9).length) co] : List Value)), .own A63 ((bentN (evenI y) bd.a bd.b bd.c).length) c64 3 1 (encs encI (bentN (evenI y) bd.a bd.b bd.c)), .own A58 ((evenI y).length) c59 3 1 (encs encI (evenI y)), .own (some ⟨r9, 0, none⟩) 3 3 24 1 (encs encV ([.slice A2 ((madeI x).length) c3, .slice A7 ((bentD (madeI x) bd.a bd.b bd.c).length) c8, .slice Ar ((r.take 61).length) cr] : List Value)), .own A7 ((bentD (madeI x) bd.a bd.b bd.c).length) c8 47 3 (encs encD (bentD (madeI x) bd.a bd.b bd.c)), .own A2 ((madeI x).length) c3 47 3 (encs encD (madeI x)), .row r1 23 [.int .i64 bd.a, .int .i64 bd.b, .int .i64 bd.c]]
        replace hG : 0 ≤ u ∧ u ≤ ((stlR (o.take 9)).length : Int) := hG
        obtain ⟨u1, u2⟩ := hG
        refine wc_seq ?_
        refine wc_seq ?_
        refine wc_region ?_
        refine wl_ex (ex_move rfl) rfl rfl ?_
        refine wl_ex (ex_move rfl) rfl rfl ?_
        refine wl_ex (ex_len Try.underlying24 rfl) rfl rfl ?_
        refine wl_ex (ex_lss rfl rfl) rfl rfl ?_
        refine wl_nil ?_
        refine pe_seq ?_
        refine wc_ite rfl (fun c215 => ?_) (fun c215 => ?_)
        · refine wc_skip ?_
          refine pe_seq ?_
          refine wc_seq ?_
          refine wc_block ?_
          obtain ⟨d_stlR_o_take_9__u, hd_stlR_o_take_9__u⟩ := get_if (stlR (o.take 9)) u
          obtain ⟨d_o_take_9__d_stlR_o_take_9__u_frm, hd_o_take_9__d_stlR_o_take_9__u_frm⟩ := get_if (o.take 9) d_stlR_o_take_9__u.frm
          obtain ⟨d_o_take_9__d_stlR_o_take_9__u_to, hd_o_take_9__d_stlR_o_take_9__u_to⟩ := get_if (o.take 9) d_stlR_o_take_9__u.to
          refine wc_cut (σ := Unit) (fun _ => [(2, .slice Ar r.length cr), (6, .pointer (some ⟨r1, 0, none⟩)), (11, .slice A2 ((madeI x).length) c3), (32, .slice Ao ((o.take 9).length) co), (37, .slice A92 ((stlR (o.take 9)).length) c93), (39, .int .i64 u), (172, .slice (some ⟨r65, 0, none⟩) 3 3), (173, .int .i64 ((3 : Nat) : Int)), (174, .int .i64 (2 : Int)), (273, .bool (decide ((((((d_stlR_o_take_9__u.frm < 0) ∨ (((o.take 9).length : Int) ≤ d_stlR_o_take_9__u.frm)) ∨ (d_stlR_o_take_9__u.to < 0)) ∨ (((o.take 9).length : Int) ≤ d_stlR_o_take_9__u.to)) ∨ (0 ≤ d_o_take_9__d_stlR_o_take_9__u_frm)) ∨ (d_o_take_9__d_stlR_o_take_9__u_to ≤ 0))))]) (fun _ => [.own A92 ((stlR (o.take 9)).length) c93 47 3 (encs encD (stlR (o.take 9))), .own (some ⟨r65, 0, none⟩) 3 3 25 1 (encs encV ([.slice A58 ((evenI y).length) c59, .slice A63 ((bentN (evenI y) bd.a bd.b bd.c).length) c64, .slice Ao ((o.take 9).length) co] : List Value)), .own A63 ((bentN (evenI y) bd.a bd.b bd.c).length) c64 3 1 (encs encI (bentN (evenI y) bd.a bd.b bd.c)), .own A58 ((evenI y).length) c59 3 1 (encs encI (evenI y)), .own (some ⟨r9, 0, none⟩) 3 3 24 1 (encs encV ([.slice A2 ((madeI x).length) c3, .slice A7 ((bentD (madeI x) bd.a bd.b bd.c).length) c8, .slice Ar ((r.take 61).length) cr] : List Value)), .own A7 ((bentD (madeI x) bd.a bd.b bd.c).length) c8 47 3 (encs encD (bentD (madeI x) bd.a bd.b bd.c)), .own A2 ((madeI x).length) c3 47 3 (encs encD (madeI x)), .row r1 23 [.int .i64 bd.a, .int .i64 bd.b, .int .i64 bd.c]]) (fun _ => True) ?_ ?_
          · refine wc_region ?_
            refine wl_ex (ex_move rfl) rfl rfl ?_
            refine wl_ex (ex_move rfl) rfl rfl ?_
            refine wl_ex (ex_indexAddr rfl rfl Try.underlying24 sz_47 (sl_own (.head _ _)) (by omega) (by omega) (enc_pos encD_len (by omega))) rfl rfl ?_
            refine wl_ex (ex_fieldAddr (off' := oOf A92 + (u).toNat * 3 + 0) rfl Try.underlying47 rfl sz_3 rfl rfl) rfl rfl ?_
            refine wl_ex (ex_load rfl ag_3 (rd_enc (j := 0) encD_len (sl_own (.head _ _)) (hd_stlR_o_take_9__u (by omega) (by omega)) rfl)) rfl rfl ?_
            refine wl_ex (ex_lss rfl rfl) rfl rfl ?_
            refine wl_ex (ex_move rfl) rfl rfl ?_
            by_cases g94 : d_stlR_o_take_9__u.frm < 0
            · refine wl_skip rfl rfl rfl (fun h => of_decide_eq_false (Value.bool.inj h) g94) rfl rfl ?_
              refine wl_skip rfl rfl rfl (fun h => of_decide_eq_false (Value.bool.inj h) g94) rfl rfl ?_
              refine wl_skip rfl rfl rfl (fun h => of_decide_eq_false (Value.bool.inj h) g94) rfl rfl ?_
              refine wl_skip rfl rfl rfl (fun h => of_decide_eq_false (Value.bool.inj h) g94) rfl rfl ?_
              refine wl_skip rfl rfl rfl (fun h => of_decide_eq_false (Value.bool.inj h) g94) rfl rfl ?_
              refine wl_skip rfl rfl rfl (fun h => of_decide_eq_false (Value.bool.inj h) g94) rfl rfl ?_
              refine wl_skip rfl rfl rfl (fun h => of_decide_eq_false (Value.bool.inj h) g94) rfl rfl ?_
              refine wl_skip rfl rfl rfl (fun h => of_decide_eq_false (Value.bool.inj h) g94) rfl rfl ?_
              refine wl_ex (ex_pickt rfl (decide_eq_true g94) rfl) rfl rfl ?_
              refine wl_ex (ex_move rfl) rfl rfl ?_
              refine wl_skip rfl rfl rfl (by simp) rfl rfl ?_
              refine wl_skip rfl rfl rfl (by simp) rfl rfl ?_
              refine wl_skip rfl rfl rfl (by simp) rfl rfl ?_
              refine wl_skip rfl rfl rfl (by simp) rfl rfl ?_
              refine wl_skip rfl rfl rfl (by simp) rfl rfl ?_
              refine wl_skip rfl rfl rfl (by simp) rfl rfl ?_
              refine wl_ex (ex_pickt rfl rfl rfl) rfl rfl ?_
              refine wl_ex (ex_move rfl) rfl rfl ?_
              refine wl_skip rfl rfl rfl (by simp) rfl rfl ?_
              refine wl_skip rfl rfl rfl (by simp) rfl rfl ?_
              refine wl_skip rfl rfl rfl (by simp) rfl rfl ?_
              refine wl_skip rfl rfl rfl (by simp) rfl rfl ?_
              refine wl_skip rfl rfl rfl (by simp) rfl rfl ?_
              refine wl_skip rfl rfl rfl (by simp) rfl rfl ?_
              refine wl_skip rfl rfl rfl (by simp) rfl rfl ?_
              refine wl_skip rfl rfl rfl (by simp) rfl rfl ?_
              refine wl_ex (ex_pickt rfl rfl rfl) rfl rfl ?_
              refine wl_ex (ex_move rfl) rfl rfl ?_
              refine wl_skip rfl rfl rfl (by simp) rfl rfl ?_
              refine wl_skip rfl rfl rfl (by simp) rfl rfl ?_
              refine wl_skip rfl rfl rfl (by simp) rfl rfl ?_
              refine wl_skip rfl rfl rfl (by simp) rfl rfl ?_
              refine wl_skip rfl rfl rfl (by simp) rfl rfl ?_
              refine wl_skip rfl rfl rfl (by simp) rfl rfl ?_
              refine wl_skip rfl rfl rfl (by simp) rfl rfl ?_
              refine wl_skip rfl rfl rfl (by simp) rfl rfl ?_
              refine wl_skip rfl rfl rfl (by simp) rfl rfl ?_
              refine wl_ex (ex_pickt rfl rfl rfl) rfl rfl ?_
              refine wl_ex (ex_move rfl) rfl rfl ?_
              refine wl_skip rfl rfl rfl (by simp) rfl rfl ?_
              refine wl_skip rfl rfl rfl (by simp) rfl rfl ?_
              refine wl_skip rfl rfl rfl (by simp) rfl rfl ?_
              refine wl_skip rfl rfl rfl (by simp) rfl rfl ?_
              refine wl_skip rfl rfl rfl (by simp) rfl rfl ?_
              refine wl_skip rfl rfl rfl (by simp) rfl rfl ?_
              refine wl_skip rfl rfl rfl (by simp) rfl rfl ?_
              refine wl_skip rfl rfl rfl (by simp) rfl rfl ?_
              refine wl_skip rfl rfl rfl (by simp) rfl rfl ?_
              refine wl_ex (ex_pickt rfl rfl rfl) rfl rfl ?_
              refine wl_nil ?_
              refine pe_cut () (Sub.cons rfl rfl (Sub.cons rfl rfl (Sub.cons rfl rfl (Sub.cons rfl rfl (Sub.cons rfl rfl (Sub.cons rfl rfl (Sub.cons rfl rfl (Sub.cons rfl rfl (Sub.cons rfl rfl (Sub.cons rfl (congrArg Value.bool (by first | (simp [g94]; done) | grind)) (Sub.nil _))))))))))) (.cons (.head _ _) rfl (.cons (.head _ _) rfl (.cons (.head _ _) rfl (.cons (.head _ _) rfl (.cons (.head _ _) rfl (.cons (.head _ _) rfl (.cons (.head _ _) rfl (.cons (.head _ _) rfl (.nil _))))))))) trivial
            · refine wl_pass rfl rfl rfl (decide_eq_false g94) ?_
              refine wl_ex (ex_move rfl) rfl rfl ?_
              refine wl_pass rfl rfl rfl (decide_eq_false g94) ?_
              refine wl_ex (ex_move rfl) rfl rfl ?_
              refine wl_pass rfl rfl rfl (decide_eq_false g94) ?_
              refine wl_ex (ex_indexAddr rfl rfl Try.underlying24 sz_47 (sl_own (.head _ _)) (by omega) (by omega) (enc_pos encD_len (by omega))) rfl rfl ?_
              refine wl_pass rfl rfl rfl (decide_eq_false g94) ?_
              refine wl_ex (ex_fieldAddr (off' := oOf A92 + (u).toNat * 3 + 0) rfl Try.underlying47 rfl sz_3 rfl rfl) rfl rfl ?_
              refine wl_pass rfl rfl rfl (decide_eq_false g94) ?_
              refine wl_ex (ex_load rfl ag_3 (rd_enc (j := 0) encD_len (sl_own (.head _ _)) (hd_stlR_o_take_9__u (by omega) (by omega)) rfl)) rfl rfl ?_
              refine wl_pass rfl rfl rfl (decide_eq_false g94) ?_
              refine wl_ex (ex_move rfl) rfl rfl ?_
              refine wl_pass rfl rfl rfl (decide_eq_false g94) ?_
              refine wl_ex (ex_len Try.underlying25 rfl) rfl rfl ?_
              refine wl_pass rfl rfl rfl (decide_eq_false g94) ?_
              refine wl_ex (ex_geq rfl rfl) rfl rfl ?_
              refine wl_ex (ex_pickf rfl (decide_eq_false g94) rfl) rfl rfl ?_
              refine wl_ex (ex_move rfl) rfl rfl ?_
              by_cases g95 : ((o.take 9).length : Int) ≤ d_stlR_o_take_9__u.frm
              · refine wl_skip rfl rfl rfl (fun h => of_decide_eq_false (Value.bool.inj h) g95) rfl rfl ?_
                refine wl_skip rfl rfl rfl (fun h => of_decide_eq_false (Value.bool.inj h) g95) rfl rfl ?_
                refine wl_skip rfl rfl rfl (fun h => of_decide_eq_false (Value.bool.inj h) g95) rfl rfl ?_
                refine wl_skip rfl rfl rfl (fun h => of_decide_eq_false (Value.bool.inj h) g95) rfl rfl ?_
                refine wl_skip rfl rfl rfl (fun h => of_decide_eq_false (Value.bool.inj h) g95) rfl rfl ?_
                refine wl_skip rfl rfl rfl (fun h => of_decide_eq_false (Value.bool.inj h) g95) rfl rfl ?_
                refine wl_ex (ex_pickt rfl (decide_eq_true g95) rfl) rfl rfl ?_
                refine wl_ex (ex_move rfl) rfl rfl ?_
                refine wl_skip rfl rfl rfl (by simp) rfl rfl ?_
                refine wl_skip rfl rfl rfl (by simp) rfl rfl ?_
                refine wl_skip rfl rfl rfl (by simp) rfl rfl ?_
                refine wl_skip rfl rfl rfl (by simp) rfl rfl ?_
                refine wl_skip rfl rfl rfl (by simp) rfl rfl ?_
                refine wl_skip rfl rfl rfl (by simp) rfl rfl ?_
                refine wl_skip rfl rfl rfl (by simp) rfl rfl ?_
                refine wl_skip rfl rfl rfl (by simp) rfl rfl ?_
                refine wl_ex (ex_pickt rfl rfl rfl) rfl rfl ?_
                refine wl_ex (ex_move rfl) rfl rfl ?_
                refine wl_skip rfl rfl rfl (by simp) rfl rfl ?_
                refine wl_skip rfl rfl rfl (by simp) rfl rfl ?_
                refine wl_skip rfl rfl rfl (by simp) rfl rfl ?_
                refine wl_skip rfl rfl rfl (by simp) rfl rfl ?_
                refine wl_skip rfl rfl rfl (by simp) rfl rfl ?_
                refine wl_skip rfl rfl rfl (by simp) rfl rfl ?_
                refine wl_skip rfl rfl rfl (by simp) rfl rfl ?_
                refine wl_skip rfl rfl rfl (by simp) rfl rfl ?_
                refine wl_skip rfl rfl rfl (by simp) rfl rfl ?_
                refine wl_ex (ex_pickt rfl rfl rfl) rfl rfl ?_
                refine wl_ex (ex_move rfl) rfl rfl ?_
                refine wl_skip rfl rfl rfl (by simp) rfl rfl ?_
                refine wl_skip rfl rfl rfl (by simp) rfl rfl ?_
                refine wl_skip rfl rfl rfl (by simp) rfl rfl ?_
                refine wl_skip rfl rfl rfl (by simp) rfl rfl ?_
                refine wl_skip rfl rfl rfl (by simp) rfl rfl ?_
                refine wl_skip rfl rfl rfl (by simp) rfl rfl ?_
                refine wl_skip rfl rfl rfl (by simp) rfl rfl ?_
                refine wl_skip rfl rfl rfl (by simp) rfl rfl ?_
                refine wl_skip rfl rfl rfl (by simp) rfl rfl ?_
                refine wl_ex (ex_pickt rfl rfl rfl) rfl rfl ?_
                refine wl_nil ?_
                refine pe_cut () (Sub.cons rfl rfl (Sub.cons rfl rfl (Sub.cons rfl rfl (Sub.cons rfl rfl (Sub.cons rfl rfl (Sub.cons rfl rfl (Sub.cons rfl rfl (Sub.cons rfl rfl (Sub.cons rfl rfl (Sub.cons rfl (congrArg Value.bool (by first | (simp [g94, g95]; done) | grind)) (Sub.nil _))))))))))) (.cons (.head _ _) rfl (.cons (.head _ _) rfl (.cons (.head _ _) rfl (.cons (.head _ _) rfl (.cons (.head _ _) rfl (.cons (.head _ _) rfl (.cons (.head _ _) rfl (.cons (.head _ _) rfl (.nil _))))))))) trivial
              · refine wl_pass rfl rfl rfl (decide_eq_false g95) ?_
                refine wl_ex (ex_move rfl) rfl rfl ?_
                refine wl_pass rfl rfl rfl (decide_eq_false g95) ?_
                refine wl_ex (ex_move rfl) rfl rfl ?_
                refine wl_pass rfl rfl rfl (decide_eq_false g95) ?_
                refine wl_ex (ex_indexAddr rfl rfl Try.underlying24 sz_47 (sl_own (.head _ _)) (by omega) (by omega) (enc_pos encD_len (by omega))) rfl rfl ?_
                refine wl_pass rfl rfl rfl (decide_eq_false g95) ?_
                refine wl_ex (ex_fieldAddr (off' := oOf A92 + (u).toNat * 3 + 1) rfl Try.underlying47 rfl sz_3 rfl rfl) rfl rfl ?_
                refine wl_pass rfl rfl rfl (decide_eq_false g95) ?_
                refine wl_ex (ex_load rfl ag_3 (rd_enc (j := 1) encD_len (sl_own (.head _ _)) (hd_stlR_o_take_9__u (by omega) (by omega)) rfl)) rfl rfl ?_
                refine wl_pass rfl rfl rfl (decide_eq_false g95) ?_
                refine wl_ex (ex_lss rfl rfl) rfl rfl ?_
                refine wl_ex (ex_pickf rfl (decide_eq_false g95) rfl) rfl rfl ?_
                refine wl_ex (ex_move rfl) rfl rfl ?_
                by_cases g96 : d_stlR_o_take_9__u.to < 0
                · refine wl_skip rfl rfl rfl (fun h => of_decide_eq_false (Value.bool.inj h) g96) rfl rfl ?_
                  refine wl_skip rfl rfl rfl (fun h => of_decide_eq_false (Value.bool.inj h) g96) rfl rfl ?_
                  refine wl_skip rfl rfl rfl (fun h => of_decide_eq_false (Value.bool.inj h) g96) rfl rfl ?_
                  refine wl_skip rfl rfl rfl (fun h => of_decide_eq_false (Value.bool.inj h) g96) rfl rfl ?_
                  refine wl_skip rfl rfl rfl (fun h => of_decide_eq_false (Value.bool.inj h) g96) rfl rfl ?_
                  refine wl_skip rfl rfl rfl (fun h => of_decide_eq_false (Value.bool.inj h) g96) rfl rfl ?_
                  refine wl_skip rfl rfl rfl (fun h => of_decide_eq_false (Value.bool.inj h) g96) rfl rfl ?_
                  refine wl_skip rfl rfl rfl (fun h => of_decide_eq_false (Value.bool.inj h) g96) rfl rfl ?_
                  refine wl_ex (ex_pickt rfl (decide_eq_true g96) rfl) rfl rfl ?_
                  refine wl_ex (ex_move rfl) rfl rfl ?_
                  refine wl_skip rfl rfl rfl (by simp) rfl rfl ?_
                  refine wl_skip rfl rfl rfl (by simp) rfl rfl ?_
                  refine wl_skip rfl rfl rfl (by simp) rfl rfl ?_
                  refine wl_skip rfl rfl rfl (by simp) rfl rfl ?_
                  refine wl_skip rfl rfl rfl (by simp) rfl rfl ?_
                  refine wl_skip rfl rfl rfl (by simp) rfl rfl ?_
                  refine wl_skip rfl rfl rfl (by simp) rfl rfl ?_
                  refine wl_skip rfl rfl rfl (by simp) rfl rfl ?_
                  refine wl_skip rfl rfl rfl (by simp) rfl rfl ?_
                  refine wl_ex (ex_pickt rfl rfl rfl) rfl rfl ?_
                  refine wl_ex (ex_move rfl) rfl rfl ?_
                  refine wl_skip rfl rfl rfl (by simp) rfl rfl ?_
                  refine wl_skip rfl rfl rfl (by simp) rfl rfl ?_
                  refine wl_skip rfl rfl rfl (by simp) rfl rfl ?_
                  refine wl_skip rfl rfl rfl (by simp) rfl rfl ?_
                  refine wl_skip rfl rfl rfl (by simp) rfl rfl ?_
                  refine wl_skip rfl rfl rfl (by simp) rfl rfl ?_
                  refine wl_skip rfl rfl rfl (by simp) rfl rfl ?_
                  refine wl_skip rfl rfl rfl (by simp) rfl rfl ?_
                  refine wl_skip rfl rfl rfl (by simp) rfl rfl ?_
                  refine wl_ex (ex_pickt rfl rfl rfl) rfl rfl ?_
                  refine wl_nil ?_
                  refine pe_cut () (Sub.cons rfl rfl (Sub.cons rfl rfl (Sub.cons rfl rfl (Sub.cons rfl rfl (Sub.cons rfl rfl (Sub.cons rfl rfl (Sub.cons rfl rfl (Sub.cons rfl rfl (Sub.cons rfl rfl (Sub.cons rfl (congrArg Value.bool (by first | (simp [g94, g95, g96]; done) | grind)) (Sub.nil _))))))))))) (.cons (.head _ _) rfl (.cons (.head _ _) rfl (.cons (.head _ _) rfl (.cons (.head _ _) rfl (.cons (.head _ _) rfl (.cons (.head _ _) rfl (.cons (.head _ _) rfl (.cons (.head _ _) rfl (.nil _))))))))) trivial
                · refine wl_pass rfl rfl rfl (decide_eq_false g96) ?_
                  refine wl_ex (ex_move rfl) rfl rfl ?_
                  refine wl_pass rfl rfl rfl (decide_eq_false g96) ?_
                  refine wl_ex (ex_move rfl) rfl rfl ?_
                  refine wl_pass rfl rfl rfl (decide_eq_false g96) ?_
                  refine wl_ex (ex_indexAddr rfl rfl Try.underlying24 sz_47 (sl_own (.head _ _)) (by omega) (by omega) (enc_pos encD_len (by omega))) rfl rfl ?_
                  refine wl_pass rfl rfl rfl (decide_eq_false g96) ?_
                  refine wl_ex (ex_fieldAddr (off' := oOf A92 + (u).toNat * 3 + 1) rfl Try.underlying47 rfl sz_3 rfl rfl) rfl rfl ?_
                  refine wl_pass rfl rfl rfl (decide_eq_false g96) ?_
                  refine wl_ex (ex_load rfl ag_3 (rd_enc (j := 1) encD_len (sl_own (.head _ _)) (hd_stlR_o_take_9__u (by omega) (by omega)) rfl)) rfl rfl ?_
                  refine wl_pass rfl rfl rfl (decide_eq_false g96) ?_
                  refine wl_ex (ex_move rfl) rfl rfl ?_
                  refine wl_pass rfl rfl rfl (decide_eq_false g96) ?_
                  refine wl_ex (ex_len Try.underlying25 rfl) rfl rfl ?_
                  refine wl_pass rfl rfl rfl (decide_eq_false g96) ?_
                  refine wl_ex (ex_geq rfl rfl) rfl rfl ?_
                  refine wl_ex (ex_pickf rfl (decide_eq_false g96) rfl) rfl rfl ?_
                  refine wl_ex (ex_move rfl) rfl rfl ?_
                  by_cases g97 : ((o.take 9).length : Int) ≤ d_stlR_o_take_9__u.to
                  · refine wl_skip rfl rfl rfl (fun h => of_decide_eq_false (Value.bool.inj h) g97) rfl rfl ?_
                    refine wl_skip rfl rfl rfl (fun h => of_decide_eq_false (Value.bool.inj h) g97) rfl rfl ?_
                    refine wl_skip rfl rfl rfl (fun h => of_decide_eq_false (Value.bool.inj h) g97) rfl rfl ?_
                    refine wl_skip rfl rfl rfl (fun h => of_decide_eq_false (Value.bool.inj h) g97) rfl rfl ?_
                    refine wl_skip rfl rfl rfl (fun h => of_decide_eq_false (Value.bool.inj h) g97) rfl rfl ?_
                    refine wl_skip rfl rfl rfl (fun h => of_decide_eq_false (Value.bool.inj h) g97) rfl rfl ?_
                    refine wl_skip rfl rfl rfl (fun h => of_decide_eq_false (Value.bool.inj h) g97) rfl rfl ?_
                    refine wl_skip rfl rfl rfl (fun h => of_decide_eq_false (Value.bool.inj h) g97) rfl rfl ?_
                    refine wl_skip rfl rfl rfl (fun h => of_decide_eq_false (Value.bool.inj h) g97) rfl rfl ?_
                    refine wl_ex (ex_pickt rfl (decide_eq_true g97) rfl) rfl rfl ?_
                    refine wl_ex (ex_move rfl) rfl rfl ?_
                    refine wl_skip rfl rfl rfl (by simp) rfl rfl ?_
                    refine wl_skip rfl rfl rfl (by simp) rfl rfl ?_
                    refine wl_skip rfl rfl rfl (by simp) rfl rfl ?_
                    refine wl_skip rfl rfl rfl (by simp) rfl rfl ?_
                    refine wl_skip rfl rfl rfl (by simp) rfl rfl ?_
                    refine wl_skip rfl rfl rfl (by simp) rfl rfl ?_
                    refine wl_skip rfl rfl rfl (by simp) rfl rfl ?_
                    refine wl_skip rfl rfl rfl (by simp) rfl rfl ?_
                    refine wl_skip rfl rfl rfl (by simp) rfl rfl ?_
                    refine wl_ex (ex_pickt rfl rfl rfl) rfl rfl ?_
                    refine wl_nil ?_
                    refine pe_cut () (Sub.cons rfl rfl (Sub.cons rfl rfl (Sub.cons rfl rfl (Sub.cons rfl rfl (Sub.cons rfl rfl (Sub.cons rfl rfl (Sub.cons rfl rfl (Sub.cons rfl rfl (Sub.cons rfl rfl (Sub.cons rfl (congrArg Value.bool (by first | (simp [g94, g95, g96, g97]; done) | grind)) (Sub.nil _))))))))))) (.cons (.head _ _) rfl (.cons (.head _ _) rfl (.cons (.head _ _) rfl (.cons (.head _ _) rfl (.cons (.head _ _) rfl (.cons (.head _ _) rfl (.cons (.head _ _) rfl (.cons (.head _ _) rfl (.nil _))))))))) trivial
                  · refine wl_pass rfl rfl rfl (decide_eq_false g97) ?_
                    refine wl_ex (ex_move rfl) rfl rfl ?_
                    refine wl_pass rfl rfl rfl (decide_eq_false g97) ?_
                    refine wl_ex (ex_move rfl) rfl rfl ?_
                    refine wl_pass rfl rfl rfl (decide_eq_false g97) ?_
                    refine wl_ex (ex_move rfl) rfl rfl ?_
                    refine wl_pass rfl rfl rfl (decide_eq_false g97) ?_
                    refine wl_ex (ex_indexAddr rfl rfl Try.underlying24 sz_47 (sl_own (.head _ _)) (by omega) (by omega) (enc_pos encD_len (by omega))) rfl rfl ?_
                    refine wl_pass rfl rfl rfl (decide_eq_false g97) ?_
                    refine wl_ex (ex_fieldAddr (off' := oOf A92 + (u).toNat * 3 + 0) rfl Try.underlying47 rfl sz_3 rfl rfl) rfl rfl ?_
                    refine wl_pass rfl rfl rfl (decide_eq_false g97) ?_
                    refine wl_ex (ex_load rfl ag_3 (rd_enc (j := 0) encD_len (sl_own (.head _ _)) (hd_stlR_o_take_9__u (by omega) (by omega)) rfl)) rfl rfl ?_
                    refine wl_pass rfl rfl rfl (decide_eq_false g97) ?_
                    refine wl_ex (ex_indexAddr rfl rfl Try.underlying25 sz_3 (sl_arg hot rfl) (by omega) (by omega) (enc_pos encI_len (by omega))) rfl rfl ?_
                    refine wl_pass rfl rfl rfl (decide_eq_false g97) ?_
                    refine wl_ex (ex_load rfl ag_3 (rd_int (sl_arg hot rfl) (hd_o_take_9__d_stlR_o_take_9__u_frm (by omega) (by omega)))) rfl rfl ?_
                    refine wl_pass rfl rfl rfl (decide_eq_false g97) ?_
                    refine wl_ex (ex_geq rfl rfl) rfl rfl ?_
                    refine wl_ex (ex_pickf rfl (decide_eq_false g97) rfl) rfl rfl ?_
                    refine wl_ex (ex_move rfl) rfl rfl ?_
                    by_cases g98 : 0 ≤ d_o_take_9__d_stlR_o_take_9__u_frm
                    · refine wl_skip rfl rfl rfl (fun h => of_decide_eq_false (Value.bool.inj h) g98) rfl rfl ?_
                      refine wl_skip rfl rfl rfl (fun h => of_decide_eq_false (Value.bool.inj h) g98) rfl rfl ?_
                      refine wl_skip rfl rfl rfl (fun h => of_decide_eq_false (Value.bool.inj h) g98) rfl rfl ?_
                      refine wl_skip rfl rfl rfl (fun h => of_decide_eq_false (Value.bool.inj h) g98) rfl rfl ?_
                      refine wl_skip rfl rfl rfl (fun h => of_decide_eq_false (Value.bool.inj h) g98) rfl rfl ?_
                      refine wl_skip rfl rfl rfl (fun h => of_decide_eq_false (Value.bool.inj h) g98) rfl rfl ?_
                      refine wl_skip rfl rfl rfl (fun h => of_decide_eq_false (Value.bool.inj h) g98) rfl rfl ?_
                      refine wl_skip rfl rfl rfl (fun h => of_decide_eq_false (Value.bool.inj h) g98) rfl rfl ?_
                      refine wl_skip rfl rfl rfl (fun h => of_decide_eq_false (Value.bool.inj h) g98) rfl rfl ?_
                      refine wl_ex (ex_pickt rfl (decide_eq_true g98) rfl) rfl rfl ?_
                      refine wl_nil ?_
                      refine pe_cut () (Sub.cons rfl rfl (Sub.cons rfl rfl (Sub.cons rfl rfl (Sub.cons rfl rfl (Sub.cons rfl rfl (Sub.cons rfl rfl (Sub.cons rfl rfl (Sub.cons rfl rfl (Sub.cons rfl rfl (Sub.cons rfl (congrArg Value.bool (by first | (simp [g94, g95, g96, g97, g98]; done) | grind)) (Sub.nil _))))))))))) (.cons (.head _ _) rfl (.cons (.head _ _) rfl (.cons (.head _ _) rfl (.cons (.head _ _) rfl (.cons (.head _ _) rfl (.cons (.head _ _) rfl (.cons (.head _ _) rfl (.cons (.head _ _) rfl (.nil _))))))))) trivial
                    · refine wl_pass rfl rfl rfl (decide_eq_false g98) ?_
                      refine wl_ex (ex_move rfl) rfl rfl ?_
                      refine wl_pass rfl rfl rfl (decide_eq_false g98) ?_
                      refine wl_ex (ex_move rfl) rfl rfl ?_
                      refine wl_pass rfl rfl rfl (decide_eq_false g98) ?_
                      refine wl_ex (ex_move rfl) rfl rfl ?_
                      refine wl_pass rfl rfl rfl (decide_eq_false g98) ?_
                      refine wl_ex (ex_indexAddr rfl rfl Try.underlying24 sz_47 (sl_own (.head _ _)) (by omega) (by omega) (enc_pos encD_len (by omega))) rfl rfl ?_
                      refine wl_pass rfl rfl rfl (decide_eq_false g98) ?_
                      refine wl_ex (ex_fieldAddr (off' := oOf A92 + (u).toNat * 3 + 1) rfl Try.underlying47 rfl sz_3 rfl rfl) rfl rfl ?_
                      refine wl_pass rfl rfl rfl (decide_eq_false g98) ?_
                      refine wl_ex (ex_load rfl ag_3 (rd_enc (j := 1) encD_len (sl_own (.head _ _)) (hd_stlR_o_take_9__u (by omega) (by omega)) rfl)) rfl rfl ?_
                      refine wl_pass rfl rfl rfl (decide_eq_false g98) ?_
                      refine wl_ex (ex_indexAddr rfl rfl Try.underlying25 sz_3 (sl_arg hot rfl) (by omega) (by omega) (enc_pos encI_len (by omega))) rfl rfl ?_
                      refine wl_pass rfl rfl rfl (decide_eq_false g98) ?_
                      refine wl_ex (ex_load rfl ag_3 (rd_int (sl_arg hot rfl) (hd_o_take_9__d_stlR_o_take_9__u_to (by omega) (by omega)))) rfl rfl ?_
                      refine wl_pass rfl rfl rfl (decide_eq_false g98) ?_
                      refine wl_ex (ex_leq rfl rfl) rfl rfl ?_
                      refine wl_ex (ex_pickf rfl (decide_eq_false g98) rfl) rfl rfl ?_
                      refine wl_nil ?_
                      refine pe_cut () (Sub.cons rfl rfl (Sub.cons rfl rfl (Sub.cons rfl rfl (Sub.cons rfl rfl (Sub.cons rfl rfl (Sub.cons rfl rfl (Sub.cons rfl rfl (Sub.cons rfl rfl (Sub.cons rfl rfl (Sub.cons rfl (congrArg Value.bool (by first | (simp [g94, g95, g96, g97, g98]; done) | grind)) (Sub.nil _))))))))))) (.cons (.head _ _) rfl (.cons (.head _ _) rfl (.cons (.head _ _) rfl (.cons (.head _ _) rfl (.cons (.head _ _) rfl (.cons (.head _ _) rfl (.cons (.head _ _) rfl (.cons (.head _ _) rfl (.nil _))))))))) trivial
          · rintro _ _
            show WC _ _ _ [(2, .slice Ar r.length cr), (6, .pointer (some ⟨r1, 0, none⟩)), (11, .slice A2 ((madeI x).length) c3), (32, .slice Ao ((o.take 9).length) co), (37, .slice A92 ((stlR (o.take 9)).length) c93), (39, .int .i64 u), (172, .slice (some ⟨r65, 0, none⟩) 3 3), (173, .int .i64 ((3 : Nat) : Int)), (174, .int .i64 (2 : Int)), (273, .bool (decide ((((((d_stlR_o_take_9__u.frm < 0) ∨ (((o.take 9).length : Int) ≤ d_stlR_o_take_9__u.frm)) ∨ (d_stlR_o_take_9__u.to < 0)) ∨ (((o.take 9).length : Int) ≤ d_stlR_o_take_9__u.to)) ∨ (0 ≤ d_o_take_9__d_stlR_o_take_9__u_frm)) ∨ (d_o_take_9__d_stlR_o_take_9__u_to ≤ 0))))] [.own A92 ((stlR (o.take 9)).length) c93 47 3 (encs encD (stlR (o.take 9))), .own (some ⟨r65, 0, none⟩) 3 3 25 1 (encs encV ([.slice A58 ((evenI y).length) c59, .slice A63 ((bentN (evenI y) bd.a bd.b bd.c).length) c64, .slice Ao ((o.take 9).length) co] : List Value)), .own A63 ((bentN (evenI y) bd.a bd.b bd.c).length) c64 3 1 (encs encI (bentN (evenI y) bd.a bd.b bd.c)), .own A58 ((evenI y).length) c59 3 1 (encs encI (evenI y)), .own (some ⟨r9, 0, none⟩) 3 3 24 1 (encs encV ([.slice A2 ((madeI x).length) c3, .slice A7 ((bentD (madeI x) bd.a bd.b bd.c).length) c8, .slice Ar ((r.take 61).length) cr] : List Value)), .own A7 ((bentD (madeI x) bd.a bd.b bd.c).length) c8 47 3 (encs encD (bentD (madeI x) bd.a bd.b bd.c)), .own A2 ((madeI x).length) c3 47 3 (encs encD (madeI x)), .row r1 23 [.int .i64 bd.a, .int .i64 bd.b, .int .i64 bd.c]]
            refine wc_ite rfl (fun c273 => ?_) (fun c273 => ?_)
            · obtain ⟨m1, m2, m3, m4, m5⟩ := stlR_sgn (mem_at (hd_stlR_o_take_9__u (by omega) (by omega)))
              rw [getD_of (hd_o_take_9__d_stlR_o_take_9__u_frm (by omega) (by omega))] at m4
              rw [getD_of (hd_o_take_9__d_stlR_o_take_9__u_to (by omega) (by omega))] at m5
              exfalso; omega
            · refine wc_skip ?_
              refine pe_block _ ?_
              refine pe_seq ?_
              refine wc_region ?_
              refine wl_ex (ex_move rfl) rfl rfl ?_
              refine wl_ex (ex_add rfl rfl (by omega) (by omega)) rfl rfl ?_
              refine wl_ex (ex_assign rfl) rfl rfl ?_
              refine wl_nil ?_
              refine pe_again (u + 1) (Sub.cons rfl rfl (Sub.cons rfl rfl (Sub.cons rfl rfl (Sub.cons rfl rfl (Sub.cons rfl rfl (Sub.cons rfl rfl (Sub.cons rfl rfl (Sub.cons rfl rfl (Sub.cons rfl rfl (Sub.nil _)))))))))) (.cons (.head _ _) rfl (.cons (.head _ _) rfl (.cons (.head _ _) rfl (.cons (.head _ _) rfl (.cons (.head _ _) rfl (.cons (.head _ _) rfl (.cons (.head _ _) rfl (.cons (.head _ _) rfl (.nil _))))))))) ?_ ?_
              · show 0 ≤ (u + 1) ∧ (u + 1) ≤ ((stlR (o.take 9)).length : Int)
                omega
              · first | omega | (simp only []; omega)
        · refine wc_exit ?_
          refine pe_seq_exit ?_
          refine pe_loop_exit ?_
          refine pe_block_exit ?_
          refine pe_seq ?_
          refine wc_seq ?_
          refine wc_draw [.own A92 ((stlR (o.take 9)).length) c93 47 3 (encs encD (stlR (o.take 9))), .own (some ⟨r65, 0, none⟩) 3 3 25 1 (encs encV ([.slice A58 ((evenI y).length) c59, .slice A63 ((bentN (evenI y) bd.a bd.b bd.c).length) c64, .slice Ao ((o.take 9).length) co] : List Value)), .own A63 ((bentN (evenI y) bd.a bd.b bd.c).length) c64 3 1 (encs encI (bentN (evenI y) bd.a bd.b bd.c)), .own A58 ((evenI y).length) c59 3 1 (encs encI (evenI y)), .own (some ⟨r9, 0, none⟩) 3 3 24 1 (encs encV ([.slice A2 ((madeI x).length) c3, .slice A7 ((bentD (madeI x) bd.a bd.b bd.c).length) c8, .slice Ar ((r.take 61).length) cr] : List Value)), .own A7 ((bentD (madeI x) bd.a bd.b bd.c).length) c8 47 3 (encs encD (bentD (madeI x) bd.a bd.b bd.c)), .own A2 ((madeI x).length) c3 47 3 (encs encD (madeI x)), .row r1 23 [.int .i64 bd.a, .int .i64 bd.b, .int .i64 bd.c]] [(0, true), (1, true), (2, true), (3, true), (4, true), (5, true), (6, true), (7, true), (8, true), (10, true), (11, true), (12, true), (13, true), (14, true), (17, true), (9, false), (15, false), (16, true)] mixed (by kernel_rfl) (.cons (.head _ _) rfl (.cons (.head _ _) rfl (.cons (.head _ _) rfl (.cons (.head _ _) rfl (.cons (.head _ _) rfl (.cons (.head _ _) rfl (.cons (.head _ _) rfl (.cons (.head _ _) rfl (.nil _))))))))) ?_
          refine cn_ex rfl (ex_move rfl) rfl rfl ?_
          refine cn_ex rfl (ex_move rfl) rfl rfl ?_
          refine cn_ex rfl (ex_move rfl) rfl rfl ?_
          refine cn_ex rfl (ex_indexAddrA (off' := 0) rfl rfl Try.underlying23 sz_3 (by omega) (by omega) (by simp)) rfl rfl ?_
          refine cn_ex rfl (ex_load rfl ag_3 (rd_row1 (.tail (.tail (.tail (.tail (.tail (.tail (.tail (.head _ _)))))))) rfl)) rfl rfl ?_
          refine cn_ex rfl (ex_indexAddrA (off' := 1) rfl rfl Try.underlying23 sz_3 (by omega) (by omega) (by simp)) rfl rfl ?_
          refine cn_ex rfl (ex_load rfl ag_3 (rd_row1 (.tail (.tail (.tail (.tail (.tail (.tail (.tail (.head _ _)))))))) rfl)) rfl rfl ?_
          refine cn_ex rfl (ex_indexAddrA (off' := 2) rfl rfl Try.underlying23 sz_3 (by omega) (by omega) (by simp)) rfl rfl ?_
          refine cn_ex rfl (ex_load rfl ag_3 (rd_row1 (.tail (.tail (.tail (.tail (.tail (.tail (.tail (.head _ _)))))))) rfl)) rfl rfl ?_
          refine cn_ex rfl (ex_move rfl) rfl rfl ?_
          refine cn_ex rfl (ex_move rfl) rfl rfl ?_
          refine cn_ex rfl (ex_len Try.underlying24 rfl) rfl rfl ?_
          refine cn_ex rfl (ex_min rfl rfl) rfl rfl ?_
          refine cn_ex rfl (ex_sliceH0 rfl rfl Try.underlying24 sz_47 (by omega) (by omega)) rfl rfl ?_
          refine cn_ex rfl (ex_move rfl) rfl rfl ?_
          refine cn_tail rfl ?_
          refine wl_callS [.tmp 276, .tmp 278, .tmp 280, .tmp 282] rfl ok_13 rfl (fun w hm => c_Bent A92 c93 (stlR (o.take 9)) bd.a bd.b bd.c w (((sl_own (.head _ _))).at hm)  (by omega) (by assumption) (by assumption) (by assumption)) rfl fun A102 c103 => ?_
          refine cn_back (.cons (.tail (.head _ _)) rfl (.cons (.tail (.head _ _)) rfl (.cons (.tail (.head _ _)) rfl (.cons (.tail (.head _ _)) rfl (.cons (.tail (.head _ _)) rfl (.cons (.tail (.head _ _)) rfl (.cons (.tail (.head _ _)) rfl (.cons (.tail (.head _ _)) rfl (.nil _))))))))) ?_
          rw [hrn]
          refine cn_tail rfl ?_
          refine wl_buildSlice [.tmp 274, .tmp 275, .tmp 283, .tmp 288] rfl rfl Try.underlying29 sz_24 ze_24 rfl (by simp [Value.cells]) (by omega) (by omega) rfl fun r104 => ?_
          rw [show List.flatMap (fun x => x.cells.toList) ([.slice A92 ((stlR (o.take 9)).length) c93, .slice A2 ((madeI x).length) c3, .slice A102 ((bentD (stlR (o.take 9)) bd.a bd.b bd.c).length) c103, .slice Ar ((r.take 61).length) cr] : List Value) = encs encV ([.slice A92 ((stlR (o.take 9)).length) c93, .slice A2 ((madeI x).length) c3, .slice A102 ((bentD (stlR (o.take 9)) bd.a bd.b bd.c).length) c103, .slice Ar ((r.take 61).length) cr] : List Value) from rfl]
          refine cn_back (.cons (.tail (.tail (.head _ _))) rfl (.cons (.tail (.tail (.head _ _))) rfl (.cons (.tail (.tail (.head _ _))) rfl (.cons (.tail (.tail (.head _ _))) rfl (.cons (.tail (.tail (.head _ _))) rfl (.cons (.tail (.tail (.head _ _))) rfl (.cons (.tail (.tail (.head _ _))) rfl (.cons (.tail (.tail (.head _ _))) rfl (.nil _))))))))) ?_
          refine cn_ex rfl (ex_len Try.underlying29 rfl) rfl rfl ?_
          refine cn_nil ?_
          refine pe_seq ?_
          refine wc_block ?_
          refine wc_loop (σ := Int) (fun s => [(291, .int .i64 s), (2, .slice Ar r.length cr), (6, .pointer (some ⟨r1, 0, none⟩)), (11, .slice A2 ((madeI x).length) c3), (32, .slice Ao ((o.take 9).length) co), (172, .slice (some ⟨r65, 0, none⟩) 3 3), (173, .int .i64 ((3 : Nat) : Int)), (174, .int .i64 (2 : Int)), (289, .slice (some ⟨r104, 0, none⟩) 4 4), (290, .int .i64 ((4 : Nat) : Int))]) (fun s => [.own (some ⟨r104, 0, none⟩) 4 4 24 1 (encs encV ([.slice A92 ((stlR (o.take 9)).length) c93, .slice A2 ((madeI x).length) c3, .slice A102 ((bentD (stlR (o.take 9)) bd.a bd.b bd.c).length) c103, .slice Ar ((r.take 61).length) cr] : List Value)), .own A102 ((bentD (stlR (o.take 9)) bd.a bd.b bd.c).length) c103 47 3 (encs encD (bentD (stlR (o.take 9)) bd.a bd.b bd.c)), .own A92 ((stlR (o.take 9)).length) c93 47 3 (encs encD (stlR (o.take 9))), .own (some ⟨r65, 0, none⟩) 3 3 25 1 (encs encV ([.slice A58 ((evenI y).length) c59, .slice A63 ((bentN (evenI y) bd.a bd.b bd.c).length) c64, .slice Ao ((o.take 9).length) co] : List Value)), .own A63 ((bentN (evenI y) bd.a bd.b bd.c).length) c64 3 1 (encs encI (bentN (evenI y) bd.a bd.b bd.c)), .own A58 ((evenI y).length) c59 3 1 (encs encI (evenI y)), .own (some ⟨r9, 0, none⟩) 3 3 24 1 (encs encV ([.slice A2 ((madeI x).length) c3, .slice A7 ((bentD (madeI x) bd.a bd.b bd.c).length) c8, .slice Ar ((r.take 61).length) cr] : List Value)), .own A7 ((bentD (madeI x) bd.a bd.b bd.c).length) c8 47 3 (encs encD (bentD (madeI x) bd.a bd.b bd.c)), .own A2 ((madeI x).length) c3 47 3 (encs encD (madeI x)), .row r1 23 [.int .i64 bd.a, .int .i64 bd.b, .int .i64 bd.c]]) (fun s => 0 ≤ s ∧ s ≤ 4) (fun s => (4 - s).toNat) (0 : Int) (Sub.cons rfl rfl (Sub.cons rfl rfl (Sub.cons rfl rfl (Sub.cons rfl rfl (Sub.cons rfl rfl (Sub.cons rfl rfl (Sub.cons rfl rfl (Sub.cons rfl rfl (Sub.cons rfl rfl (Sub.cons rfl rfl (Sub.nil _))))))))))) (.cons (.head _ _) rfl (.cons (.head _ _) rfl (.cons (.head _ _) rfl (.cons (.head _ _) rfl (.cons (.head _ _) rfl (.cons (.head _ _) rfl (.cons (.head _ _) rfl (.cons (.head _ _) rfl (.cons (.head _ _) rfl (.cons (.head _ _) rfl (.nil _))))))))))) (by omega) ?_
          rintro kq hG
          show WC _ _ _ [(291, .int .i64 kq), (2, .slice Ar r.length cr), (6, .pointer (some ⟨r1, 0, none⟩)), (11, .slice A2 ((madeI x).length) c3), (32, .slice Ao ((o.take 9).length) co), (172, .slice (some ⟨r65, 0, none⟩) 3 3), (173, .int .i64 ((3 : Nat) : Int)), (174, .int .i64 (2 : Int)), (289, .slice (some ⟨r104, 0, none⟩) 4 4), (290, .int .i64 ((4 : Nat) : Int))] [.own (some ⟨r104, 0, none⟩) 4 4 24 1 (encs encV ([.slice A92 ((stlR (o.take 9)).length) c93, .slice A2 ((madeI x).length) c3, .slice A102 ((bentD (stlR (o.take 9)) bd.a bd.b bd.c).length) c103, .slice Ar ((r.take 61).length) cr] : List Value)), .own A102 ((bentD (stlR (o.take 9)) bd.a bd.b bd.c).length) c103 47 3 (encs encD (bentD (stlR (o.take 9)) bd.a bd.b bd.c)), .own A92 ((stlR (o.take 9)).length) c93 47 3 (encs encD (stlR (o.take 9))), .own (some ⟨r65, 0, none⟩) 3 3 25 1 (encs encV ([.slice A58 ((evenI y).length) c59, .slice A63 ((bentN (evenI y) bd.a bd.b bd.c).length) c64, .slice Ao ((o.take 9).length) co] : List Value)), .own A63 ((bentN (evenI y) bd.a bd.b bd.c).length) c64 3 1 (encs encI (bentN (evenI y) bd.a bd.b bd.c)), .own A58 ((evenI y).length) c59 3 1 (encs encI (evenI y)), .own (some ⟨r9, 0, none⟩) 3 3 24 1 (encs encV ([.slice A2 ((madeI x).length) c3, .slice A7 ((bentD (madeI x) bd.a bd.b bd.c).length) c8, .slice Ar ((r.take 61).length) cr] : List Value)), .own A7 ((bentD (madeI x) bd.a bd.b bd.c).length) c8 47 3 (encs encD (bentD (madeI x) bd.a bd.b bd.c)), .own A2 ((madeI x).length) c3 47 3 (encs encD (madeI x)), .row r1 23 [.int .i64 bd.a, .int .i64 bd.b, .int .i64 bd.c]]
          replace hG : 0 ≤ kq ∧ kq ≤ 4 := hG
          obtain ⟨k1, k2⟩ := hG
          refine wc_seq ?_
          refine wc_region ?_
          refine wl_ex (ex_lss rfl rfl) rfl rfl ?_
          refine wl_nil ?_
          refine pe_seq ?_
          refine wc_seq ?_
          refine wc_ite rfl (fun c292 => ?_) (fun c292 => ?_)
          · refine wc_skip ?_
            refine pe_seq ?_
            refine wc_seq ?_
            refine wc_block ?_
            refine wc_seq ?_
            refine wc_region ?_
            refine wl_ex (ex_indexAddrN rfl rfl rfl Try.underlying29 sz_24 (by omega) (by omega)) rfl rfl ?_
            rcases (show kq = 0 ∨ kq = 1 ∨ kq = 2 ∨ kq = 3 by omega) with rfl | rfl | rfl | rfl
            · refine wl_ex (ex_load rfl ag_24 (rd_enc (j := 0) encV_len (sl_own (.head _ _)) (show ([.slice A92 ((stlR (o.take 9)).length) c93, .slice A2 ((madeI x).length) c3, .slice A102 ((bentD (stlR (o.take 9)) bd.a bd.b bd.c).length) c103, .slice Ar ((r.take 61).length) cr] : List Value)[((0 : Int)).toNat]? = some (.slice A92 ((stlR (o.take 9)).length) c93) from rfl) rfl)) rfl rfl ?_
              refine wl_ex (ex_assign rfl) rfl rfl ?_
              refine wl_nil ?_
              refine pe_seq ?_
              refine wc_seq ?_
              refine wc_region ?_
              refine wl_ex (ex_move rfl) rfl rfl ?_
              refine wl_ex (ex_move rfl) rfl rfl ?_
              refine wl_callV [.tmp 295, .tmp 296] rfl ok_31 rfl (fun w hm => c_Check Ao co (o.take 9) A92 c93 (stlR (o.take 9)) w (((sl_arg hot rfl)).at hm) (((sl_own (.tail (.tail (.head _ _))))).at hm)  (by first | assumption | omega) (by first | assumption | omega)) rfl ?_
              refine wl_ex (ex_move rfl) rfl rfl ?_
              refine wl_ex (ex_move rfl) rfl rfl ?_
              refine wl_callV [.tmp 298, .tmp 299] rfl ok_32 rfl (fun w hm => c_CheckR Ao co (o.take 9) A92 c93 (stlR (o.take 9)) w (((sl_arg hot rfl)).at hm) (((sl_own (.tail (.tail (.head _ _))))).at hm)  (by first | assumption | omega) (by first | assumption | omega)) rfl ?_
              refine wl_ex (ex_bneq Try.underlying4 rfl rfl) rfl rfl ?_
              refine wl_nil ?_
              refine pe_seq ?_
              refine wc_ite rfl (fun c301 => absurd c301 (fun e => e rfl)) (fun c301 => ?_)
              refine wc_skip ?_
              refine pe_block _ ?_
              refine pe_seq ?_
              refine wc_region ?_
              refine wl_ex (ex_add rfl rfl (by omega) (by omega)) rfl rfl ?_
              refine wl_ex (ex_move rfl) rfl rfl ?_
              refine wl_nil ?_
              refine pe_again ((0 : Int) + 1) (Sub.cons rfl rfl (Sub.cons rfl rfl (Sub.cons rfl rfl (Sub.cons rfl rfl (Sub.cons rfl rfl (Sub.cons rfl rfl (Sub.cons rfl rfl (Sub.cons rfl rfl (Sub.cons rfl rfl (Sub.cons rfl rfl (Sub.nil _))))))))))) (.cons (.head _ _) rfl (.cons (.head _ _) rfl (.cons (.head _ _) rfl (.cons (.head _ _) rfl (.cons (.head _ _) rfl (.cons (.head _ _) rfl (.cons (.head _ _) rfl (.cons (.head _ _) rfl (.cons (.head _ _) rfl (.cons (.head _ _) rfl (.nil _))))))))))) ?_ ?_
              · show 0 ≤ ((0 : Int) + 1) ∧ ((0 : Int) + 1) ≤ 4
                omega
              · first | omega | (simp only []; omega)
            · refine wl_ex (ex_load rfl ag_24 (rd_enc (j := 0) encV_len (sl_own (.head _ _)) (show ([.slice A92 ((stlR (o.take 9)).length) c93, .slice A2 ((madeI x).length) c3, .slice A102 ((bentD (stlR (o.take 9)) bd.a bd.b bd.c).length) c103, .slice Ar ((r.take 61).length) cr] : List Value)[((1 : Int)).toNat]? = some (.slice A2 ((madeI x).length) c3) from rfl) rfl)) rfl rfl ?_
              refine wl_ex (ex_assign rfl) rfl rfl ?_
              refine wl_nil ?_
              refine pe_seq ?_
              refine wc_seq ?_
              refine wc_region ?_
              refine wl_ex (ex_move rfl) rfl rfl ?_
              refine wl_ex (ex_move rfl) rfl rfl ?_
              refine wl_callV [.tmp 295, .tmp 296] rfl ok_31 rfl (fun w hm => c_Check Ao co (o.take 9) A2 c3 (madeI x) w (((sl_arg hot rfl)).at hm) (((sl_own (.tail (.tail (.tail (.tail (.tail (.tail (.tail (.tail (.head _ _))))))))))).at hm)  (by first | assumption | omega) (by first | assumption | omega)) rfl ?_
              refine wl_ex (ex_move rfl) rfl rfl ?_
              refine wl_ex (ex_move rfl) rfl rfl ?_
              refine wl_callV [.tmp 298, .tmp 299] rfl ok_32 rfl (fun w hm => c_CheckR Ao co (o.take 9) A2 c3 (madeI x) w (((sl_arg hot rfl)).at hm) (((sl_own (.tail (.tail (.tail (.tail (.tail (.tail (.tail (.tail (.head _ _))))))))))).at hm)  (by first | assumption | omega) (by first | assumption | omega)) rfl ?_
              refine wl_ex (ex_bneq Try.underlying4 rfl rfl) rfl rfl ?_
              refine wl_nil ?_
              refine pe_seq ?_
              refine wc_ite rfl (fun c301 => absurd c301 (fun e => e rfl)) (fun c301 => ?_)
              refine wc_skip ?_
              refine pe_block _ ?_
              refine pe_seq ?_
              refine wc_region ?_
              refine wl_ex (ex_add rfl rfl (by omega) (by omega)) rfl rfl ?_
              refine wl_ex (ex_move rfl) rfl rfl ?_
              refine wl_nil ?_
              refine pe_again ((1 : Int) + 1) (Sub.cons rfl rfl (Sub.cons rfl rfl (Sub.cons rfl rfl (Sub.cons rfl rfl (Sub.cons rfl rfl (Sub.cons rfl rfl (Sub.cons rfl rfl (Sub.cons rfl rfl (Sub.cons rfl rfl (Sub.cons rfl rfl (Sub.nil _))))))))))) (.cons (.head _ _) rfl (.cons (.head _ _) rfl (.cons (.head _ _) rfl (.cons (.head _ _) rfl (.cons (.head _ _) rfl (.cons (.head _ _) rfl (.cons (.head _ _) rfl (.cons (.head _ _) rfl (.cons (.head _ _) rfl (.cons (.head _ _) rfl (.nil _))))))))))) ?_ ?_
              · show 0 ≤ ((1 : Int) + 1) ∧ ((1 : Int) + 1) ≤ 4
                omega
              · first | omega | (simp only []; omega)
            · refine wl_ex (ex_load rfl ag_24 (rd_enc (j := 0) encV_len (sl_own (.head _ _)) (show ([.slice A92 ((stlR (o.take 9)).length) c93, .slice A2 ((madeI x).length) c3, .slice A102 ((bentD (stlR (o.take 9)) bd.a bd.b bd.c).length) c103, .slice Ar ((r.take 61).length) cr] : List Value)[((2 : Int)).toNat]? = some (.slice A102 ((bentD (stlR (o.take 9)) bd.a bd.b bd.c).length) c103) from rfl) rfl)) rfl rfl ?_
              refine wl_ex (ex_assign rfl) rfl rfl ?_
              refine wl_nil ?_
              refine pe_seq ?_
              refine wc_seq ?_
              refine wc_region ?_
              refine wl_ex (ex_move rfl) rfl rfl ?_
              refine wl_ex (ex_move rfl) rfl rfl ?_
              refine wl_callV [.tmp 295, .tmp 296] rfl ok_31 rfl (fun w hm => c_Check Ao co (o.take 9) A102 c103 (bentD (stlR (o.take 9)) bd.a bd.b bd.c) w (((sl_arg hot rfl)).at hm) (((sl_own (.tail (.head _ _)))).at hm)  (by first | assumption | omega) (by first | assumption | omega)) rfl ?_
              refine wl_ex (ex_move rfl) rfl rfl ?_
              refine wl_ex (ex_move rfl) rfl rfl ?_
              refine wl_callV [.tmp 298, .tmp 299] rfl ok_32 rfl (fun w hm => c_CheckR Ao co (o.take 9) A102 c103 (bentD (stlR (o.take 9)) bd.a bd.b bd.c) w (((sl_arg hot rfl)).at hm) (((sl_own (.tail (.head _ _)))).at hm)  (by first | assumption | omega) (by first | assumption | omega)) rfl ?_
              refine wl_ex (ex_bneq Try.underlying4 rfl rfl) rfl rfl ?_
              refine wl_nil ?_
              refine pe_seq ?_
              refine wc_ite rfl (fun c301 => absurd c301 (fun e => e rfl)) (fun c301 => ?_)
              refine wc_skip ?_
              refine pe_block _ ?_
              refine pe_seq ?_
              refine wc_region ?_
              refine wl_ex (ex_add rfl rfl (by omega) (by omega)) rfl rfl ?_
              refine wl_ex (ex_move rfl) rfl rfl ?_
              refine wl_nil ?_
              refine pe_again ((2 : Int) + 1) (Sub.cons rfl rfl (Sub.cons rfl rfl (Sub.cons rfl rfl (Sub.cons rfl rfl (Sub.cons rfl rfl (Sub.cons rfl rfl (Sub.cons rfl rfl (Sub.cons rfl rfl (Sub.cons rfl rfl (Sub.cons rfl rfl (Sub.nil _))))))))))) (.cons (.head _ _) rfl (.cons (.head _ _) rfl (.cons (.head _ _) rfl (.cons (.head _ _) rfl (.cons (.head _ _) rfl (.cons (.head _ _) rfl (.cons (.head _ _) rfl (.cons (.head _ _) rfl (.cons (.head _ _) rfl (.cons (.head _ _) rfl (.nil _))))))))))) ?_ ?_
              · show 0 ≤ ((2 : Int) + 1) ∧ ((2 : Int) + 1) ≤ 4
                omega
              · first | omega | (simp only []; omega)
            · refine wl_ex (ex_load rfl ag_24 (rd_enc (j := 0) encV_len (sl_own (.head _ _)) (show ([.slice A92 ((stlR (o.take 9)).length) c93, .slice A2 ((madeI x).length) c3, .slice A102 ((bentD (stlR (o.take 9)) bd.a bd.b bd.c).length) c103, .slice Ar ((r.take 61).length) cr] : List Value)[((3 : Int)).toNat]? = some (.slice Ar ((r.take 61).length) cr) from rfl) rfl)) rfl rfl ?_
              refine wl_ex (ex_assign rfl) rfl rfl ?_
              refine wl_nil ?_
              refine pe_seq ?_
              refine wc_seq ?_
              refine wc_region ?_
              refine wl_ex (ex_move rfl) rfl rfl ?_
              refine wl_ex (ex_move rfl) rfl rfl ?_
              refine wl_callV [.tmp 295, .tmp 296] rfl ok_31 rfl (fun w hm => c_Check Ao co (o.take 9) Ar cr (r.take 61) w (((sl_arg hot rfl)).at hm) (((sl_arg hrt rfl)).at hm)  (by first | assumption | omega) (by first | assumption | omega)) rfl ?_
              refine wl_ex (ex_move rfl) rfl rfl ?_
              refine wl_ex (ex_move rfl) rfl rfl ?_
              refine wl_callV [.tmp 298, .tmp 299] rfl ok_32 rfl (fun w hm => c_CheckR Ao co (o.take 9) Ar cr (r.take 61) w (((sl_arg hot rfl)).at hm) (((sl_arg hrt rfl)).at hm)  (by first | assumption | omega) (by first | assumption | omega)) rfl ?_
              refine wl_ex (ex_bneq Try.underlying4 rfl rfl) rfl rfl ?_
              refine wl_nil ?_
              refine pe_seq ?_
              refine wc_ite rfl (fun c301 => absurd c301 (fun e => e rfl)) (fun c301 => ?_)
              refine wc_skip ?_
              refine pe_block _ ?_
              refine pe_seq ?_
              refine wc_region ?_
              refine wl_ex (ex_add rfl rfl (by omega) (by omega)) rfl rfl ?_
              refine wl_ex (ex_move rfl) rfl rfl ?_
              refine wl_nil ?_
              refine pe_again ((3 : Int) + 1) (Sub.cons rfl rfl (Sub.cons rfl rfl (Sub.cons rfl rfl (Sub.cons rfl rfl (Sub.cons rfl rfl (Sub.cons rfl rfl (Sub.cons rfl rfl (Sub.cons rfl rfl (Sub.cons rfl rfl (Sub.cons rfl rfl (Sub.nil _))))))))))) (.cons (.head _ _) rfl (.cons (.head _ _) rfl (.cons (.head _ _) rfl (.cons (.head _ _) rfl (.cons (.head _ _) rfl (.cons (.head _ _) rfl (.cons (.head _ _) rfl (.cons (.head _ _) rfl (.cons (.head _ _) rfl (.cons (.head _ _) rfl (.nil _))))))))))) ?_ ?_
              · show 0 ≤ ((3 : Int) + 1) ∧ ((3 : Int) + 1) ≤ 4
                omega
              · first | omega | (simp only []; omega)
          · refine wc_exit ?_
            refine pe_seq_exit ?_
            refine pe_loop_exit ?_
            refine pe_block_exit ?_
            refine pe_block _ ?_
            refine pe_seq ?_
            refine wc_region ?_
            refine wl_ex (ex_add rfl rfl (by omega) (by omega)) rfl rfl ?_
            refine wl_ex (ex_move rfl) rfl rfl ?_
            refine wl_nil ?_
            refine pe_again ((2 : Int) + 1) (Sub.cons rfl rfl (Sub.cons rfl rfl (Sub.cons rfl rfl (Sub.cons rfl rfl (Sub.cons rfl rfl (Sub.cons rfl rfl (Sub.nil _))))))) (.cons (.tail (.tail (.tail (.head _ _)))) rfl (.cons (.tail (.tail (.tail (.head _ _)))) rfl (.cons (.tail (.tail (.tail (.head _ _)))) rfl (.cons (.tail (.tail (.tail (.head _ _)))) rfl (.cons (.tail (.tail (.tail (.head _ _)))) rfl (.cons (.tail (.tail (.tail (.head _ _)))) rfl (.cons (.tail (.tail (.tail (.head _ _)))) rfl (.nil _)))))))) ?_ ?_
            · show 0 ≤ ((2 : Int) + 1) ∧ ((2 : Int) + 1) ≤ 3
              omega
            · first | omega | (simp only []; omega)
    · refine wc_exit ?_
      refine pe_seq_exit ?_
      refine pe_loop_exit ?_
      refine pe_block_exit ?_
      refine pe_seq ?_
      refine wc_seq ?_
      refine wc_region ?_
      refine wl_ex (ex_assign rfl) rfl rfl ?_
      refine wl_nil ?_
      refine pe_seq ?_
      refine wc_ret ?_
      refine pe_ret1 rfl rfl rfl (fun w' hm => ⟨?_, hm.ent (.nil _)⟩)
      rfl

end Go.Proofs.Ytolfgdkdghhidaa
