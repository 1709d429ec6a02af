/- Walks. -/
import Derived.Test.YteglbaidaekccaaTe
set_option linter.unusedVariables false
set_option linter.unusedSimpArgs false
set_option maxRecDepth 10000
namespace Go.Proofs.Yteglbaidaekccaa
open Go Go.RowKit
theorem sum_weeks (b : Int) (l : List Rate) (o : Int) {q e : Int} (h : 0 ≤ q ∧ q ≤ e) : (sumP b l o e.toNat - sumP b l o (q + (e - q) / 604800 * 604800).toNat) + (e - q) / 604800 * (sumP b l o (q + 604800).toNat - sumP b l o q.toNat) = sumP b l o e.toNat - sumP b l o q.toNat := by
  have h1 : (q + (e - q) / 604800 * 604800).toNat = q.toNat + ((e - q) / 604800).toNat * 604800 := by omega
  have h2 : (q + 604800).toNat = q.toNat + 604800 := by omega
  rw [h1, h2, sumP_weeks, sumP_week b l o q.toNat, Int.toNat_of_nonneg (show 0 ≤ (e - q) / 604800 by omega), (show ∀ x y : Int, x + y - x = y from fun x y => by omega)]
  omega
def endI (q e i : Int) : Int := if i = 0 then q else e
def minI (b : Int) (l : List Rate) (o t : Int) : Int := (sumP b l o t.toNat - sumP b l o (0 : Int).toNat) / 60
def amtI (b : Int) (l : List Rate) (o q e : Int) : Int := minI b l o e - minI b l o q
theorem amt_bd {b : Int} {l : List Rate} (h : tarOK b l) (o : Int) {q e : Int} (hs : 0 ≤ q ∧ q ≤ e ∧ e ≤ q + 400000) : 0 ≤ amtI b l o q e ∧ amtI b l o q e ≤ 10000000000 := by
  have := sumP_mono h o (m := q.toNat) e.toNat (by omega)
  unfold amtI minI
  omega
theorem amt_add (b : Int) (l : List Rate) (o q t e : Int) : amtI b l o q t + amtI b l o t e = amtI b l o q e := by unfold amtI; omega
theorem ag_58 : isAggT Try.prog 58 = some true := by kernel_rfl
theorem sz_58 : szT Try.prog 58 = some 2 := by kernel_rfl
theorem ze_58 : zeT Try.prog 58 = some (.agg #[.int .i64 0, .int .i64 0]) := by kernel_rfl
theorem ok_21 : callOK Try.prog 21 = true := by kernel_rfl
theorem ok_22 : callOK Try.prog 22 = true := by kernel_rfl
theorem ok_38 : callOK Try.prog 38 = true := by kernel_rfl

theorem c_sum (b : Int) (Al : Option Addr) (cl : Nat) (l : List Rate) (o q e : Int) (w : World) (hl : Sl w Al (encs encR l)) (hT : tarOK b l) (ho : zoneOK o) (hs : 0 ≤ q ∧ q ≤ e ∧ e ≤ 10000000) :
    Cl Try.prog 22 [.agg #[.slice Al l.length cl, .int .i64 b], .int .i64 o, .agg #[.int .i64 q, .int .i64 e]] w (IsV (.int .i64 (sumP b l o e.toNat - sumP b l o q.toNat)) w) := by
  refine cl_of Try.func22 rfl Try.ntmps22 rfl (Mem.refl w) ?_
  refine wc_seq ?_
  refine wc_region ?_
  refine wl_box rfl rfl rfl fun r1 => ?_
  refine wl_box rfl rfl rfl fun r2 => ?_
  refine wl_box rfl rfl rfl fun r3 => ?_
  refine wl_ex (ex_assign rfl) rfl rfl ?_
  refine wl_nil ?_
  refine pe_seq ?_
  refine wc_seq ?_
  refine wc_region ?_
  refine wl_ex (ex_makeFunc (os := []) (cs := [.tmp 3, .tmp 4]) rfl rfl) rfl rfl ?_
  refine wl_ex (ex_assign rfl) rfl rfl ?_
  refine wl_nil ?_
  refine pe_seq ?_
  refine wc_seq ?_
  refine wc_region ?_
  refine wl_ex (ex_fieldAddr (off' := 1) rfl Try.underlying33 rfl sz_3 rfl rfl) rfl rfl ?_
  refine wl_ex (ex_load rfl ag_3 (rd_row1 (.head _ _) rfl)) rfl rfl ?_
  refine wl_ex (ex_fieldAddr (off' := 0) rfl Try.underlying33 rfl sz_3 rfl rfl) rfl rfl ?_
  refine wl_ex (ex_load rfl ag_3 (rd_row1 (.head _ _) rfl)) rfl rfl ?_
  refine wl_ex (ex_sub rfl rfl (by omega) (by omega)) rfl rfl ?_
  refine wl_ex (ex_quo rfl rfl (by omega) (by omega) (by omega)) rfl rfl ?_
  refine wl_ex (ex_assign rfl) rfl rfl ?_
  refine wl_nil ?_
  refine pe_seq ?_
  refine wc_seq ?_
  refine wc_region ?_
  refine wl_ex (ex_move rfl) rfl rfl ?_
  refine wl_ex (ex_fieldAddr (off' := 0) rfl Try.underlying33 rfl sz_3 rfl rfl) rfl rfl ?_
  refine wl_ex (ex_load rfl ag_3 (rd_row1 (.head _ _) rfl)) rfl rfl ?_
  refine wl_ex (ex_move rfl) rfl rfl ?_
  refine wl_ex (ex_mul rfl rfl (by omega) (by omega)) rfl rfl ?_
  refine wl_ex (ex_add rfl rfl (by omega) (by omega)) rfl rfl ?_
  refine wl_ex (ex_fieldAddr (off' := 1) rfl Try.underlying33 rfl sz_3 rfl rfl) rfl rfl ?_
  refine wl_ex (ex_load rfl ag_3 (rd_row1 (.head _ _) rfl)) rfl rfl ?_
  refine wl_ex (ex_build (cells := #[.int .i64 (q + (((e - q) / 604800) * 604800)), .int .i64 e]) [0, 1] [.tmp 22, .tmp 24] rfl rfl Try.underlying33 ze_33 pl_33 rfl) rfl rfl ?_
  refine wl_callcV [.tmp 25] rfl rfl ok_38 rfl (fun w hm => c_sum1 b Al cl l o (q + (((e - q) / 604800) * 604800)) e r1 r2 w (((sl_arg hl rfl)).at hm) hT ho (by omega) (hm.rowAt (.tail (.tail (.head _ _)))) (hm.rowAt (.tail (.head _ _)))  ) rfl ?_
  refine wl_ex (ex_assign rfl) rfl rfl ?_
  refine wl_nil ?_
  refine pe_seq ?_
  refine wc_seq ?_
  refine wc_seq ?_
  refine wc_region ?_
  have hq1 := sum_bd hT o (show 0 ≤ e ∧ e ≤ 10000000 by omega)
  have hq2 := sum_bd hT o (show 0 ≤ q + (e - q) / 604800 * 604800 ∧ q + (e - q) / 604800 * 604800 ≤ 10000000 by omega)
  have hq3 := sum_bd hT o (show 0 ≤ q ∧ q ≤ 10000000 by omega)
  refine wl_ex (ex_move rfl) rfl rfl ?_
  refine wl_ex (ex_gtr rfl rfl) rfl rfl ?_
  refine wl_nil ?_
  refine pe_seq ?_
  refine wc_ite rfl (fun c28 => ?_) (fun c28 => ?_)
  · refine wc_region ?_
    refine wl_ex (ex_move rfl) rfl rfl ?_
    refine wl_ex (ex_move rfl) rfl rfl ?_
    refine wl_ex (ex_move rfl) rfl rfl ?_
    refine wl_ex (ex_fieldAddr (off' := 0) rfl Try.underlying33 rfl sz_3 rfl rfl) rfl rfl ?_
    refine wl_ex (ex_load rfl ag_3 (rd_row1 (.head _ _) rfl)) rfl rfl ?_
    refine wl_ex (ex_fieldAddr (off' := 0) rfl Try.underlying33 rfl sz_3 rfl rfl) rfl rfl ?_
    refine wl_ex (ex_load rfl ag_3 (rd_row1 (.head _ _) rfl)) rfl rfl ?_
    refine wl_ex (ex_add rfl rfl (by omega) (by omega)) rfl rfl ?_
    refine wl_ex (ex_build (cells := #[.int .i64 q, .int .i64 (q + 604800)]) [0, 1] [.tmp 33, .tmp 36] rfl rfl Try.underlying33 ze_33 pl_33 rfl) rfl rfl ?_
    refine wl_callcV [.tmp 37] rfl rfl ok_38 rfl (fun w hm => c_sum1 b Al cl l o q (q + 604800) r1 r2 w (((sl_arg hl rfl)).at hm) hT ho (by omega) (hm.rowAt (.tail (.tail (.head _ _)))) (hm.rowAt (.tail (.head _ _)))  ) rfl ?_
    have hq4 := sum_bd hT o (show 0 ≤ q + 604800 ∧ q + 604800 ≤ 10000000 by omega)
    have hq5 := sumP_mono hT o (m := q.toNat) (q + 604800).toNat (by omega)
    have hwb : 0 ≤ (e - q) / 604800 ∧ (e - q) / 604800 ≤ 1000000 := by omega
    have hmb : 0 ≤ (e - q) / 604800 * (sumP b l o (q + 604800).toNat - sumP b l o q.toNat) ∧ (e - q) / 604800 * (sumP b l o (q + 604800).toNat - sumP b l o q.toNat) ≤ 1000000 * 604800000000 := ⟨Int.mul_nonneg hwb.1 (by omega), Int.mul_le_mul hwb.2 (by omega) (by omega) (by omega)⟩
    refine wl_ex (ex_mul rfl rfl (by omega) (by omega)) rfl rfl ?_
    refine wl_ex (ex_add rfl rfl (by omega) (by omega)) rfl rfl ?_
    refine wl_ex (ex_assign rfl) rfl rfl ?_
    refine wl_nil ?_
    refine pe_seq ?_
    refine wc_seq ?_
    refine wc_region ?_
    refine wl_ex (ex_move rfl) rfl rfl ?_
    refine wl_ex (ex_assign rfl) rfl rfl ?_
    refine wl_nil ?_
    refine pe_seq ?_
    refine wc_ret ?_
    refine pe_ret1 rfl rfl rfl (fun w' hm => ⟨?_, hm.ent (.nil _)⟩)
    exact congrArg (Value.int .i64) (sum_weeks b l o ⟨hs.1, hs.2.1⟩)
  · refine wc_skip ?_
    refine pe_seq ?_
    refine wc_seq ?_
    refine wc_region ?_
    refine wl_ex (ex_move rfl) rfl rfl ?_
    refine wl_ex (ex_assign rfl) rfl rfl ?_
    refine wl_nil ?_
    refine pe_seq ?_
    refine wc_ret ?_
    refine pe_ret1 rfl rfl rfl (fun w' hm => ⟨?_, hm.ent (.nil _)⟩)
    have hw := sum_weeks b l o (q := q) (e := e) ⟨hs.1, hs.2.1⟩
    rw [show (e - q) / 604800 = 0 by omega] at hw
    rw [show (e - q) / 604800 = 0 by omega]
    exact congrArg (Value.int .i64) (by omega)

theorem c_Amount (b : Int) (Al : Option Addr) (cl : Nat) (l : List Rate) (o q e : Int) (w : World) (hl : Sl w Al (encs encR l)) (hT : tarOK b l) (ho : zoneOK o) (hs : 0 ≤ q ∧ q ≤ e ∧ e ≤ 10000000) :
    Cl Try.prog 9 [.agg #[.slice Al l.length cl, .int .i64 b], .int .i64 o, .agg #[.int .i64 q, .int .i64 e]] w (IsV (.tuple #[.int .i64 (amtI b l o q e), .int .i64 0]) w) := by
  refine cl_of Try.func9 rfl Try.ntmps9 rfl (Mem.refl w) ?_
  refine wc_seq ?_
  refine wc_region ?_
  refine wl_box rfl rfl rfl fun r1 => ?_
  refine wl_box rfl rfl rfl fun r2 => ?_
  refine wl_ex (ex_assign rfl) rfl rfl ?_
  refine wl_ex (ex_assign rfl) rfl rfl ?_
  refine wl_nil ?_
  refine pe_seq ?_
  refine wc_seq ?_
  refine wc_seq ?_
  refine wc_region ?_
  refine wl_ex (ex_loadS rfl ag_26 sz_26 rfl (rd_rowAll (.tail (.head _ _)))) rfl rfl ?_
  refine wl_ex (ex_move rfl) rfl rfl ?_
  refine wl_ex (ex_loadS rfl ag_33 sz_33 rfl (rd_rowAll (.head _ _))) rfl rfl ?_
  refine wl_callV [.tmp 11, .tmp 12, .tmp 13] rfl ok_21 rfl (fun w hm => c_isGoodT b Al cl l o q e w (((sl_arg hl rfl)).at hm)  (by assumption) (by assumption) (by omega)) rfl ?_
  refine wl_ex (ex_notb rfl) rfl rfl ?_
  refine wl_nil ?_
  refine pe_seq ?_
  refine wc_iff rfl ?_
  refine wc_skip ?_
  refine pe_seq ?_
  refine wc_seq ?_
  refine wc_region ?_
  refine wl_ex (ex_fieldAddr (off' := 0) rfl Try.underlying33 rfl sz_3 rfl rfl) rfl rfl ?_
  refine wl_ex (ex_load rfl ag_3 (rd_row1 (.head _ _) rfl)) rfl rfl ?_
  refine wl_ex (ex_fieldAddr (off' := 1) rfl Try.underlying33 rfl sz_3 rfl rfl) rfl rfl ?_
  refine wl_ex (ex_load rfl ag_3 (rd_row1 (.head _ _) rfl)) rfl rfl ?_
  refine wl_ex (ex_buildA (cells := #[.int .i64 q, .int .i64 e]) [0, 1] [.tmp 17, .tmp 19] rfl rfl Try.underlying58 ze_58 sz_3 rfl) rfl rfl ?_
  refine wl_alloc ze_58 rfl rfl fun r3 => ?_
  refine wl_storeS (vs := [.int .i64 q, .int .i64 e]) rfl rfl (by simp [Value.oneCell']) sz_58 rfl (.head _ _) (by simp) ?_
  rw [show ovr [.int .i64 0, .int .i64 0] 0 [.int .i64 q, .int .i64 e] = [.int .i64 q, .int .i64 e] from rfl]
  refine wl_nil ?_
  refine pe_seq ?_
  refine wc_seq ?_
  refine wc_seq ?_
  refine wc_region ?_
  refine wl_ex (ex_loadS rfl ag_58 sz_58 rfl (rd_rowAll (.head _ _))) rfl rfl ?_
  refine wl_ex (ex_move rfl) rfl rfl ?_
  refine wl_nil ?_
  refine pe_seq ?_
  refine wc_block ?_
  refine wc_loop (σ := Int × Int × Int) (fun s => [(22, .int .i64 s.1), (1, .int .i64 o), (3, .pointer (some ⟨r1, 0, none⟩)), (8, .pointer (some ⟨r3, 0, none⟩)), (21, .agg #[.int .i64 q, .int .i64 e])]) (fun s => [.row r3 58 [.int .i64 s.2.1, .int .i64 s.2.2], .row r2 33 [.int .i64 q, .int .i64 e], .row r1 26 [.slice Al l.length cl, .int .i64 b]]) (fun s => (0 ≤ s.1 ∧ s.1 ≤ 2) ∧ s.2.1 = (if s.1 = 0 then q else minI b l o q) ∧ s.2.2 = (if s.1 = 2 then minI b l o e else e)) (fun s => (2 - s.1).toNat) ((0 : Int), q, e) (Sub.cons rfl rfl (Sub.cons rfl rfl (Sub.cons rfl rfl (Sub.cons rfl rfl (Sub.cons rfl rfl (Sub.nil _)))))) (.cons (.head _ _) (by first | rfl | simp) (.cons (.head _ _) rfl (.cons (.head _ _) rfl (.nil _)))) (by simp) ?_
  rintro ⟨i, x, y⟩ hG
  show WC _ _ _ [(22, .int .i64 i), (1, .int .i64 o), (3, .pointer (some ⟨r1, 0, none⟩)), (8, .pointer (some ⟨r3, 0, none⟩)), (21, .agg #[.int .i64 q, .int .i64 e])] [.row r3 58 [.int .i64 x, .int .i64 y], .row r2 33 [.int .i64 q, .int .i64 e], .row r1 26 [.slice Al l.length cl, .int .i64 b]]
  replace hG : (0 ≤ i ∧ i ≤ 2) ∧ x = (if i = 0 then q else minI b l o q) ∧ y = (if i = 2 then minI b l o e else e) := hG
  obtain ⟨h1, h2, h3⟩ := hG
  refine wc_seq ?_
  refine wc_region ?_
  refine wl_ex (ex_lss rfl rfl) rfl rfl ?_
  refine wl_nil ?_
  refine pe_seq ?_
  refine wc_seq ?_
  refine wc_ite rfl (fun c23 => ?_) (fun c23 => ?_)
  · refine wc_skip ?_
    refine pe_seq ?_
    refine wc_seq ?_
    refine wc_block ?_
    refine wc_seq ?_
    refine wc_region ?_
    refine wl_ex (ex_move rfl) rfl rfl ?_
    refine wl_ex (ex_index rfl rfl Try.underlying58 ag_3 sz_3 (by omega) (by omega) (show #[Value.int .i64 q, Value.int .i64 e][i.toNat]? = some (.int .i64 (endI q e i)) by rcases (show i = 0 ∨ i = 1 by omega) with rfl | rfl <;> rfl)) rfl rfl ?_
    refine wl_ex (ex_assign rfl) rfl rfl ?_
    refine wl_ex (ex_assign rfl) rfl rfl ?_
    refine wl_nil ?_
    refine pe_seq ?_
    refine wc_region ?_
    refine wl_ex (ex_move rfl) rfl rfl ?_
    have hen : 0 ≤ endI q e i ∧ endI q e i ≤ 10000000 := by unfold endI; split <;> omega
    have hq1 := sum_bd hT o hen
    have hq0 : sumP b l o (0 : Int).toNat = 0 := rfl
    refine wl_ex (ex_loadS rfl ag_26 sz_26 rfl (rd_rowAll (.tail (.tail (.head _ _))))) rfl rfl ?_
    refine wl_ex (ex_move rfl) rfl rfl ?_
    refine wl_ex (ex_move rfl) rfl rfl ?_
    refine wl_ex (ex_build (cells := #[.int .i64 0, .int .i64 (endI q e i)]) [1] [.tmp 29] rfl rfl Try.underlying33 ze_33 pl_33 rfl) rfl rfl ?_
    refine wl_callV [.tmp 27, .tmp 28, .tmp 30] rfl ok_22 rfl (fun w hm => c_sum b Al cl l o 0 (endI q e i) w (((sl_arg hl rfl)).at hm)  (by assumption) (by assumption) (by omega)) rfl ?_
    refine wl_ex (ex_quo rfl rfl (by omega) (by omega) (by omega)) rfl rfl ?_
    refine wl_ex (ex_indexAddrA (off' := (i).toNat * 1) rfl rfl Try.underlying58 sz_3 (by omega) (by omega) (by simp)) rfl rfl ?_
    refine wl_store rfl rfl rfl sz_3 (.head _ _) (by have := h1; simp; omega) ?_
    rw [show List.set ([.int .i64 x, .int .i64 y] : List Value) (i.toNat * 1) (.int .i64 ((sumP b l o ((endI q e i) : Int).toNat - sumP b l o (0 : Int).toNat) / 60)) = [.int .i64 (if i = 0 then (sumP b l o ((endI q e i) : Int).toNat - sumP b l o (0 : Int).toNat) / 60 else x), .int .i64 (if i = 0 then y else (sumP b l o ((endI q e i) : Int).toNat - sumP b l o (0 : Int).toNat) / 60)] from by rcases (show i = 0 ∨ i = 1 by omega) with rfl | rfl <;> simp]
    refine wl_nil ?_
    refine pe_block _ ?_
    refine pe_seq ?_
    refine wc_region ?_
    refine wl_ex (ex_add rfl rfl (by omega) (by omega)) rfl rfl ?_
    refine wl_ex (ex_move rfl) rfl rfl ?_
    refine wl_nil ?_
    refine pe_again ⟨i + 1, if i = 0 then (sumP b l o ((endI q e i) : Int).toNat - sumP b l o (0 : Int).toNat) / 60 else x, if i = 0 then y else (sumP b l o ((endI q e i) : Int).toNat - sumP b l o (0 : Int).toNat) / 60⟩ (Sub.cons rfl rfl (Sub.cons rfl rfl (Sub.cons rfl rfl (Sub.cons rfl rfl (Sub.cons rfl rfl (Sub.nil _)))))) (.cons (.head _ _) (by first | rfl | simp) (.cons (.head _ _) rfl (.cons (.head _ _) rfl (.nil _)))) ?_ ?_
    · show (0 ≤ (i + 1) ∧ (i + 1) ≤ 2) ∧ (if i = 0 then (sumP b l o ((endI q e i) : Int).toNat - sumP b l o (0 : Int).toNat) / 60 else x) = (if (i + 1) = 0 then q else minI b l o q) ∧ (if i = 0 then y else (sumP b l o ((endI q e i) : Int).toNat - sumP b l o (0 : Int).toNat) / 60) = (if (i + 1) = 2 then minI b l o e else e)
      have hx : (sumP b l o (endI q e i).toNat - sumP b l o (0 : Int).toNat) / 60 = minI b l o (endI q e i) := rfl
      rw [hx]
      rcases (show i = 0 ∨ i = 1 by omega) with rfl | rfl
      · exact ⟨by omega, by simp [endI], by simpa using h3⟩
      · exact ⟨by omega, by simpa using h2, by simp [endI]⟩
    · first | omega | (simp only []; omega)
  · refine wc_exit ?_
    refine pe_seq_exit ?_
    refine pe_loop_exit ?_
    refine pe_block_exit ?_
    refine pe_seq ?_
    refine wc_seq ?_
    refine wc_region ?_
    have h4 : i = 2 := by omega
    subst h4
    have hs1 := sum_bd hT o (show 0 ≤ q ∧ q ≤ 10000000 by omega)
    have hs2 := sum_bd hT o (show 0 ≤ e ∧ e ≤ 10000000 by omega)
    have hq0 : sumP b l o (0 : Int).toNat = 0 := rfl
    have hx : x = (sumP b l o q.toNat - sumP b l o (0 : Int).toNat) / 60 := h2
    have hy : y = (sumP b l o e.toNat - sumP b l o (0 : Int).toNat) / 60 := h3
    refine wl_ex (ex_indexAddrA (off' := 1) rfl rfl Try.underlying58 sz_3 (by omega) (by omega) (by simp)) rfl rfl ?_
    refine wl_ex (ex_load rfl ag_3 (rd_row1 (.head _ _) rfl)) rfl rfl ?_
    refine wl_ex (ex_indexAddrA (off' := 0) rfl rfl Try.underlying58 sz_3 (by omega) (by omega) (by simp)) rfl rfl ?_
    refine wl_ex (ex_load rfl ag_3 (rd_row1 (.head _ _) rfl)) rfl rfl ?_
    refine wl_ex (ex_sub rfl rfl (by omega) (by omega)) rfl rfl ?_
    refine wl_ex (ex_assign rfl) rfl rfl ?_
    refine wl_ex (ex_assign rfl) rfl rfl ?_
    refine wl_nil ?_
    refine pe_seq ?_
    refine wc_ret ?_
    refine pe_ret2 rfl rfl rfl rfl (fun w' hm => ⟨?_, hm.ent (.nil _)⟩)
    rw [hx, hy]; rfl

end Go.Proofs.Yteglbaidaekccaa
