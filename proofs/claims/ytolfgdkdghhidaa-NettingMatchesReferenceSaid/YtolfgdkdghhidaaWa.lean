/- Walks. -/
import Derived.Test.YtolfgdkdghhidaaE8
import Derived.Test.YtolfgdkdghhidaaProg
import Derived.Test.YtolfgdkdghhidaaP39
set_option linter.unusedVariables false
set_option linter.unusedSimpArgs false
namespace Go.Proofs.Ytolfgdkdghhidaa
open Go Go.RowKit
def encD (d : Debt) : List Value := [.int .i64 d.frm, .int .i64 d.to, .int .i64 d.amt]
theorem encD_len (d : Debt) : (encD d).length = 3 := rfl
theorem encD_one1 (d : Debt) : ∀ v ∈ encD d, v.oneCell' = true := by simp [encD, Value.oneCell']
theorem encD_one (l : List Debt) : ∀ v ∈ encs encD l, v.oneCell' = true := by
  intro v hv
  simp only [encs, List.mem_flatMap] at hv
  obtain ⟨d, _, hd⟩ := hv
  exact encD_one1 d v hd
def toID (d : Debt) : List Int := [d.frm, d.to, d.amt]
theorem toID_inj {d e : Debt} : toID d = toID e ↔ d = e := by
  cases d; cases e; simp [toID]
theorem mixed : Try.prog.follows .mixedOrders = true := by kernel_rfl

theorem ag_3 : isAggT Try.prog 3 = some false := by kernel_rfl
theorem ag_47 : isAggT Try.prog 47 = some true := by kernel_rfl
theorem sz_3 : szT Try.prog 3 = some 1 := by kernel_rfl
theorem sz_47 : szT Try.prog 47 = some 3 := by kernel_rfl
theorem ze_47 : zeT Try.prog 47 = some (.agg #[.int .i64 0, .int .i64 0, .int .i64 0]) := by kernel_rfl
theorem ok_46 : callOK Try.prog 46 = true := by kernel_rfl
theorem ok_61 : callOK Try.prog 61 = true := by kernel_rfl

theorem c_in (n lo hi : Int) (w : World)  :
    Cl Try.prog 61 [.int .i64 n, .int .i64 lo, .int .i64 hi] w (IsV (.bool (decide (lo ≤ n ∧ n ≤ hi))) w) := by
  refine cl_of Try.func61 rfl Try.ntmps61 rfl (Mem.refl w) ?_
  refine wc_seq ?_
  refine wc_region ?_
  refine wl_ex (ex_assign rfl) rfl rfl ?_
  refine wl_nil ?_
  refine pe_seq ?_
  refine wc_cut (σ := Unit) (fun _ => [(6, .bool (decide ((lo ≤ n) ∧ (n ≤ hi))))]) (fun _ => []) (fun _ => True) ?_ ?_
  · refine wc_region ?_
    refine wl_ex (ex_move rfl) rfl rfl ?_
    refine wl_ex (ex_move rfl) rfl rfl ?_
    refine wl_ex (ex_geq rfl rfl) rfl rfl ?_
    refine wl_ex (ex_move rfl) rfl rfl ?_
    by_cases g1 : lo ≤ n
    · refine wl_pass rfl rfl rfl (decide_eq_true g1) ?_
      refine wl_ex (ex_move rfl) rfl rfl ?_
      refine wl_pass rfl rfl rfl (decide_eq_true g1) ?_
      refine wl_ex (ex_move rfl) rfl rfl ?_
      refine wl_pass rfl rfl rfl (decide_eq_true g1) ?_
      refine wl_ex (ex_leq rfl rfl) rfl rfl ?_
      refine wl_ex (ex_pickt rfl (decide_eq_true g1) rfl) rfl rfl ?_
      refine wl_ex (ex_assign rfl) rfl rfl ?_
      refine wl_nil ?_
      refine pe_cut () (Sub.cons rfl (congrArg Value.bool (by first | (simp [g1]; done) | grind)) (Sub.nil _)) (.nil _) trivial
    · refine wl_skip rfl rfl rfl (fun h => g1 (of_decide_eq_true (Value.bool.inj h))) rfl rfl ?_
      refine wl_skip rfl rfl rfl (fun h => g1 (of_decide_eq_true (Value.bool.inj h))) rfl rfl ?_
      refine wl_skip rfl rfl rfl (fun h => g1 (of_decide_eq_true (Value.bool.inj h))) rfl rfl ?_
      refine wl_ex (ex_pickf rfl (decide_eq_false g1) rfl) rfl rfl ?_
      refine wl_ex (ex_assign rfl) rfl rfl ?_
      refine wl_nil ?_
      refine pe_cut () (Sub.cons rfl (congrArg Value.bool (by first | (simp [g1]; done) | grind)) (Sub.nil _)) (.nil _) trivial
  · rintro _ _
    show WC _ _ _ [(6, .bool (decide ((lo ≤ n) ∧ (n ≤ hi))))] []
    refine wc_ret ?_
    refine pe_ret1 rfl rfl rfl (fun w' hm => ⟨?_, hm.ent (.nil _)⟩)
    first | rfl | (congr 1; omega)

theorem c_isIn (n lo hi : Int) (w : World)  :
    Cl Try.prog 59 [.int .i64 n, .int .i64 lo, .int .i64 hi] w (IsV (.bool (decide (lo ≤ n ∧ n ≤ hi))) w) := by
  refine cl_of Try.func59 rfl Try.ntmps59 rfl (Mem.refl w) ?_
  refine wc_seq ?_
  refine wc_region ?_
  refine wl_ex (ex_assign rfl) rfl rfl ?_
  refine wl_nil ?_
  refine pe_seq ?_
  refine wc_cut (σ := Unit) (fun _ => [(6, .bool (decide ((lo ≤ n) ∧ (n ≤ hi))))]) (fun _ => []) (fun _ => True) ?_ ?_
  · refine wc_region ?_
    refine wl_ex (ex_move rfl) rfl rfl ?_
    refine wl_ex (ex_move rfl) rfl rfl ?_
    refine wl_ex (ex_leq rfl rfl) rfl rfl ?_
    refine wl_ex (ex_move rfl) rfl rfl ?_
    by_cases g1 : lo ≤ n
    · refine wl_pass rfl rfl rfl (decide_eq_true g1) ?_
      refine wl_ex (ex_move rfl) rfl rfl ?_
      refine wl_pass rfl rfl rfl (decide_eq_true g1) ?_
      refine wl_ex (ex_move rfl) rfl rfl ?_
      refine wl_pass rfl rfl rfl (decide_eq_true g1) ?_
      refine wl_ex (ex_leq rfl rfl) rfl rfl ?_
      refine wl_ex (ex_pickt rfl (decide_eq_true g1) rfl) rfl rfl ?_
      refine wl_ex (ex_assign rfl) rfl rfl ?_
      refine wl_nil ?_
      refine pe_cut () (Sub.cons rfl (congrArg Value.bool (by first | (simp [g1]; done) | grind)) (Sub.nil _)) (.nil _) trivial
    · refine wl_skip rfl rfl rfl (fun h => g1 (of_decide_eq_true (Value.bool.inj h))) rfl rfl ?_
      refine wl_skip rfl rfl rfl (fun h => g1 (of_decide_eq_true (Value.bool.inj h))) rfl rfl ?_
      refine wl_skip rfl rfl rfl (fun h => g1 (of_decide_eq_true (Value.bool.inj h))) rfl rfl ?_
      refine wl_ex (ex_pickf rfl (decide_eq_false g1) rfl) rfl rfl ?_
      refine wl_ex (ex_assign rfl) rfl rfl ?_
      refine wl_nil ?_
      refine pe_cut () (Sub.cons rfl (congrArg Value.bool (by first | (simp [g1]; done) | grind)) (Sub.nil _)) (.nil _) trivial
  · rintro _ _
    show WC _ _ _ [(6, .bool (decide ((lo ≤ n) ∧ (n ≤ hi))))] []
    refine wc_ret ?_
    refine pe_ret1 rfl rfl rfl (fun w' hm => ⟨?_, hm.ent (.nil _)⟩)
    first | rfl | (congr 1; omega)

theorem c_pickR (c n : Int) (w : World) (b1 : -9223372036854775808 ≤ c ∧ c < 9223372036854775808) (b3 : 0 < n) :
    Cl Try.prog 36 [.int .i64 c, .int .i64 n] w (IsV (.int .i64 (pickI c n)) w) := by
  refine cl_of Try.func36 rfl Try.ntmps36 rfl (Mem.refl w) ?_
  refine wc_seq ?_
  refine wc_region ?_
  refine wl_ex (ex_assign rfl) rfl rfl ?_
  refine wl_nil ?_
  refine pe_seq ?_
  refine wc_seq ?_
  refine wc_seq ?_
  refine wc_region ?_
  refine wl_ex (ex_move rfl) rfl rfl ?_
  refine wl_ex (ex_lss rfl rfl) rfl rfl ?_
  refine wl_nil ?_
  refine pe_seq ?_
  refine wc_ite rfl (fun c6 => ?_) (fun c6 => ?_)
  · refine wc_region ?_
    refine wl_ex (ex_move rfl) rfl rfl ?_
    refine wl_ex (ex_add rfl rfl (by omega) (by omega)) rfl rfl ?_
    refine wl_ex (ex_neg rfl (by omega) (by omega)) rfl rfl ?_
    refine wl_ex (ex_assign rfl) rfl rfl ?_
    refine wl_nil ?_
    refine pe_seq ?_
    refine wc_seq ?_
    refine wc_region ?_
    refine wl_ex (ex_move rfl) rfl rfl ?_
    refine wl_ex (ex_move rfl) rfl rfl ?_
    refine wl_ex (ex_rem rfl rfl (by omega) (by omega)) rfl rfl ?_
    refine wl_ex (ex_assign rfl) rfl rfl ?_
    refine wl_nil ?_
    refine pe_seq ?_
    refine wc_ret ?_
    refine pe_ret1 rfl rfl rfl (fun w' hm => ⟨?_, hm.ent (.nil _)⟩)
    simp only [pickI]; simp [*]
  · refine wc_skip ?_
    refine pe_seq ?_
    refine wc_seq ?_
    refine wc_region ?_
    refine wl_ex (ex_move rfl) rfl rfl ?_
    refine wl_ex (ex_move rfl) rfl rfl ?_
    refine wl_ex (ex_rem rfl rfl (by omega) (by omega)) rfl rfl ?_
    refine wl_ex (ex_assign rfl) rfl rfl ?_
    refine wl_nil ?_
    refine pe_seq ?_
    refine wc_ret ?_
    refine pe_ret1 rfl rfl rfl (fun w' hm => ⟨?_, hm.ent (.nil _)⟩)
    simp only [pickI]; simp [*]

theorem c_pickL (c n : Int) (w : World) (b1 : -9223372036854775808 ≤ c ∧ c < 9223372036854775808) (b3 : 0 < n) :
    Cl Try.prog 34 [.int .i64 c, .int .i64 n] w (IsV (.int .i64 (pickI c n)) w) := by
  refine cl_of Try.func34 rfl Try.ntmps34 rfl (Mem.refl w) ?_
  refine wc_seq ?_
  refine wc_region ?_
  refine wl_ex (ex_assign rfl) rfl rfl ?_
  refine wl_nil ?_
  refine pe_seq ?_
  refine wc_seq ?_
  refine wc_seq ?_
  refine wc_region ?_
  refine wl_ex (ex_move rfl) rfl rfl ?_
  refine wl_ex (ex_lss rfl rfl) rfl rfl ?_
  refine wl_nil ?_
  refine pe_seq ?_
  refine wc_ite rfl (fun c6 => ?_) (fun c6 => ?_)
  · refine wc_region ?_
    refine wl_ex (ex_move rfl) rfl rfl ?_
    refine wl_ex (ex_add rfl rfl (by omega) (by omega)) rfl rfl ?_
    refine wl_ex (ex_neg rfl (by omega) (by omega)) rfl rfl ?_
    refine wl_ex (ex_assign rfl) rfl rfl ?_
    refine wl_nil ?_
    refine pe_seq ?_
    refine wc_seq ?_
    refine wc_region ?_
    refine wl_ex (ex_move rfl) rfl rfl ?_
    refine wl_ex (ex_move rfl) rfl rfl ?_
    refine wl_ex (ex_rem rfl rfl (by omega) (by omega)) rfl rfl ?_
    refine wl_ex (ex_assign rfl) rfl rfl ?_
    refine wl_nil ?_
    refine pe_seq ?_
    refine wc_ret ?_
    refine pe_ret1 rfl rfl rfl (fun w' hm => ⟨?_, hm.ent (.nil _)⟩)
    simp only [pickI]; simp [*]
  · refine wc_skip ?_
    refine pe_seq ?_
    refine wc_seq ?_
    refine wc_region ?_
    refine wl_ex (ex_move rfl) rfl rfl ?_
    refine wl_ex (ex_move rfl) rfl rfl ?_
    refine wl_ex (ex_rem rfl rfl (by omega) (by omega)) rfl rfl ?_
    refine wl_ex (ex_assign rfl) rfl rfl ?_
    refine wl_nil ?_
    refine pe_seq ?_
    refine wc_ret ?_
    refine pe_ret1 rfl rfl rfl (fun w' hm => ⟨?_, hm.ent (.nil _)⟩)
    simp only [pickI]; simp [*]

theorem c_owes (Al : Option Addr) (cl : Nat) (l : List Debt) (a b : Int) (w : World) (hl : Sl w Al (encs encD l)) (hlen : l.length ≤ 1000) (hb : ∀ d ∈ l, -1000000000000 ≤ d.amt ∧ d.amt ≤ 1000000000000) :
    Cl Try.prog 44 [.slice Al l.length cl, .int .i64 a, .int .i64 b] w (IsV (.int .i64 (owesI a b l)) w) := by
  refine cl_of Try.func44 rfl Try.ntmps44 rfl (Mem.refl w) ?_
  refine wc_seq ?_
  refine wc_region ?_
  refine wl_ex (ex_assign rfl) rfl rfl ?_
  refine wl_nil ?_
  refine pe_seq ?_
  refine wc_seq ?_
  refine wc_region ?_
  refine wl_ex (ex_assign rfl) rfl rfl ?_
  refine wl_nil ?_
  refine pe_seq ?_
  refine wc_seq ?_
  refine wc_seq ?_
  refine wc_region ?_
  refine wl_ex (ex_assign rfl) rfl rfl ?_
  refine wl_nil ?_
  refine pe_seq ?_
  refine wc_block ?_
  refine wc_loop (σ := Int × Int) (fun s => [(7, .int .i64 s.2), (8, .int .i64 s.1), (0, .slice Al l.length cl), (1, .int .i64 a), (2, .int .i64 b)]) (fun s => []) (fun s => 0 ≤ s.1 ∧ s.1 ≤ (l.length : Int) ∧ s.2 = owesI a b (l.take s.1.toNat)) (fun s => ((l.length : Int) - s.1).toNat) (_, _) (Sub.cons rfl rfl (Sub.cons rfl rfl (Sub.cons rfl rfl (Sub.cons rfl rfl (Sub.cons rfl rfl (Sub.nil _)))))) (.nil _) (by simp [owesI]) ?_
  rintro ⟨i, n⟩ hG
  show WC _ _ _ [(7, .int .i64 n), (8, .int .i64 i), (0, .slice Al l.length cl), (1, .int .i64 a), (2, .int .i64 b)] []
  replace hG : 0 ≤ i ∧ i ≤ (l.length : Int) ∧ n = owesI a b (l.take i.toNat) := hG
  obtain ⟨h1, h2, h3⟩ := hG
  have hbd := owes_bd a b l hlen hb i.toNat
  refine wc_seq ?_
  refine wc_seq ?_
  refine wc_region ?_
  refine wl_ex (ex_move rfl) rfl rfl ?_
  refine wl_ex (ex_move rfl) rfl rfl ?_
  refine wl_ex (ex_len Try.underlying24 rfl) rfl rfl ?_
  refine wl_ex (ex_lss rfl rfl) rfl rfl ?_
  refine wl_nil ?_
  refine pe_seq ?_
  refine wc_ite rfl (fun c12 => ?_) (fun c12 => ?_)
  · refine wc_skip ?_
    refine pe_seq ?_
    refine wc_seq ?_
    refine wc_block ?_
    refine wc_seq ?_
    obtain ⟨d_l_i, hd_l_i⟩ := get_if l i
    refine wc_cut (σ := Unit) (fun _ => [(0, .slice Al l.length cl), (1, .int .i64 a), (2, .int .i64 b), (7, .int .i64 n), (8, .int .i64 i), (30, .bool (decide ((d_l_i.frm = a) ∧ (d_l_i.to = b))))]) (fun _ => []) (fun _ => True) ?_ ?_
    · refine wc_region ?_
      refine wl_ex (ex_move rfl) rfl rfl ?_
      refine wl_ex (ex_move rfl) rfl rfl ?_
      refine wl_ex (ex_indexAddr rfl rfl Try.underlying24 sz_47 (sl_arg hl rfl) (by omega) (by omega) (enc_pos encD_len (by omega))) rfl rfl ?_
      refine wl_ex (ex_fieldAddr (off' := oOf Al + (i).toNat * 3 + 0) rfl Try.underlying47 rfl sz_3 rfl rfl) rfl rfl ?_
      refine wl_ex (ex_load rfl ag_3 (rd_enc (j := 0) encD_len (sl_arg hl rfl) (hd_l_i (by omega) (by omega)) rfl)) rfl rfl ?_
      refine wl_ex (ex_move rfl) rfl rfl ?_
      refine wl_ex (ex_eql rfl rfl) rfl rfl ?_
      refine wl_ex (ex_move rfl) rfl rfl ?_
      by_cases g1 : d_l_i.frm = a
      · refine wl_pass rfl rfl rfl (decide_eq_true g1) ?_
        refine wl_ex (ex_move rfl) rfl rfl ?_
        refine wl_pass rfl rfl rfl (decide_eq_true g1) ?_
        refine wl_ex (ex_move rfl) rfl rfl ?_
        refine wl_pass rfl rfl rfl (decide_eq_true g1) ?_
        refine wl_ex (ex_indexAddr rfl rfl Try.underlying24 sz_47 (sl_arg hl rfl) (by omega) (by omega) (enc_pos encD_len (by omega))) rfl rfl ?_
        refine wl_pass rfl rfl rfl (decide_eq_true g1) ?_
        refine wl_ex (ex_fieldAddr (off' := oOf Al + (i).toNat * 3 + 1) rfl Try.underlying47 rfl sz_3 rfl rfl) rfl rfl ?_
        refine wl_pass rfl rfl rfl (decide_eq_true g1) ?_
        refine wl_ex (ex_load rfl ag_3 (rd_enc (j := 1) encD_len (sl_arg hl rfl) (hd_l_i (by omega) (by omega)) rfl)) rfl rfl ?_
        refine wl_pass rfl rfl rfl (decide_eq_true g1) ?_
        refine wl_ex (ex_move rfl) rfl rfl ?_
        refine wl_pass rfl rfl rfl (decide_eq_true g1) ?_
        refine wl_ex (ex_eql rfl rfl) rfl rfl ?_
        refine wl_ex (ex_pickt rfl (decide_eq_true g1) rfl) rfl rfl ?_
        refine wl_nil ?_
        refine pe_cut () (Sub.cons rfl rfl (Sub.cons rfl rfl (Sub.cons rfl rfl (Sub.cons rfl rfl (Sub.cons rfl rfl (Sub.cons rfl (congrArg Value.bool (by first | (simp [g1]; done) | grind)) (Sub.nil _))))))) (.nil _) trivial
      · refine wl_skip rfl rfl rfl (fun h => g1 (of_decide_eq_true (Value.bool.inj h))) rfl rfl ?_
        refine wl_skip rfl rfl rfl (fun h => g1 (of_decide_eq_true (Value.bool.inj h))) rfl rfl ?_
        refine wl_skip rfl rfl rfl (fun h => g1 (of_decide_eq_true (Value.bool.inj h))) rfl rfl ?_
        refine wl_skip rfl rfl rfl (fun h => g1 (of_decide_eq_true (Value.bool.inj h))) rfl rfl ?_
        refine wl_skip rfl rfl rfl (fun h => g1 (of_decide_eq_true (Value.bool.inj h))) rfl rfl ?_
        refine wl_skip rfl rfl rfl (fun h => g1 (of_decide_eq_true (Value.bool.inj h))) rfl rfl ?_
        refine wl_skip rfl rfl rfl (fun h => g1 (of_decide_eq_true (Value.bool.inj h))) rfl rfl ?_
        refine wl_ex (ex_pickf rfl (decide_eq_false g1) rfl) rfl rfl ?_
        refine wl_nil ?_
        refine pe_cut () (Sub.cons rfl rfl (Sub.cons rfl rfl (Sub.cons rfl rfl (Sub.cons rfl rfl (Sub.cons rfl rfl (Sub.cons rfl (congrArg Value.bool (by first | (simp [g1]; done) | grind)) (Sub.nil _))))))) (.nil _) trivial
    · rintro _ _
      show WC _ _ _ [(0, .slice Al l.length cl), (1, .int .i64 a), (2, .int .i64 b), (7, .int .i64 n), (8, .int .i64 i), (30, .bool (decide ((d_l_i.frm = a) ∧ (d_l_i.to = b))))] []
      refine wc_ite rfl (fun c30 => ?_) (fun c30 => ?_)
      · refine wc_region ?_
        refine wl_ex (ex_move rfl) rfl rfl ?_
        refine wl_ex (ex_move rfl) rfl rfl ?_
        refine wl_ex (ex_move rfl) rfl rfl ?_
        refine wl_ex (ex_indexAddr rfl rfl Try.underlying24 sz_47 (sl_arg hl rfl) (by omega) (by omega) (enc_pos encD_len (by omega))) rfl rfl ?_
        refine wl_ex (ex_fieldAddr (off' := oOf Al + (i).toNat * 3 + 2) rfl Try.underlying47 rfl sz_3 rfl rfl) rfl rfl ?_
        refine wl_ex (ex_load rfl ag_3 (rd_enc (j := 2) encD_len (sl_arg hl rfl) (hd_l_i (by omega) (by omega)) rfl)) rfl rfl ?_
        have hbb := hb _ (mem_at (hd_l_i (by omega) (by omega)))
        refine wl_ex (ex_add rfl rfl (by omega) (by omega)) rfl rfl ?_
        refine wl_ex (ex_assign rfl) rfl rfl ?_
        refine wl_nil ?_
        refine pe_seq ?_
        refine wc_cut (σ := Unit) (fun _ => [(0, .slice Al l.length cl), (1, .int .i64 a), (2, .int .i64 b), (7, .int .i64 (n + d_l_i.amt)), (8, .int .i64 i), (53, .bool (decide ((d_l_i.frm = b) ∧ (d_l_i.to = a))))]) (fun _ => []) (fun _ => True) ?_ ?_
        · refine wc_region ?_
          refine wl_ex (ex_move rfl) rfl rfl ?_
          refine wl_ex (ex_move rfl) rfl rfl ?_
          refine wl_ex (ex_indexAddr rfl rfl Try.underlying24 sz_47 (sl_arg hl rfl) (by omega) (by omega) (enc_pos encD_len (by omega))) rfl rfl ?_
          refine wl_ex (ex_fieldAddr (off' := oOf Al + (i).toNat * 3 + 0) rfl Try.underlying47 rfl sz_3 rfl rfl) rfl rfl ?_
          refine wl_ex (ex_load rfl ag_3 (rd_enc (j := 0) encD_len (sl_arg hl rfl) (hd_l_i (by omega) (by omega)) rfl)) rfl rfl ?_
          refine wl_ex (ex_move rfl) rfl rfl ?_
          refine wl_ex (ex_eql rfl rfl) rfl rfl ?_
          refine wl_ex (ex_move rfl) rfl rfl ?_
          by_cases g2 : d_l_i.frm = b
          · refine wl_pass rfl rfl rfl (decide_eq_true g2) ?_
            refine wl_ex (ex_move rfl) rfl rfl ?_
            refine wl_pass rfl rfl rfl (decide_eq_true g2) ?_
            refine wl_ex (ex_move rfl) rfl rfl ?_
            refine wl_pass rfl rfl rfl (decide_eq_true g2) ?_
            refine wl_ex (ex_indexAddr rfl rfl Try.underlying24 sz_47 (sl_arg hl rfl) (by omega) (by omega) (enc_pos encD_len (by omega))) rfl rfl ?_
            refine wl_pass rfl rfl rfl (decide_eq_true g2) ?_
            refine wl_ex (ex_fieldAddr (off' := oOf Al + (i).toNat * 3 + 1) rfl Try.underlying47 rfl sz_3 rfl rfl) rfl rfl ?_
            refine wl_pass rfl rfl rfl (decide_eq_true g2) ?_
            refine wl_ex (ex_load rfl ag_3 (rd_enc (j := 1) encD_len (sl_arg hl rfl) (hd_l_i (by omega) (by omega)) rfl)) rfl rfl ?_
            refine wl_pass rfl rfl rfl (decide_eq_true g2) ?_
            refine wl_ex (ex_move rfl) rfl rfl ?_
            refine wl_pass rfl rfl rfl (decide_eq_true g2) ?_
            refine wl_ex (ex_eql rfl rfl) rfl rfl ?_
            refine wl_ex (ex_pickt rfl (decide_eq_true g2) rfl) rfl rfl ?_
            refine wl_nil ?_
            refine pe_cut () (Sub.cons rfl rfl (Sub.cons rfl rfl (Sub.cons rfl rfl (Sub.cons rfl rfl (Sub.cons rfl rfl (Sub.cons rfl (congrArg Value.bool (by first | (simp [g2]; done) | grind)) (Sub.nil _))))))) (.nil _) trivial
          · refine wl_skip rfl rfl rfl (fun h => g2 (of_decide_eq_true (Value.bool.inj h))) rfl rfl ?_
            refine wl_skip rfl rfl rfl (fun h => g2 (of_decide_eq_true (Value.bool.inj h))) rfl rfl ?_
            refine wl_skip rfl rfl rfl (fun h => g2 (of_decide_eq_true (Value.bool.inj h))) rfl rfl ?_
            refine wl_skip rfl rfl rfl (fun h => g2 (of_decide_eq_true (Value.bool.inj h))) rfl rfl ?_
            refine wl_skip rfl rfl rfl (fun h => g2 (of_decide_eq_true (Value.bool.inj h))) rfl rfl ?_
            refine wl_skip rfl rfl rfl (fun h => g2 (of_decide_eq_true (Value.bool.inj h))) rfl rfl ?_
            refine wl_skip rfl rfl rfl (fun h => g2 (of_decide_eq_true (Value.bool.inj h))) rfl rfl ?_
            refine wl_ex (ex_pickf rfl (decide_eq_false g2) rfl) rfl rfl ?_
            refine wl_nil ?_
            refine pe_cut () (Sub.cons rfl rfl (Sub.cons rfl rfl (Sub.cons rfl rfl (Sub.cons rfl rfl (Sub.cons rfl rfl (Sub.cons rfl (congrArg Value.bool (by first | (simp [g2]; done) | grind)) (Sub.nil _))))))) (.nil _) trivial
        · rintro _ _
          show WC _ _ _ [(0, .slice Al l.length cl), (1, .int .i64 a), (2, .int .i64 b), (7, .int .i64 (n + d_l_i.amt)), (8, .int .i64 i), (53, .bool (decide ((d_l_i.frm = b) ∧ (d_l_i.to = a))))] []
          refine wc_ite rfl (fun c53 => ?_) (fun c53 => ?_)
          · refine wc_region ?_
            refine wl_ex (ex_move rfl) rfl rfl ?_
            refine wl_ex (ex_move rfl) rfl rfl ?_
            refine wl_ex (ex_move rfl) rfl rfl ?_
            refine wl_ex (ex_indexAddr rfl rfl Try.underlying24 sz_47 (sl_arg hl rfl) (by omega) (by omega) (enc_pos encD_len (by omega))) rfl rfl ?_
            refine wl_ex (ex_fieldAddr (off' := oOf Al + (i).toNat * 3 + 2) rfl Try.underlying47 rfl sz_3 rfl rfl) rfl rfl ?_
            refine wl_ex (ex_load rfl ag_3 (rd_enc (j := 2) encD_len (sl_arg hl rfl) (hd_l_i (by omega) (by omega)) rfl)) rfl rfl ?_
            have hbb := hb _ (mem_at (hd_l_i (by omega) (by omega)))
            refine wl_ex (ex_sub rfl rfl (by omega) (by omega)) rfl rfl ?_
            refine wl_ex (ex_assign rfl) rfl rfl ?_
            refine wl_nil ?_
            refine pe_block _ ?_
            refine pe_seq ?_
            refine wc_region ?_
            refine wl_ex (ex_move rfl) rfl rfl ?_
            refine wl_ex (ex_add rfl rfl (by omega) (by omega)) rfl rfl ?_
            refine wl_ex (ex_assign rfl) rfl rfl ?_
            refine wl_nil ?_
            refine pe_again ⟨i + 1, (n + d_l_i.amt) - d_l_i.amt⟩ (Sub.cons rfl rfl (Sub.cons rfl rfl (Sub.cons rfl rfl (Sub.cons rfl rfl (Sub.cons rfl rfl (Sub.nil _)))))) (.nil _) ?_ ?_
            · show 0 ≤ (i + 1) ∧ (i + 1) ≤ (l.length : Int) ∧ ((n + d_l_i.amt) - d_l_i.amt) = owesI a b (l.take (i + 1).toNat)
              have hd := owes_take a b (hd_l_i (by omega) (by omega))
              have hi : (i + 1).toNat = i.toNat + 1 := by omega
              have hbb := hb _ (mem_at (hd_l_i (by omega) (by omega)))
              refine ⟨by omega, by omega, ?_⟩
              rw [hi, hd, ← h3]
              simp [owes1, *]
              try omega
            · first | omega | (simp only []; omega)
          · refine wc_skip ?_
            refine pe_block _ ?_
            refine pe_seq ?_
            refine wc_region ?_
            refine wl_ex (ex_move rfl) rfl rfl ?_
            refine wl_ex (ex_add rfl rfl (by omega) (by omega)) rfl rfl ?_
            refine wl_ex (ex_assign rfl) rfl rfl ?_
            refine wl_nil ?_
            refine pe_again ⟨i + 1, n + d_l_i.amt⟩ (Sub.cons rfl rfl (Sub.cons rfl rfl (Sub.cons rfl rfl (Sub.cons rfl rfl (Sub.cons rfl rfl (Sub.nil _)))))) (.nil _) ?_ ?_
            · show 0 ≤ (i + 1) ∧ (i + 1) ≤ (l.length : Int) ∧ (n + d_l_i.amt) = owesI a b (l.take (i + 1).toNat)
              have hd := owes_take a b (hd_l_i (by omega) (by omega))
              have hi : (i + 1).toNat = i.toNat + 1 := by omega
              have hbb := hb _ (mem_at (hd_l_i (by omega) (by omega)))
              refine ⟨by omega, by omega, ?_⟩
              rw [hi, hd, ← h3]
              simp [owes1, *]
              try omega
            · first | omega | (simp only []; omega)
      · refine wc_skip ?_
        refine pe_seq ?_
        refine wc_cut (σ := Unit) (fun _ => [(0, .slice Al l.length cl), (1, .int .i64 a), (2, .int .i64 b), (7, .int .i64 n), (8, .int .i64 i), (53, .bool (decide ((d_l_i.frm = b) ∧ (d_l_i.to = a))))]) (fun _ => []) (fun _ => True) ?_ ?_
        · refine wc_region ?_
          refine wl_ex (ex_move rfl) rfl rfl ?_
          refine wl_ex (ex_move rfl) rfl rfl ?_
          refine wl_ex (ex_indexAddr rfl rfl Try.underlying24 sz_47 (sl_arg hl rfl) (by omega) (by omega) (enc_pos encD_len (by omega))) rfl rfl ?_
          refine wl_ex (ex_fieldAddr (off' := oOf Al + (i).toNat * 3 + 0) rfl Try.underlying47 rfl sz_3 rfl rfl) rfl rfl ?_
          refine wl_ex (ex_load rfl ag_3 (rd_enc (j := 0) encD_len (sl_arg hl rfl) (hd_l_i (by omega) (by omega)) rfl)) rfl rfl ?_
          refine wl_ex (ex_move rfl) rfl rfl ?_
          refine wl_ex (ex_eql rfl rfl) rfl rfl ?_
          refine wl_ex (ex_move rfl) rfl rfl ?_
          by_cases g3 : d_l_i.frm = b
          · refine wl_pass rfl rfl rfl (decide_eq_true g3) ?_
            refine wl_ex (ex_move rfl) rfl rfl ?_
            refine wl_pass rfl rfl rfl (decide_eq_true g3) ?_
            refine wl_ex (ex_move rfl) rfl rfl ?_
            refine wl_pass rfl rfl rfl (decide_eq_true g3) ?_
            refine wl_ex (ex_indexAddr rfl rfl Try.underlying24 sz_47 (sl_arg hl rfl) (by omega) (by omega) (enc_pos encD_len (by omega))) rfl rfl ?_
            refine wl_pass rfl rfl rfl (decide_eq_true g3) ?_
            refine wl_ex (ex_fieldAddr (off' := oOf Al + (i).toNat * 3 + 1) rfl Try.underlying47 rfl sz_3 rfl rfl) rfl rfl ?_
            refine wl_pass rfl rfl rfl (decide_eq_true g3) ?_
            refine wl_ex (ex_load rfl ag_3 (rd_enc (j := 1) encD_len (sl_arg hl rfl) (hd_l_i (by omega) (by omega)) rfl)) rfl rfl ?_
            refine wl_pass rfl rfl rfl (decide_eq_true g3) ?_
            refine wl_ex (ex_move rfl) rfl rfl ?_
            refine wl_pass rfl rfl rfl (decide_eq_true g3) ?_
            refine wl_ex (ex_eql rfl rfl) rfl rfl ?_
            refine wl_ex (ex_pickt rfl (decide_eq_true g3) rfl) rfl rfl ?_
            refine wl_nil ?_
            refine pe_cut () (Sub.cons rfl rfl (Sub.cons rfl rfl (Sub.cons rfl rfl (Sub.cons rfl rfl (Sub.cons rfl rfl (Sub.cons rfl (congrArg Value.bool (by first | (simp [g3]; done) | grind)) (Sub.nil _))))))) (.nil _) trivial
          · refine wl_skip rfl rfl rfl (fun h => g3 (of_decide_eq_true (Value.bool.inj h))) rfl rfl ?_
            refine wl_skip rfl rfl rfl (fun h => g3 (of_decide_eq_true (Value.bool.inj h))) rfl rfl ?_
            refine wl_skip rfl rfl rfl (fun h => g3 (of_decide_eq_true (Value.bool.inj h))) rfl rfl ?_
            refine wl_skip rfl rfl rfl (fun h => g3 (of_decide_eq_true (Value.bool.inj h))) rfl rfl ?_
            refine wl_skip rfl rfl rfl (fun h => g3 (of_decide_eq_true (Value.bool.inj h))) rfl rfl ?_
            refine wl_skip rfl rfl rfl (fun h => g3 (of_decide_eq_true (Value.bool.inj h))) rfl rfl ?_
            refine wl_skip rfl rfl rfl (fun h => g3 (of_decide_eq_true (Value.bool.inj h))) rfl rfl ?_
            refine wl_ex (ex_pickf rfl (decide_eq_false g3) rfl) rfl rfl ?_
            refine wl_nil ?_
            refine pe_cut () (Sub.cons rfl rfl (Sub.cons rfl rfl (Sub.cons rfl rfl (Sub.cons rfl rfl (Sub.cons rfl rfl (Sub.cons rfl (congrArg Value.bool (by first | (simp [g3]; done) | grind)) (Sub.nil _))))))) (.nil _) trivial
        · rintro _ _
          show WC _ _ _ [(0, .slice Al l.length cl), (1, .int .i64 a), (2, .int .i64 b), (7, .int .i64 n), (8, .int .i64 i), (53, .bool (decide ((d_l_i.frm = b) ∧ (d_l_i.to = a))))] []
          refine wc_ite rfl (fun c53 => ?_) (fun c53 => ?_)
          · refine wc_region ?_
            refine wl_ex (ex_move rfl) rfl rfl ?_
            refine wl_ex (ex_move rfl) rfl rfl ?_
            refine wl_ex (ex_move rfl) rfl rfl ?_
            refine wl_ex (ex_indexAddr rfl rfl Try.underlying24 sz_47 (sl_arg hl rfl) (by omega) (by omega) (enc_pos encD_len (by omega))) rfl rfl ?_
            refine wl_ex (ex_fieldAddr (off' := oOf Al + (i).toNat * 3 + 2) rfl Try.underlying47 rfl sz_3 rfl rfl) rfl rfl ?_
            refine wl_ex (ex_load rfl ag_3 (rd_enc (j := 2) encD_len (sl_arg hl rfl) (hd_l_i (by omega) (by omega)) rfl)) rfl rfl ?_
            have hbb := hb _ (mem_at (hd_l_i (by omega) (by omega)))
            refine wl_ex (ex_sub rfl rfl (by omega) (by omega)) rfl rfl ?_
            refine wl_ex (ex_assign rfl) rfl rfl ?_
            refine wl_nil ?_
            refine pe_block _ ?_
            refine pe_seq ?_
            refine wc_region ?_
            refine wl_ex (ex_move rfl) rfl rfl ?_
            refine wl_ex (ex_add rfl rfl (by omega) (by omega)) rfl rfl ?_
            refine wl_ex (ex_assign rfl) rfl rfl ?_
            refine wl_nil ?_
            refine pe_again ⟨i + 1, n - d_l_i.amt⟩ (Sub.cons rfl rfl (Sub.cons rfl rfl (Sub.cons rfl rfl (Sub.cons rfl rfl (Sub.cons rfl rfl (Sub.nil _)))))) (.nil _) ?_ ?_
            · show 0 ≤ (i + 1) ∧ (i + 1) ≤ (l.length : Int) ∧ (n - d_l_i.amt) = owesI a b (l.take (i + 1).toNat)
              have hd := owes_take a b (hd_l_i (by omega) (by omega))
              have hi : (i + 1).toNat = i.toNat + 1 := by omega
              have hbb := hb _ (mem_at (hd_l_i (by omega) (by omega)))
              refine ⟨by omega, by omega, ?_⟩
              rw [hi, hd, ← h3]
              simp [owes1, *]
              try omega
            · first | omega | (simp only []; omega)
          · refine wc_skip ?_
            refine pe_block _ ?_
            refine pe_seq ?_
            refine wc_region ?_
            refine wl_ex (ex_move rfl) rfl rfl ?_
            refine wl_ex (ex_add rfl rfl (by omega) (by omega)) rfl rfl ?_
            refine wl_ex (ex_assign rfl) rfl rfl ?_
            refine wl_nil ?_
            refine pe_again ⟨i + 1, n⟩ (Sub.cons rfl rfl (Sub.cons rfl rfl (Sub.cons rfl rfl (Sub.cons rfl rfl (Sub.cons rfl rfl (Sub.nil _)))))) (.nil _) ?_ ?_
            · show 0 ≤ (i + 1) ∧ (i + 1) ≤ (l.length : Int) ∧ n = owesI a b (l.take (i + 1).toNat)
              have hd := owes_take a b (hd_l_i (by omega) (by omega))
              have hi : (i + 1).toNat = i.toNat + 1 := by omega
              have hbb := hb _ (mem_at (hd_l_i (by omega) (by omega)))
              refine ⟨by omega, by omega, ?_⟩
              rw [hi, hd, ← h3]
              simp [owes1, *]
              try omega
            · first | omega | (simp only []; omega)
  · refine wc_exit ?_
    refine pe_seq_exit ?_
    refine pe_loop_exit ?_
    refine pe_block_exit ?_
    refine pe_seq ?_
    refine wc_seq ?_
    refine wc_region ?_
    refine wl_ex (ex_move rfl) rfl rfl ?_
    refine wl_ex (ex_assign rfl) rfl rfl ?_
    refine wl_nil ?_
    refine pe_seq ?_
    refine wc_ret ?_
    refine pe_ret1 rfl rfl rfl (fun w' hm => ⟨?_, hm.ent (.nil _)⟩)
    rw [h3, List.take_of_length_le (by omega)]

theorem c_debts (Al : Option Addr) (cl : Nat) (l : List Debt) (lim : Int) (w : World) (hl : Sl w Al (encs encD l)) (hlen : l.length ≤ 1000) :
    Cl Try.prog 46 [.slice Al l.length cl, .int .i64 lim] w (IsV (.bool (decide (DebtsOK lim l))) w) := by
  refine cl_of Try.func46 rfl Try.ntmps46 rfl (Mem.refl w) ?_
  refine wc_seq ?_
  refine wc_region ?_
  refine wl_ex (ex_assign rfl) rfl rfl ?_
  refine wl_nil ?_
  refine pe_seq ?_
  refine wc_seq ?_
  refine wc_seq ?_
  refine wc_region ?_
  refine wl_ex (ex_assign rfl) rfl rfl ?_
  refine wl_nil ?_
  refine pe_seq ?_
  refine wc_block ?_
  refine wc_loop (σ := Int) (fun s => [(5, .int .i64 s), (0, .slice Al l.length cl), (1, .int .i64 lim)]) (fun s => []) (fun s => 0 ≤ s ∧ s ≤ (l.length : Int) ∧ ∀ d ∈ l.take s.toNat, okD lim d) (fun s => ((l.length : Int) - s).toNat) _ (Sub.cons rfl rfl (Sub.cons rfl rfl (Sub.cons rfl rfl (Sub.nil _)))) (.nil _) (by simp) ?_
  rintro i hG
  show WC _ _ _ [(5, .int .i64 i), (0, .slice Al l.length cl), (1, .int .i64 lim)] []
  replace hG : 0 ≤ i ∧ i ≤ (l.length : Int) ∧ ∀ d ∈ l.take i.toNat, okD lim d := hG
  obtain ⟨h1, h2, h3⟩ := hG
  refine wc_seq ?_
  refine wc_seq ?_
  refine wc_region ?_
  refine wl_ex (ex_move rfl) rfl rfl ?_
  refine wl_ex (ex_move rfl) rfl rfl ?_
  refine wl_ex (ex_len Try.underlying24 rfl) rfl rfl ?_
  refine wl_ex (ex_lss rfl rfl) rfl rfl ?_
  refine wl_nil ?_
  refine pe_seq ?_
  refine wc_ite rfl (fun c10 => ?_) (fun c10 => ?_)
  · refine wc_skip ?_
    refine pe_seq ?_
    refine wc_seq ?_
    refine wc_block ?_
    refine wc_seq ?_
    refine wc_region ?_
    refine wl_ex (ex_move rfl) rfl rfl ?_
    refine wl_ex (ex_move rfl) rfl rfl ?_
    refine wl_ex (ex_indexAddr rfl rfl Try.underlying24 sz_47 (sl_arg hl rfl) (by omega) (by omega) (enc_pos encD_len (by omega))) rfl rfl ?_
    obtain ⟨d_l_i, hd_l_i⟩ := get_if l i
    refine wl_ex (ex_loadS rfl ag_47 sz_47 (encD_len _) (rd_encs encD_len (sl_arg hl rfl) (hd_l_i (by omega) (by omega)))) rfl rfl ?_
    refine wl_alloc ze_47 rfl rfl fun r1 => ?_
    refine wl_storeS (vs := [.int .i64 d_l_i.frm, .int .i64 d_l_i.to, .int .i64 d_l_i.amt]) rfl rfl (by simp [Value.oneCell']) sz_47 rfl (.head _ _) (by simp) ?_
    rw [show ovr [.int .i64 0, .int .i64 0, .int .i64 0] 0 [.int .i64 d_l_i.frm, .int .i64 d_l_i.to, .int .i64 d_l_i.amt] = [.int .i64 d_l_i.frm, .int .i64 d_l_i.to, .int .i64 d_l_i.amt] from rfl]
    refine wl_nil ?_
    refine pe_seq ?_
    refine wc_cut (σ := Unit) (fun _ => [(0, .slice Al l.length cl), (1, .int .i64 lim), (5, .int .i64 i), (40, .bool (decide ((((¬ (0 ≤ d_l_i.frm ∧ d_l_i.frm ≤ 7)) ∨ (¬ (0 ≤ d_l_i.to ∧ d_l_i.to ≤ 7))) ∨ (d_l_i.frm = d_l_i.to)) ∨ (¬ (1 ≤ d_l_i.amt ∧ d_l_i.amt ≤ lim)))))]) (fun _ => [.row r1 47 [.int .i64 d_l_i.frm, .int .i64 d_l_i.to, .int .i64 d_l_i.amt]]) (fun _ => True) ?_ ?_
    · refine wc_region ?_
      refine wl_ex (ex_fieldAddr (off' := 0) rfl Try.underlying47 rfl sz_3 rfl rfl) rfl rfl ?_
      refine wl_ex (ex_load rfl ag_3 (rd_row1 (.head _ _) rfl)) rfl rfl ?_
      refine wl_callV [.tmp 18, .const (.int .i64 0), .const (.int .i64 7)] rfl ok_61 rfl (fun w hm => c_in d_l_i.frm 0 7 w   ) rfl ?_
      refine wl_ex (ex_not rfl) rfl rfl ?_
      refine wl_ex (ex_move rfl) rfl rfl ?_
      by_cases g2 : ¬ (0 ≤ d_l_i.frm ∧ d_l_i.frm ≤ 7)
      · refine wl_skip rfl rfl rfl (fun h => of_decide_eq_false (Value.bool.inj h) g2) rfl rfl ?_
        refine wl_skip rfl rfl rfl (fun h => of_decide_eq_false (Value.bool.inj h) g2) rfl rfl ?_
        refine wl_skip rfl rfl rfl (fun h => of_decide_eq_false (Value.bool.inj h) g2) rfl rfl ?_
        refine wl_skip rfl rfl rfl (fun h => of_decide_eq_false (Value.bool.inj h) g2) rfl rfl ?_
        refine wl_ex (ex_pickt rfl (decide_eq_true g2) rfl) rfl rfl ?_
        refine wl_ex (ex_move rfl) rfl rfl ?_
        refine wl_skip rfl rfl rfl (by simp) rfl rfl ?_
        refine wl_skip rfl rfl rfl (by simp) rfl rfl ?_
        refine wl_skip rfl rfl rfl (by simp) rfl rfl ?_
        refine wl_skip rfl rfl rfl (by simp) rfl rfl ?_
        refine wl_skip rfl rfl rfl (by simp) rfl rfl ?_
        refine wl_ex (ex_pickt rfl rfl rfl) rfl rfl ?_
        refine wl_ex (ex_move rfl) rfl rfl ?_
        refine wl_skip rfl rfl rfl (by simp) rfl rfl ?_
        refine wl_skip rfl rfl rfl (by simp) rfl rfl ?_
        refine wl_skip rfl rfl rfl (by simp) rfl rfl ?_
        refine wl_skip rfl rfl rfl (by simp) rfl rfl ?_
        refine wl_skip rfl rfl rfl (by simp) rfl rfl ?_
        refine wl_ex (ex_pickt rfl rfl rfl) rfl rfl ?_
        refine wl_nil ?_
        refine pe_cut () (Sub.cons rfl rfl (Sub.cons rfl rfl (Sub.cons rfl rfl (Sub.cons rfl (congrArg Value.bool (by first | (simp [g2]; done) | grind)) (Sub.nil _))))) (.cons (.head _ _) rfl (.nil _)) trivial
      · refine wl_pass rfl rfl rfl (decide_eq_false g2) ?_
        refine wl_ex (ex_fieldAddr (off' := 1) rfl Try.underlying47 rfl sz_3 rfl rfl) rfl rfl ?_
        refine wl_pass rfl rfl rfl (decide_eq_false g2) ?_
        refine wl_ex (ex_load rfl ag_3 (rd_row1 (.head _ _) rfl)) rfl rfl ?_
        refine wl_pass rfl rfl rfl (decide_eq_false g2) ?_
        refine wl_callV [.tmp 23, .const (.int .i64 0), .const (.int .i64 7)] rfl ok_61 rfl (fun w hm => c_in d_l_i.to 0 7 w   ) rfl ?_
        refine wl_pass rfl rfl rfl (decide_eq_false g2) ?_
        refine wl_ex (ex_not rfl) rfl rfl ?_
        refine wl_ex (ex_pickf rfl (decide_eq_false g2) rfl) rfl rfl ?_
        refine wl_ex (ex_move rfl) rfl rfl ?_
        by_cases g3 : ¬ (0 ≤ d_l_i.to ∧ d_l_i.to ≤ 7)
        · refine wl_skip rfl rfl rfl (fun h => of_decide_eq_false (Value.bool.inj h) g3) rfl rfl ?_
          refine wl_skip rfl rfl rfl (fun h => of_decide_eq_false (Value.bool.inj h) g3) rfl rfl ?_
          refine wl_skip rfl rfl rfl (fun h => of_decide_eq_false (Value.bool.inj h) g3) rfl rfl ?_
          refine wl_skip rfl rfl rfl (fun h => of_decide_eq_false (Value.bool.inj h) g3) rfl rfl ?_
          refine wl_skip rfl rfl rfl (fun h => of_decide_eq_false (Value.bool.inj h) g3) rfl rfl ?_
          refine wl_ex (ex_pickt rfl (decide_eq_true g3) rfl) rfl rfl ?_
          refine wl_ex (ex_move rfl) rfl rfl ?_
          refine wl_skip rfl rfl rfl (by simp) rfl rfl ?_
          refine wl_skip rfl rfl rfl (by simp) rfl rfl ?_
          refine wl_skip rfl rfl rfl (by simp) rfl rfl ?_
          refine wl_skip rfl rfl rfl (by simp) rfl rfl ?_
          refine wl_skip rfl rfl rfl (by simp) rfl rfl ?_
          refine wl_ex (ex_pickt rfl rfl rfl) rfl rfl ?_
          refine wl_nil ?_
          refine pe_cut () (Sub.cons rfl rfl (Sub.cons rfl rfl (Sub.cons rfl rfl (Sub.cons rfl (congrArg Value.bool (by first | (simp [g2, g3]; done) | grind)) (Sub.nil _))))) (.cons (.head _ _) rfl (.nil _)) trivial
        · refine wl_pass rfl rfl rfl (decide_eq_false g3) ?_
          refine wl_ex (ex_fieldAddr (off' := 0) rfl Try.underlying47 rfl sz_3 rfl rfl) rfl rfl ?_
          refine wl_pass rfl rfl rfl (decide_eq_false g3) ?_
          refine wl_ex (ex_load rfl ag_3 (rd_row1 (.head _ _) rfl)) rfl rfl ?_
          refine wl_pass rfl rfl rfl (decide_eq_false g3) ?_
          refine wl_ex (ex_fieldAddr (off' := 1) rfl Try.underlying47 rfl sz_3 rfl rfl) rfl rfl ?_
          refine wl_pass rfl rfl rfl (decide_eq_false g3) ?_
          refine wl_ex (ex_load rfl ag_3 (rd_row1 (.head _ _) rfl)) rfl rfl ?_
          refine wl_pass rfl rfl rfl (decide_eq_false g3) ?_
          refine wl_ex (ex_eql rfl rfl) rfl rfl ?_
          refine wl_ex (ex_pickf rfl (decide_eq_false g3) rfl) rfl rfl ?_
          refine wl_ex (ex_move rfl) rfl rfl ?_
          by_cases g4 : d_l_i.frm = d_l_i.to
          · refine wl_skip rfl rfl rfl (fun h => of_decide_eq_false (Value.bool.inj h) g4) rfl rfl ?_
            refine wl_skip rfl rfl rfl (fun h => of_decide_eq_false (Value.bool.inj h) g4) rfl rfl ?_
            refine wl_skip rfl rfl rfl (fun h => of_decide_eq_false (Value.bool.inj h) g4) rfl rfl ?_
            refine wl_skip rfl rfl rfl (fun h => of_decide_eq_false (Value.bool.inj h) g4) rfl rfl ?_
            refine wl_skip rfl rfl rfl (fun h => of_decide_eq_false (Value.bool.inj h) g4) rfl rfl ?_
            refine wl_ex (ex_pickt rfl (decide_eq_true g4) rfl) rfl rfl ?_
            refine wl_nil ?_
            refine pe_cut () (Sub.cons rfl rfl (Sub.cons rfl rfl (Sub.cons rfl rfl (Sub.cons rfl (congrArg Value.bool (by first | (simp [g2, g3, g4]; done) | grind)) (Sub.nil _))))) (.cons (.head _ _) rfl (.nil _)) trivial
          · refine wl_pass rfl rfl rfl (decide_eq_false g4) ?_
            refine wl_ex (ex_fieldAddr (off' := 2) rfl Try.underlying47 rfl sz_3 rfl rfl) rfl rfl ?_
            refine wl_pass rfl rfl rfl (decide_eq_false g4) ?_
            refine wl_ex (ex_load rfl ag_3 (rd_row1 (.head _ _) rfl)) rfl rfl ?_
            refine wl_pass rfl rfl rfl (decide_eq_false g4) ?_
            refine wl_ex (ex_move rfl) rfl rfl ?_
            refine wl_pass rfl rfl rfl (decide_eq_false g4) ?_
            refine wl_callV [.tmp 36, .const (.int .i64 1), .tmp 37] rfl ok_61 rfl (fun w hm => c_in d_l_i.amt 1 lim w   ) rfl ?_
            refine wl_pass rfl rfl rfl (decide_eq_false g4) ?_
            refine wl_ex (ex_not rfl) rfl rfl ?_
            refine wl_ex (ex_pickf rfl (decide_eq_false g4) rfl) rfl rfl ?_
            refine wl_nil ?_
            refine pe_cut () (Sub.cons rfl rfl (Sub.cons rfl rfl (Sub.cons rfl rfl (Sub.cons rfl (congrArg Value.bool (by first | (simp [g2, g3, g4]; done) | grind)) (Sub.nil _))))) (.cons (.head _ _) rfl (.nil _)) trivial
    · rintro _ _
      show WC _ _ _ [(0, .slice Al l.length cl), (1, .int .i64 lim), (5, .int .i64 i), (40, .bool (decide ((((¬ (0 ≤ d_l_i.frm ∧ d_l_i.frm ≤ 7)) ∨ (¬ (0 ≤ d_l_i.to ∧ d_l_i.to ≤ 7))) ∨ (d_l_i.frm = d_l_i.to)) ∨ (¬ (1 ≤ d_l_i.amt ∧ d_l_i.amt ≤ lim)))))] [.row r1 47 [.int .i64 d_l_i.frm, .int .i64 d_l_i.to, .int .i64 d_l_i.amt]]
      refine wc_ite rfl (fun c40 => ?_) (fun c40 => ?_)
      · refine wc_seq ?_
        refine wc_region ?_
        refine wl_ex (ex_assign rfl) rfl rfl ?_
        refine wl_nil ?_
        refine pe_seq ?_
        refine wc_ret ?_
        refine pe_block_ret _ ?_
        refine pe_seq_ret ?_
        refine pe_loop_ret ?_
        refine pe_block_ret _ ?_
        refine pe_seq_ret ?_
        refine pe_ret1 rfl rfl rfl (fun w' hm => ⟨?_, hm.ent (.nil _)⟩)
        refine congrArg Value.bool (Eq.symm (decide_eq_false ?_))
        intro hh
        have hd := hh.1 _ (mem_at (hd_l_i (by omega) (by omega)))
        unfold okD at hd
        rcases c40 with ((c | c) | c) | c
        · exact c hd.1
        · exact c hd.2.1
        · exact hd.2.2.1 c
        · exact c hd.2.2.2
      · refine wc_skip ?_
        refine pe_block _ ?_
        refine pe_seq ?_
        refine wc_region ?_
        refine wl_ex (ex_move rfl) rfl rfl ?_
        refine wl_ex (ex_add rfl rfl (by omega) (by omega)) rfl rfl ?_
        refine wl_ex (ex_assign rfl) rfl rfl ?_
        refine wl_nil ?_
        refine pe_again (i + 1) (Sub.cons rfl rfl (Sub.cons rfl rfl (Sub.cons rfl rfl (Sub.nil _)))) (.nil _) ?_ ?_
        · show 0 ≤ (i + 1) ∧ (i + 1) ≤ (l.length : Int) ∧ ∀ d ∈ l.take (i + 1).toNat, okD lim d
          have hi : (i + 1).toNat = i.toNat + 1 := by omega
          refine ⟨by omega, by omega, ?_⟩
          rw [hi]
          refine all_take (hd_l_i (by omega) (by omega)) h3 ?_
          unfold okD
          simp only [not_or, Decidable.not_not] at c40
          obtain ⟨⟨⟨c1, c2⟩, c3⟩, c4⟩ := c40
          exact ⟨c1, c2, c3, c4⟩
        · first | omega | (simp only []; omega)
  · refine wc_exit ?_
    refine pe_seq_exit ?_
    refine pe_loop_exit ?_
    refine pe_block_exit ?_
    refine pe_seq ?_
    refine wc_seq ?_
    refine wc_region ?_
    refine wl_ex (ex_move rfl) rfl rfl ?_
    refine wl_ex (ex_len Try.underlying24 rfl) rfl rfl ?_
    refine wl_ex (ex_leq rfl rfl) rfl rfl ?_
    refine wl_ex (ex_assign rfl) rfl rfl ?_
    refine wl_nil ?_
    refine pe_seq ?_
    refine wc_ret ?_
    refine pe_ret1 rfl rfl rfl (fun w' hm => ⟨?_, hm.ent (.nil _)⟩)
    refine congrArg Value.bool (decide_eq_decide.2 ?_)
    rw [List.take_of_length_le (by omega)] at h3
    exact ⟨fun h => ⟨h3, by omega⟩, fun h => by have := h.2; omega⟩

theorem c_ValidR (Al : Option Addr) (cl : Nat) (l : List Debt) (w : World) (hl : Sl w Al (encs encD l)) (hlen : l.length ≤ 1000) :
    Cl Try.prog 23 [.slice Al l.length cl] w (IsV (.bool (decide (DebtsOK 1000000000 l))) w) := by
  refine cl_of Try.func23 rfl Try.ntmps23 rfl (Mem.refl w) ?_
  refine wc_seq ?_
  refine wc_region ?_
  refine wl_ex (ex_assign rfl) rfl rfl ?_
  refine wl_nil ?_
  refine pe_seq ?_
  refine wc_seq ?_
  refine wc_region ?_
  refine wl_ex (ex_move rfl) rfl rfl ?_
  refine wl_callV [.tmp 3, .const (.int .i64 1000000000)] rfl ok_46 rfl (fun w hm => c_debts Al cl l 1000000000 w (((sl_arg hl rfl)).at hm)  (by assumption)) rfl ?_
  refine wl_ex (ex_assign rfl) rfl rfl ?_
  refine wl_nil ?_
  refine pe_seq ?_
  refine wc_ret ?_
  refine pe_ret1 rfl rfl rfl (fun w' hm => ⟨?_, hm.ent (.nil _)⟩)
  first | rfl | (congr 1; omega)

theorem c_has (Al : Option Addr) (cl : Nat) (l : List Int) (n : Int) (w : World) (hl : Sl w Al (encs encI l)) (hlen : l.length ≤ 1000) :
    Cl Try.prog 64 [.slice Al l.length cl, .int .i64 n] w (IsV (.bool (decide (n ∈ l))) w) := by
  refine cl_of Try.func64 rfl Try.ntmps64 rfl (Mem.refl w) ?_
  refine wc_seq ?_
  refine wc_region ?_
  refine wl_ex (ex_assign rfl) rfl rfl ?_
  refine wl_nil ?_
  refine pe_seq ?_
  refine wc_seq ?_
  refine wc_seq ?_
  refine wc_region ?_
  refine wl_ex (ex_assign rfl) rfl rfl ?_
  refine wl_nil ?_
  refine pe_seq ?_
  refine wc_block ?_
  refine wc_loop (σ := Int) (fun s => [(5, .int .i64 s), (0, .slice Al l.length cl), (1, .int .i64 n)]) (fun s => []) (fun s => 0 ≤ s ∧ s ≤ (l.length : Int) ∧ ∀ x ∈ l.take s.toNat, x ≠ n) (fun s => ((l.length : Int) - s).toNat) _ (Sub.cons rfl rfl (Sub.cons rfl rfl (Sub.cons rfl rfl (Sub.nil _)))) (.nil _) (by simp) ?_
  rintro i hG
  show WC _ _ _ [(5, .int .i64 i), (0, .slice Al l.length cl), (1, .int .i64 n)] []
  replace hG : 0 ≤ i ∧ i ≤ (l.length : Int) ∧ ∀ x ∈ l.take i.toNat, x ≠ n := hG
  obtain ⟨h1, h2, h3⟩ := hG
  refine wc_seq ?_
  refine wc_seq ?_
  refine wc_region ?_
  refine wl_ex (ex_move rfl) rfl rfl ?_
  refine wl_ex (ex_move rfl) rfl rfl ?_
  refine wl_ex (ex_len Try.underlying25 rfl) rfl rfl ?_
  refine wl_ex (ex_lss rfl rfl) rfl rfl ?_
  refine wl_nil ?_
  refine pe_seq ?_
  refine wc_ite rfl (fun c9 => ?_) (fun c9 => ?_)
  · refine wc_skip ?_
    refine pe_seq ?_
    refine wc_seq ?_
    refine wc_block ?_
    refine wc_seq ?_
    refine wc_region ?_
    refine wl_ex (ex_move rfl) rfl rfl ?_
    refine wl_ex (ex_move rfl) rfl rfl ?_
    refine wl_ex (ex_indexAddr rfl rfl Try.underlying25 sz_3 (sl_arg hl rfl) (by omega) (by omega) (enc_pos encI_len (by omega))) rfl rfl ?_
    obtain ⟨d_l_i, hd_l_i⟩ := get_if l i
    refine wl_ex (ex_load rfl ag_3 (rd_int (sl_arg hl rfl) (hd_l_i (by omega) (by omega)))) rfl rfl ?_
    refine wl_ex (ex_move rfl) rfl rfl ?_
    refine wl_ex (ex_eql rfl rfl) rfl rfl ?_
    refine wl_nil ?_
    refine pe_seq ?_
    refine wc_ite rfl (fun c17 => ?_) (fun c17 => ?_)
    · refine wc_seq ?_
      refine wc_region ?_
      refine wl_ex (ex_assign rfl) rfl rfl ?_
      refine wl_nil ?_
      refine pe_seq ?_
      refine wc_ret ?_
      refine pe_block_ret _ ?_
      refine pe_seq_ret ?_
      refine pe_loop_ret ?_
      refine pe_block_ret _ ?_
      refine pe_seq_ret ?_
      refine pe_ret1 rfl rfl rfl (fun w' hm => ⟨?_, hm.ent (.nil _)⟩)
      subst c17
      exact congrArg Value.bool (Eq.symm (decide_eq_true (mem_at (hd_l_i (by omega) (by omega)))))
    · refine wc_skip ?_
      refine pe_block _ ?_
      refine pe_seq ?_
      refine wc_region ?_
      refine wl_ex (ex_move rfl) rfl rfl ?_
      refine wl_ex (ex_add rfl rfl (by omega) (by omega)) rfl rfl ?_
      refine wl_ex (ex_assign rfl) rfl rfl ?_
      refine wl_nil ?_
      refine pe_again (i + 1) (Sub.cons rfl rfl (Sub.cons rfl rfl (Sub.cons rfl rfl (Sub.nil _)))) (.nil _) ?_ ?_
      · show 0 ≤ (i + 1) ∧ (i + 1) ≤ (l.length : Int) ∧ ∀ x ∈ l.take (i + 1).toNat, x ≠ n
        have hi : (i + 1).toNat = i.toNat + 1 := by omega
        refine ⟨by omega, by omega, ?_⟩
        rw [hi]
        exact all_take (hd_l_i (by omega) (by omega)) h3 c17
      · first | omega | (simp only []; omega)
  · refine wc_exit ?_
    refine pe_seq_exit ?_
    refine pe_loop_exit ?_
    refine pe_block_exit ?_
    refine pe_seq ?_
    refine wc_seq ?_
    refine wc_region ?_
    refine wl_ex (ex_assign rfl) rfl rfl ?_
    refine wl_nil ?_
    refine pe_seq ?_
    refine wc_ret ?_
    refine pe_ret1 rfl rfl rfl (fun w' hm => ⟨?_, hm.ent (.nil _)⟩)
    refine congrArg Value.bool (Eq.symm (decide_eq_false ?_))
    rw [List.take_of_length_le (by omega)] at h3
    exact fun h => h3 n h rfl

end Go.Proofs.Ytolfgdkdghhidaa
