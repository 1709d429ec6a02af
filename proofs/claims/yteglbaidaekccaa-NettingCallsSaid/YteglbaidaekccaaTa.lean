/- Walks. -/
import Derived.Test.YteglbaidaekccaaWr
import Derived.Test.Yteglbaidaekccaaplain37
import Derived.Test.YteglbaidaekccaaE13
import Derived.Test.YteglbaidaekccaaE14
import Derived.Test.YteglbaidaekccaaE15
import Derived.Test.YteglbaidaekccaaSh37
set_option linter.unusedVariables false
set_option linter.unusedSimpArgs false
set_option maxRecDepth 10000
namespace Go.Proofs.Yteglbaidaekccaa
open Go Go.RowKit
def encR (d : Rate) : List Value := [.int .i64 d.days, .int .i64 d.frm, .int .i64 d.to, .int .i64 d.price]
theorem encR_len (d : Rate) : (encR d).length = 4 := rfl
theorem encR_one1 (d : Rate) : ∀ v ∈ encR d, v.oneCell' = true := by simp [encR, Value.oneCell']
theorem encR_one (l : List Rate) : ∀ v ∈ encs encR l, v.oneCell' = true := by
  intro v hv
  simp only [encs, List.mem_flatMap] at hv
  obtain ⟨d, _, hd⟩ := hv
  exact encR_one1 d v hd
theorem hit_and {d k : Int} : andI (shrI d k) 1 = 1 ↔ bitD d k := by
  unfold andI shrI bitD
  simp only [Int.toNat_natCast]
  rw [show (1 : Int).toNat = 1 from rfl, Nat.and_one_is_mod]
  omega
theorem shr_bd {d k : Int} (h : 0 ≤ d) : 0 ≤ shrI d k ∧ shrI d k ≤ d := by
  unfold shrI
  have := Nat.div_le_self d.toNat (2 ^ k.toNat)
  generalize d.toNat / 2 ^ k.toNat = q at *
  omega
def bdR (d : Rate) : Prop := d.frm ≤ 1000000000
theorem ok_bdR {d : Rate} (h : okR d) : bdR d := by unfold okR at h; unfold bdR; omega
theorem ag_24 : isAggT Try.prog 24 = some false := by kernel_rfl
theorem ag_26 : isAggT Try.prog 26 = some true := by kernel_rfl
theorem ag_33 : isAggT Try.prog 33 = some true := by kernel_rfl
theorem ag_56 : isAggT Try.prog 56 = some true := by kernel_rfl
theorem sz_24 : szT Try.prog 24 = some 1 := by kernel_rfl
theorem sz_26 : szT Try.prog 26 = some 2 := by kernel_rfl
theorem sz_33 : szT Try.prog 33 = some 2 := by kernel_rfl
theorem sz_56 : szT Try.prog 56 = some 4 := by kernel_rfl
theorem ok_35 : callOK Try.prog 35 = true := by kernel_rfl
theorem ok_36 : callOK Try.prog 36 = true := by kernel_rfl
theorem ok_37 : callOK Try.prog 37 = true := by kernel_rfl
theorem ok_46 : callOK Try.prog 46 = true := by kernel_rfl
theorem ok_47 : callOK Try.prog 47 = true := by kernel_rfl
theorem ok_48 : callOK Try.prog 48 = true := by kernel_rfl
theorem ok_57 : callOK Try.prog 57 = true := by kernel_rfl

theorem c_isInT (n lo hi : Int) (w : World)  :
    Cl Try.prog 47 [.int .i64 n, .int .i64 lo, .int .i64 hi] w (IsV (.bool (decide (lo ≤ n ∧ n ≤ hi))) w) := by
  refine cl_of Try.func47 rfl Try.ntmps47 rfl (Mem.refl w) ?_
  refine wc_seq ?_
  refine wc_region ?_
  refine wl_ex (ex_assign rfl) rfl rfl ?_
  refine wl_nil ?_
  refine pe_seq ?_
  refine wc_cut (σ := Unit) (fun _ => [(6, .bool (decide ((lo ≤ n) ∧ (n ≤ hi))))]) (fun _ => []) (fun _ => True) ?_ ?_
  · refine wc_region ?_
    refine wl_ex (ex_move rfl) rfl rfl ?_
    refine wl_ex (ex_move rfl) rfl rfl ?_
    refine wl_ex (ex_leq rfl rfl) rfl rfl ?_
    refine wl_ex (ex_move rfl) rfl rfl ?_
    by_cases g1 : lo ≤ n
    · refine wl_pass rfl rfl rfl (decide_eq_true g1) ?_
      refine wl_ex (ex_move rfl) rfl rfl ?_
      refine wl_pass rfl rfl rfl (decide_eq_true g1) ?_
      refine wl_ex (ex_move rfl) rfl rfl ?_
      refine wl_pass rfl rfl rfl (decide_eq_true g1) ?_
      refine wl_ex (ex_leq rfl rfl) rfl rfl ?_
      refine wl_ex (ex_pickt rfl (decide_eq_true g1) rfl) rfl rfl ?_
      refine wl_ex (ex_assign rfl) rfl rfl ?_
      refine wl_nil ?_
      refine pe_cut () (Sub.cons rfl (congrArg Value.bool (by first | (simp [g1]; done) | grind)) (Sub.nil _)) (.nil _) trivial
    · refine wl_skip rfl rfl rfl (fun h => g1 (of_decide_eq_true (Value.bool.inj h))) rfl rfl ?_
      refine wl_skip rfl rfl rfl (fun h => g1 (of_decide_eq_true (Value.bool.inj h))) rfl rfl ?_
      refine wl_skip rfl rfl rfl (fun h => g1 (of_decide_eq_true (Value.bool.inj h))) rfl rfl ?_
      refine wl_ex (ex_pickf rfl (decide_eq_false g1) rfl) rfl rfl ?_
      refine wl_ex (ex_assign rfl) rfl rfl ?_
      refine wl_nil ?_
      refine pe_cut () (Sub.cons rfl (congrArg Value.bool (by first | (simp [g1]; done) | grind)) (Sub.nil _)) (.nil _) trivial
  · rintro _ _
    show WC _ _ _ [(6, .bool (decide ((lo ≤ n) ∧ (n ≤ hi))))] []
    refine wc_ret ?_
    refine pe_ret1 rfl rfl rfl (fun w' hm => ⟨?_, hm.ent (.nil _)⟩)
    first | rfl | (congr 1; omega)

theorem c_ValidT1 (d : Rate) (w : World) (hb : bdR d) :
    Cl Try.prog 46 [.agg (encR d).toArray] w (IsV (.bool (decide (¬ okR d))) w) := by
  refine cl_of Try.func46 rfl Try.ntmps46 rfl (Mem.refl w) ?_
  unfold bdR at hb
  refine wc_seq ?_
  refine wc_region ?_
  refine wl_box rfl rfl rfl fun r1 => ?_
  refine wl_ex (ex_assign rfl) rfl rfl ?_
  refine wl_nil ?_
  refine pe_seq ?_
  refine wc_seq ?_
  refine wc_region ?_
  refine wl_ex (ex_fieldAddr (off' := 0) rfl Try.underlying56 rfl sz_3 rfl rfl) rfl rfl ?_
  refine wl_ex (ex_load rfl ag_3 (rd_row1 (.head _ _) rfl)) rfl rfl ?_
  refine wl_callV [.tmp 4, .const (.int .i64 1), .const (.int .i64 127)] rfl ok_47 rfl (fun w hm => c_isInT d.days 1 127 w   ) rfl ?_
  refine wl_ex (ex_not rfl) rfl rfl ?_
  refine wl_ex (ex_move rfl) rfl rfl ?_
  by_cases g2 : ¬ (1 ≤ d.days ∧ d.days ≤ 127)
  · refine wl_skip rfl rfl rfl (fun h => of_decide_eq_false (Value.bool.inj h) g2) rfl rfl ?_
    refine wl_skip rfl rfl rfl (fun h => of_decide_eq_false (Value.bool.inj h) g2) rfl rfl ?_
    refine wl_skip rfl rfl rfl (fun h => of_decide_eq_false (Value.bool.inj h) g2) rfl rfl ?_
    refine wl_ex (ex_pickt rfl (decide_eq_true g2) rfl) rfl rfl ?_
    refine wl_ex (ex_move rfl) rfl rfl ?_
    refine wl_skip rfl rfl rfl (by simp) rfl rfl ?_
    refine wl_skip rfl rfl rfl (by simp) rfl rfl ?_
    refine wl_skip rfl rfl rfl (by simp) rfl rfl ?_
    refine wl_skip rfl rfl rfl (by simp) rfl rfl ?_
    refine wl_skip rfl rfl rfl (by simp) rfl rfl ?_
    refine wl_skip rfl rfl rfl (by simp) rfl rfl ?_
    refine wl_skip rfl rfl rfl (by simp) rfl rfl ?_
    refine wl_ex (ex_pickt rfl rfl rfl) rfl rfl ?_
    refine wl_ex (ex_move rfl) rfl rfl ?_
    refine wl_skip rfl rfl rfl (by simp) rfl rfl ?_
    refine wl_skip rfl rfl rfl (by simp) rfl rfl ?_
    refine wl_skip rfl rfl rfl (by simp) rfl rfl ?_
    refine wl_ex (ex_pickt rfl rfl rfl) rfl rfl ?_
    refine wl_ex (ex_move rfl) rfl rfl ?_
    refine wl_skip rfl rfl rfl (by simp) rfl rfl ?_
    refine wl_skip rfl rfl rfl (by simp) rfl rfl ?_
    refine wl_skip rfl rfl rfl (by simp) rfl rfl ?_
    refine wl_skip rfl rfl rfl (by simp) rfl rfl ?_
    refine wl_ex (ex_pickt rfl rfl rfl) rfl rfl ?_
    refine wl_ex (ex_assign rfl) rfl rfl ?_
    refine wl_nil ?_
    refine pe_seq ?_
    refine wc_ret ?_
    refine pe_ret1 rfl rfl rfl (fun w' hm => ⟨?_, hm.ent (.nil _)⟩)
    first | exact congrArg Value.bool (decide_eq_true (by unfold okR; omega)).symm | exact congrArg Value.bool (decide_eq_false (by unfold okR; omega)).symm | exact congrArg Value.bool (decide_eq_decide.2 (by unfold okR; omega))
  · refine wl_pass rfl rfl rfl (decide_eq_false g2) ?_
    refine wl_ex (ex_fieldAddr (off' := 1) rfl Try.underlying56 rfl sz_3 rfl rfl) rfl rfl ?_
    refine wl_pass rfl rfl rfl (decide_eq_false g2) ?_
    refine wl_ex (ex_load rfl ag_3 (rd_row1 (.head _ _) rfl)) rfl rfl ?_
    refine wl_pass rfl rfl rfl (decide_eq_false g2) ?_
    refine wl_ex (ex_lss rfl rfl) rfl rfl ?_
    refine wl_ex (ex_pickf rfl (decide_eq_false g2) rfl) rfl rfl ?_
    refine wl_ex (ex_move rfl) rfl rfl ?_
    by_cases g3 : d.frm < 0
    · refine wl_skip rfl rfl rfl (fun h => of_decide_eq_false (Value.bool.inj h) g3) rfl rfl ?_
      refine wl_skip rfl rfl rfl (fun h => of_decide_eq_false (Value.bool.inj h) g3) rfl rfl ?_
      refine wl_skip rfl rfl rfl (fun h => of_decide_eq_false (Value.bool.inj h) g3) rfl rfl ?_
      refine wl_skip rfl rfl rfl (fun h => of_decide_eq_false (Value.bool.inj h) g3) rfl rfl ?_
      refine wl_skip rfl rfl rfl (fun h => of_decide_eq_false (Value.bool.inj h) g3) rfl rfl ?_
      refine wl_skip rfl rfl rfl (fun h => of_decide_eq_false (Value.bool.inj h) g3) rfl rfl ?_
      refine wl_skip rfl rfl rfl (fun h => of_decide_eq_false (Value.bool.inj h) g3) rfl rfl ?_
      refine wl_ex (ex_pickt rfl (decide_eq_true g3) rfl) rfl rfl ?_
      refine wl_ex (ex_move rfl) rfl rfl ?_
      refine wl_skip rfl rfl rfl (by simp) rfl rfl ?_
      refine wl_skip rfl rfl rfl (by simp) rfl rfl ?_
      refine wl_skip rfl rfl rfl (by simp) rfl rfl ?_
      refine wl_ex (ex_pickt rfl rfl rfl) rfl rfl ?_
      refine wl_ex (ex_move rfl) rfl rfl ?_
      refine wl_skip rfl rfl rfl (by simp) rfl rfl ?_
      refine wl_skip rfl rfl rfl (by simp) rfl rfl ?_
      refine wl_skip rfl rfl rfl (by simp) rfl rfl ?_
      refine wl_skip rfl rfl rfl (by simp) rfl rfl ?_
      refine wl_ex (ex_pickt rfl rfl rfl) rfl rfl ?_
      refine wl_ex (ex_assign rfl) rfl rfl ?_
      refine wl_nil ?_
      refine pe_seq ?_
      refine wc_ret ?_
      refine pe_ret1 rfl rfl rfl (fun w' hm => ⟨?_, hm.ent (.nil _)⟩)
      first | exact congrArg Value.bool (decide_eq_true (by unfold okR; omega)).symm | exact congrArg Value.bool (decide_eq_false (by unfold okR; omega)).symm | exact congrArg Value.bool (decide_eq_decide.2 (by unfold okR; omega))
    · refine wl_pass rfl rfl rfl (decide_eq_false g3) ?_
      refine wl_ex (ex_fieldAddr (off' := 2) rfl Try.underlying56 rfl sz_3 rfl rfl) rfl rfl ?_
      refine wl_pass rfl rfl rfl (decide_eq_false g3) ?_
      refine wl_ex (ex_load rfl ag_3 (rd_row1 (.head _ _) rfl)) rfl rfl ?_
      refine wl_pass rfl rfl rfl (decide_eq_false g3) ?_
      refine wl_ex (ex_fieldAddr (off' := 1) rfl Try.underlying56 rfl sz_3 rfl rfl) rfl rfl ?_
      refine wl_pass rfl rfl rfl (decide_eq_false g3) ?_
      refine wl_ex (ex_load rfl ag_3 (rd_row1 (.head _ _) rfl)) rfl rfl ?_
      refine wl_pass rfl rfl rfl (decide_eq_false g3) ?_
      refine wl_ex (ex_add rfl rfl (by omega) (by omega)) rfl rfl ?_
      refine wl_pass rfl rfl rfl (decide_eq_false g3) ?_
      refine wl_callV [.tmp 14, .tmp 17, .const (.int .i64 86400)] rfl ok_47 rfl (fun w hm => c_isInT d.to (d.frm + 1) 86400 w   ) rfl ?_
      refine wl_pass rfl rfl rfl (decide_eq_false g3) ?_
      refine wl_ex (ex_not rfl) rfl rfl ?_
      refine wl_ex (ex_pickf rfl (decide_eq_false g3) rfl) rfl rfl ?_
      refine wl_ex (ex_move rfl) rfl rfl ?_
      by_cases g4 : ¬ ((d.frm + 1) ≤ d.to ∧ d.to ≤ 86400)
      · refine wl_skip rfl rfl rfl (fun h => of_decide_eq_false (Value.bool.inj h) g4) rfl rfl ?_
        refine wl_skip rfl rfl rfl (fun h => of_decide_eq_false (Value.bool.inj h) g4) rfl rfl ?_
        refine wl_skip rfl rfl rfl (fun h => of_decide_eq_false (Value.bool.inj h) g4) rfl rfl ?_
        refine wl_ex (ex_pickt rfl (decide_eq_true g4) rfl) rfl rfl ?_
        refine wl_ex (ex_move rfl) rfl rfl ?_
        refine wl_skip rfl rfl rfl (by simp) rfl rfl ?_
        refine wl_skip rfl rfl rfl (by simp) rfl rfl ?_
        refine wl_skip rfl rfl rfl (by simp) rfl rfl ?_
        refine wl_skip rfl rfl rfl (by simp) rfl rfl ?_
        refine wl_ex (ex_pickt rfl rfl rfl) rfl rfl ?_
        refine wl_ex (ex_assign rfl) rfl rfl ?_
        refine wl_nil ?_
        refine pe_seq ?_
        refine wc_ret ?_
        refine pe_ret1 rfl rfl rfl (fun w' hm => ⟨?_, hm.ent (.nil _)⟩)
        first | exact congrArg Value.bool (decide_eq_true (by unfold okR; omega)).symm | exact congrArg Value.bool (decide_eq_false (by unfold okR; omega)).symm | exact congrArg Value.bool (decide_eq_decide.2 (by unfold okR; omega))
      · refine wl_pass rfl rfl rfl (decide_eq_false g4) ?_
        refine wl_ex (ex_fieldAddr (off' := 1) rfl Try.underlying56 rfl sz_3 rfl rfl) rfl rfl ?_
        refine wl_pass rfl rfl rfl (decide_eq_false g4) ?_
        refine wl_ex (ex_load rfl ag_3 (rd_row1 (.head _ _) rfl)) rfl rfl ?_
        refine wl_pass rfl rfl rfl (decide_eq_false g4) ?_
        refine wl_ex (ex_geq rfl rfl) rfl rfl ?_
        refine wl_ex (ex_pickf rfl (decide_eq_false g4) rfl) rfl rfl ?_
        refine wl_ex (ex_move rfl) rfl rfl ?_
        by_cases g5 : 86400 ≤ d.frm
        · refine wl_skip rfl rfl rfl (fun h => of_decide_eq_false (Value.bool.inj h) g5) rfl rfl ?_
          refine wl_skip rfl rfl rfl (fun h => of_decide_eq_false (Value.bool.inj h) g5) rfl rfl ?_
          refine wl_skip rfl rfl rfl (fun h => of_decide_eq_false (Value.bool.inj h) g5) rfl rfl ?_
          refine wl_skip rfl rfl rfl (fun h => of_decide_eq_false (Value.bool.inj h) g5) rfl rfl ?_
          refine wl_ex (ex_pickt rfl (decide_eq_true g5) rfl) rfl rfl ?_
          refine wl_ex (ex_assign rfl) rfl rfl ?_
          refine wl_nil ?_
          refine pe_seq ?_
          refine wc_ret ?_
          refine pe_ret1 rfl rfl rfl (fun w' hm => ⟨?_, hm.ent (.nil _)⟩)
          first | exact congrArg Value.bool (decide_eq_true (by unfold okR; omega)).symm | exact congrArg Value.bool (decide_eq_false (by unfold okR; omega)).symm | exact congrArg Value.bool (decide_eq_decide.2 (by unfold okR; omega))
        · refine wl_pass rfl rfl rfl (decide_eq_false g5) ?_
          refine wl_ex (ex_fieldAddr (off' := 3) rfl Try.underlying56 rfl sz_3 rfl rfl) rfl rfl ?_
          refine wl_pass rfl rfl rfl (decide_eq_false g5) ?_
          refine wl_ex (ex_load rfl ag_3 (rd_row1 (.head _ _) rfl)) rfl rfl ?_
          refine wl_pass rfl rfl rfl (decide_eq_false g5) ?_
          refine wl_callV [.tmp 28, .const (.int .i64 0), .const (.int .i64 1000000)] rfl ok_47 rfl (fun w hm => c_isInT d.price 0 1000000 w   ) rfl ?_
          refine wl_pass rfl rfl rfl (decide_eq_false g5) ?_
          refine wl_ex (ex_not rfl) rfl rfl ?_
          refine wl_ex (ex_pickf rfl (decide_eq_false g5) rfl) rfl rfl ?_
          refine wl_ex (ex_assign rfl) rfl rfl ?_
          refine wl_nil ?_
          refine pe_seq ?_
          refine wc_ret ?_
          refine pe_ret1 rfl rfl rfl (fun w' hm => ⟨?_, hm.ent (.nil _)⟩)
          first | exact congrArg Value.bool (decide_eq_true (by unfold okR; omega)).symm | exact congrArg Value.bool (decide_eq_false (by unfold okR; omega)).symm | exact congrArg Value.bool (decide_eq_decide.2 (by unfold okR; omega))

theorem c_IndexFuncR (Al : Option Addr) (cl : Nat) (l : List Rate) (f : FuncId) (caps : List Value) (p : Rate → Prop) [DecidablePred p] (w : World) (hl : Sl w Al (encs encR l)) (hlen : l.length ≤ 1000) (hok : callOK Try.prog f = true) (hf : ∀ (d : Rate), d ∈ l → ∀ (w' : World), Upd [] w w' → Cl Try.prog f ([.agg (encR d).toArray] ++ caps) w' (IsV (.bool (decide (p d))) w')) :
    Cl Try.prog 57 [.slice Al l.length cl, .func (.func f) [].toArray caps.toArray] w (IsV (.int .i64 (idxI p l)) w) := by
  refine cl_of Try.func57 rfl Try.ntmps57 rfl (Mem.refl w) ?_
  refine wc_seq ?_
  refine wc_region ?_
  refine wl_ex (ex_assign rfl) rfl rfl ?_
  refine wl_nil ?_
  refine pe_seq ?_
  refine wc_seq ?_
  refine wc_seq ?_
  refine wc_region ?_
  refine wl_ex (ex_move rfl) rfl rfl ?_
  refine wl_ex (ex_len Try.underlying24 rfl) rfl rfl ?_
  refine wl_ex (ex_move rfl) rfl rfl ?_
  refine wl_nil ?_
  refine pe_seq ?_
  refine wc_block ?_
  refine wc_loop (σ := Int) (fun s => [(8, .int .i64 s), (0, .slice Al l.length cl), (1, .func (.func f) [].toArray caps.toArray), (7, .int .i64 (l.length : Int))]) (fun s => []) (fun s => 0 ≤ s ∧ s ≤ (l.length : Int) ∧ ∀ x ∈ l.take s.toNat, ¬ p x) (fun s => ((l.length : Int) - s).toNat) _ (Sub.cons rfl rfl (Sub.cons rfl rfl (Sub.cons rfl rfl (Sub.cons rfl rfl (Sub.nil _))))) (.nil _) (by simp) ?_
  rintro i hG
  show WC _ _ _ [(8, .int .i64 i), (0, .slice Al l.length cl), (1, .func (.func f) [].toArray caps.toArray), (7, .int .i64 (l.length : Int))] []
  replace hG : 0 ≤ i ∧ i ≤ (l.length : Int) ∧ ∀ x ∈ l.take i.toNat, ¬ p x := hG
  obtain ⟨h1, h2, h3⟩ := hG
  refine wc_seq ?_
  refine wc_region ?_
  refine wl_ex (ex_lss rfl rfl) rfl rfl ?_
  refine wl_nil ?_
  refine pe_seq ?_
  refine wc_seq ?_
  refine wc_ite rfl (fun c9 => ?_) (fun c9 => ?_)
  · refine wc_skip ?_
    refine pe_seq ?_
    refine wc_seq ?_
    refine wc_block ?_
    refine wc_seq ?_
    refine wc_region ?_
    refine wl_ex (ex_move rfl) rfl rfl ?_
    refine wl_ex (ex_assign rfl) rfl rfl ?_
    refine wl_nil ?_
    refine pe_seq ?_
    refine wc_seq ?_
    refine wc_region ?_
    refine wl_ex (ex_move rfl) rfl rfl ?_
    refine wl_ex (ex_move rfl) rfl rfl ?_
    refine wl_ex (ex_move rfl) rfl rfl ?_
    refine wl_ex (ex_indexAddr rfl rfl Try.underlying24 sz_56 (sl_arg hl rfl) (by omega) (by omega) (enc_pos encR_len (by omega))) rfl rfl ?_
    obtain ⟨d_l_i, hd_l_i⟩ := get_if l i
    refine wl_ex (ex_loadS rfl ag_56 sz_56 (encR_len _) (rd_encs encR_len (sl_arg hl rfl) (hd_l_i (by omega) (by omega)))) rfl rfl ?_
    refine wl_callcV [.tmp 15] rfl rfl hok rfl (fun w' hm => hf d_l_i (mem_at (hd_l_i (by omega) (by omega))) w' hm.upd) rfl ?_
    refine wl_nil ?_
    refine pe_seq ?_
    refine wc_ite rfl (fun c16 => ?_) (fun c16 => ?_)
    · refine wc_seq ?_
      refine wc_region ?_
      refine wl_ex (ex_move rfl) rfl rfl ?_
      refine wl_ex (ex_assign rfl) rfl rfl ?_
      refine wl_nil ?_
      refine pe_seq ?_
      refine wc_ret ?_
      refine pe_block_ret _ ?_
      refine pe_seq_ret ?_
      refine pe_loop_ret ?_
      refine pe_block_ret _ ?_
      refine pe_seq_ret ?_
      refine pe_ret1 rfl rfl rfl (fun w' hm => ⟨?_, hm.ent (.nil _)⟩)
      have := idxI_found (hd_l_i (by omega) (by omega)) h3 c16
      exact congrArg (Value.int .i64) (by rw [this]; omega)
    · refine wc_skip ?_
      refine pe_block _ ?_
      refine pe_seq ?_
      refine wc_region ?_
      refine wl_ex (ex_add rfl rfl (by omega) (by omega)) rfl rfl ?_
      refine wl_ex (ex_move rfl) rfl rfl ?_
      refine wl_nil ?_
      refine pe_again (i + 1) (Sub.cons rfl rfl (Sub.cons rfl rfl (Sub.cons rfl rfl (Sub.cons rfl rfl (Sub.nil _))))) (.nil _) ?_ ?_
      · show 0 ≤ (i + 1) ∧ (i + 1) ≤ (l.length : Int) ∧ ∀ x ∈ l.take (i + 1).toNat, ¬ p x
        have hi : (i + 1).toNat = i.toNat + 1 := by omega
        refine ⟨by omega, by omega, ?_⟩
        rw [hi]
        exact all_take (hd_l_i (by omega) (by omega)) h3 c16
      · first | omega | (simp only []; omega)
  · refine wc_exit ?_
    refine pe_seq_exit ?_
    refine pe_loop_exit ?_
    refine pe_block_exit ?_
    refine pe_seq ?_
    refine wc_seq ?_
    refine wc_region ?_
    refine wl_ex (ex_assign rfl) rfl rfl ?_
    refine wl_nil ?_
    refine pe_seq ?_
    refine wc_ret ?_
    refine pe_ret1 rfl rfl rfl (fun w' hm => ⟨?_, hm.ent (.nil _)⟩)
    rw [List.take_of_length_le (by omega)] at h3
    exact congrArg (Value.int .i64) (idxI_none h3).symm

theorem c_ContainsFuncR (Al : Option Addr) (cl : Nat) (l : List Rate) (f : FuncId) (caps : List Value) (p : Rate → Prop) [DecidablePred p] (w : World) (hl : Sl w Al (encs encR l)) (hlen : l.length ≤ 1000) (hok : callOK Try.prog f = true) (hf : ∀ (d : Rate), d ∈ l → ∀ (w' : World), Upd [] w w' → Cl Try.prog f ([.agg (encR d).toArray] ++ caps) w' (IsV (.bool (decide (p d))) w')) :
    Cl Try.prog 48 [.slice Al l.length cl, .func (.func f) [].toArray caps.toArray] w (IsV (.bool (decide (∃ d ∈ l, p d))) w) := by
  refine cl_of Try.func48 rfl Try.ntmps48 rfl (Mem.refl w) ?_
  refine wc_seq ?_
  refine wc_region ?_
  refine wl_ex (ex_assign rfl) rfl rfl ?_
  refine wl_nil ?_
  refine pe_seq ?_
  refine wc_seq ?_
  refine wc_region ?_
  refine wl_ex (ex_move rfl) rfl rfl ?_
  refine wl_ex (ex_move rfl) rfl rfl ?_
  refine wl_callV [.tmp 5, .tmp 6] rfl ok_57 rfl (fun w hm => c_IndexFuncR Al cl l f caps p w (((sl_arg hl rfl)).at hm) (by first | omega | assumption | (simp only [List.length_cons, List.length_nil]; omega)) hok (fun d hd w' hu => hf d hd w' (hm.upd.trans hu))  ) rfl ?_
  refine wl_ex (ex_geq rfl rfl) rfl rfl ?_
  refine wl_ex (ex_assign rfl) rfl rfl ?_
  refine wl_nil ?_
  refine pe_seq ?_
  refine wc_ret ?_
  refine pe_ret1 rfl rfl rfl (fun w' hm => ⟨?_, hm.ent (.nil _)⟩)
  exact congrArg Value.bool (decide_eq_decide.2 (idxI_nonneg p l))

theorem c_ValidT (b : Int) (Al : Option Addr) (cl : Nat) (l : List Rate) (w : World) (hl : Sl w Al (encs encR l)) (hT : tarOK b l) :
    Cl Try.prog 35 [.agg #[.slice Al l.length cl, .int .i64 b]] w (IsV (.bool true) w) := by
  refine cl_of Try.func35 rfl Try.ntmps35 rfl (Mem.refl w) ?_
  have hlen := hT.2.1
  have hbd := hT.2.2
  have hb0 := hT.1
  refine wc_seq ?_
  refine wc_region ?_
  refine wl_box rfl rfl rfl fun r1 => ?_
  refine wl_ex (ex_assign rfl) rfl rfl ?_
  refine wl_nil ?_
  refine pe_seq ?_
  refine wc_seq ?_
  refine wc_region ?_
  refine wl_ex (ex_assign rfl) rfl rfl ?_
  refine wl_nil ?_
  refine pe_seq ?_
  refine wc_seq ?_
  refine wc_region ?_
  refine wl_ex (ex_fieldAddr (off' := 1) rfl Try.underlying26 rfl sz_3 rfl rfl) rfl rfl ?_
  refine wl_ex (ex_load rfl ag_3 (rd_row1 (.head _ _) rfl)) rfl rfl ?_
  refine wl_callV [.tmp 5, .const (.int .i64 0), .const (.int .i64 1000000)] rfl ok_47 rfl (fun w hm => c_isInT b 0 1000000 w   ) rfl ?_
  refine wl_ex (ex_move rfl) rfl rfl ?_
  by_cases g2 : 0 ≤ b ∧ b ≤ 1000000
  · refine wl_pass rfl rfl rfl (decide_eq_true g2) ?_
    refine wl_ex (ex_fieldAddr (off' := 0) rfl Try.underlying26 rfl sz_24 rfl rfl) rfl rfl ?_
    refine wl_pass rfl rfl rfl (decide_eq_true g2) ?_
    refine wl_ex (ex_load rfl ag_24 (rd_row1 (.head _ _) rfl)) rfl rfl ?_
    refine wl_pass rfl rfl rfl (decide_eq_true g2) ?_
    refine wl_ex (ex_len Try.underlying24 rfl) rfl rfl ?_
    refine wl_pass rfl rfl rfl (decide_eq_true g2) ?_
    refine wl_ex (ex_leq rfl rfl) rfl rfl ?_
    refine wl_ex (ex_pickt rfl (decide_eq_true g2) rfl) rfl rfl ?_
    refine wl_ex (ex_move rfl) rfl rfl ?_
    by_cases g3 : (l.length : Int) ≤ 10
    · refine wl_pass rfl rfl rfl (decide_eq_true g3) ?_
      refine wl_ex (ex_fieldAddr (off' := 0) rfl Try.underlying26 rfl sz_24 rfl rfl) rfl rfl ?_
      refine wl_pass rfl rfl rfl (decide_eq_true g3) ?_
      refine wl_ex (ex_load rfl ag_24 (rd_row1 (.head _ _) rfl)) rfl rfl ?_
      refine wl_pass rfl rfl rfl (decide_eq_true g3) ?_
      refine wl_ex (ex_move rfl) rfl rfl ?_
      refine wl_pass rfl rfl rfl (decide_eq_true g3) ?_
      refine wl_callV [.tmp 15, .tmp 16] rfl ok_48 rfl (fun w hm => c_ContainsFuncR Al cl l 46 [] (fun d => ¬ okR d) w (((sl_arg hl rfl)).at hm) (by first | omega | assumption | (simp only [List.length_cons, List.length_nil]; omega)) ok_46 (fun d hd w' hu => c_ValidT1 d w' (ok_bdR (hbd d hd)))  ) rfl ?_
      refine wl_pass rfl rfl rfl (decide_eq_true g3) ?_
      refine wl_ex (ex_not rfl) rfl rfl ?_
      refine wl_ex (ex_pickt rfl (decide_eq_true g3) rfl) rfl rfl ?_
      refine wl_ex (ex_assign rfl) rfl rfl ?_
      refine wl_nil ?_
      refine pe_seq ?_
      refine wc_ret ?_
      refine pe_ret1 rfl rfl rfl (fun w' hm => ⟨?_, hm.ent (.nil _)⟩)
      first | rfl | (exact congrArg Value.bool (decide_eq_true (by simp only [not_exists, not_and, Decidable.not_not]; exact hbd))) | omega
    · refine wl_skip rfl rfl rfl (fun h => g3 (of_decide_eq_true (Value.bool.inj h))) rfl rfl ?_
      refine wl_skip rfl rfl rfl (fun h => g3 (of_decide_eq_true (Value.bool.inj h))) rfl rfl ?_
      refine wl_skip rfl rfl rfl (fun h => g3 (of_decide_eq_true (Value.bool.inj h))) rfl rfl ?_
      refine wl_skip rfl rfl rfl (fun h => g3 (of_decide_eq_true (Value.bool.inj h))) rfl rfl ?_
      refine wl_skip rfl rfl rfl (fun h => g3 (of_decide_eq_true (Value.bool.inj h))) rfl rfl ?_
      refine wl_ex (ex_pickf rfl (decide_eq_false g3) rfl) rfl rfl ?_
      refine wl_ex (ex_assign rfl) rfl rfl ?_
      refine wl_nil ?_
      refine pe_seq ?_
      refine wc_ret ?_
      refine pe_ret1 rfl rfl rfl (fun w' hm => ⟨?_, hm.ent (.nil _)⟩)
      first | rfl | (exact congrArg Value.bool (decide_eq_true (by simp only [not_exists, not_and, Decidable.not_not]; exact hbd))) | omega
  · refine wl_skip rfl rfl rfl (fun h => g2 (of_decide_eq_true (Value.bool.inj h))) rfl rfl ?_
    refine wl_skip rfl rfl rfl (fun h => g2 (of_decide_eq_true (Value.bool.inj h))) rfl rfl ?_
    refine wl_skip rfl rfl rfl (fun h => g2 (of_decide_eq_true (Value.bool.inj h))) rfl rfl ?_
    refine wl_skip rfl rfl rfl (fun h => g2 (of_decide_eq_true (Value.bool.inj h))) rfl rfl ?_
    refine wl_ex (ex_pickf rfl (decide_eq_false g2) rfl) rfl rfl ?_
    refine wl_ex (ex_move rfl) rfl rfl ?_
    refine wl_skip rfl rfl rfl (by simp) rfl rfl ?_
    refine wl_skip rfl rfl rfl (by simp) rfl rfl ?_
    refine wl_skip rfl rfl rfl (by simp) rfl rfl ?_
    refine wl_skip rfl rfl rfl (by simp) rfl rfl ?_
    refine wl_skip rfl rfl rfl (by simp) rfl rfl ?_
    refine wl_ex (ex_pickf rfl rfl rfl) rfl rfl ?_
    refine wl_ex (ex_assign rfl) rfl rfl ?_
    refine wl_nil ?_
    refine pe_seq ?_
    refine wc_ret ?_
    refine pe_ret1 rfl rfl rfl (fun w' hm => ⟨?_, hm.ent (.nil _)⟩)
    first | rfl | (exact congrArg Value.bool (decide_eq_true (by simp only [not_exists, not_and, Decidable.not_not]; exact hbd))) | omega

theorem c_isZone (o : Int) (w : World)  :
    Cl Try.prog 36 [.int .i64 o] w (IsV (.bool (decide (zoneOK o))) w) := by
  refine cl_of Try.func36 rfl Try.ntmps36 rfl (Mem.refl w) ?_
  refine wc_seq ?_
  refine wc_region ?_
  refine wl_ex (ex_assign rfl) rfl rfl ?_
  refine wl_nil ?_
  refine pe_seq ?_
  refine wc_seq ?_
  refine wc_region ?_
  refine wl_ex (ex_move rfl) rfl rfl ?_
  refine wl_callV [.tmp 3, .const (.int .i64 (-50400)), .const (.int .i64 50400)] rfl ok_47 rfl (fun w hm => c_isInT o (-50400) 50400 w   ) rfl ?_
  refine wl_ex (ex_assign rfl) rfl rfl ?_
  refine wl_nil ?_
  refine pe_seq ?_
  refine wc_ret ?_
  refine pe_ret1 rfl rfl rfl (fun w' hm => ⟨?_, hm.ent (.nil _)⟩)
  rfl

theorem c_isSpell (s e : Int) (w : World) (hs : 0 ≤ s ∧ s ≤ e ∧ e ≤ 10000000) :
    Cl Try.prog 37 [.agg #[.int .i64 s, .int .i64 e]] w (IsV (.bool true) w) := by
  refine cl_of Try.func37 rfl Try.ntmps37 rfl (Mem.refl w) ?_
  refine wc_seq ?_
  refine wc_region ?_
  refine wl_box rfl rfl rfl fun r1 => ?_
  refine wl_ex (ex_assign rfl) rfl rfl ?_
  refine wl_nil ?_
  refine pe_seq ?_
  refine wc_seq ?_
  refine wc_region ?_
  refine wl_ex (ex_fieldAddr (off' := 0) rfl Try.underlying33 rfl sz_3 rfl rfl) rfl rfl ?_
  refine wl_ex (ex_load rfl ag_3 (rd_row1 (.head _ _) rfl)) rfl rfl ?_
  refine wl_ex (ex_geq rfl rfl) rfl rfl ?_
  refine wl_ex (ex_move rfl) rfl rfl ?_
  by_cases g2 : 0 ≤ s
  · refine wl_pass rfl rfl rfl (decide_eq_true g2) ?_
    refine wl_ex (ex_fieldAddr (off' := 1) rfl Try.underlying33 rfl sz_3 rfl rfl) rfl rfl ?_
    refine wl_pass rfl rfl rfl (decide_eq_true g2) ?_
    refine wl_ex (ex_load rfl ag_3 (rd_row1 (.head _ _) rfl)) rfl rfl ?_
    refine wl_pass rfl rfl rfl (decide_eq_true g2) ?_
    refine wl_ex (ex_fieldAddr (off' := 0) rfl Try.underlying33 rfl sz_3 rfl rfl) rfl rfl ?_
    refine wl_pass rfl rfl rfl (decide_eq_true g2) ?_
    refine wl_ex (ex_load rfl ag_3 (rd_row1 (.head _ _) rfl)) rfl rfl ?_
    refine wl_pass rfl rfl rfl (decide_eq_true g2) ?_
    refine wl_callV [.tmp 8, .tmp 10, .const (.int .i64 10000000)] rfl ok_47 rfl (fun w hm => c_isInT e s 10000000 w   ) rfl ?_
    refine wl_ex (ex_pickt rfl (decide_eq_true g2) rfl) rfl rfl ?_
    refine wl_ex (ex_assign rfl) rfl rfl ?_
    refine wl_nil ?_
    refine pe_seq ?_
    refine wc_ret ?_
    refine pe_ret1 rfl rfl rfl (fun w' hm => ⟨?_, hm.ent (.nil _)⟩)
    first | rfl | (exact congrArg Value.bool (decide_eq_true (by omega))) | omega
  · refine wl_skip rfl rfl rfl (fun h => g2 (of_decide_eq_true (Value.bool.inj h))) rfl rfl ?_
    refine wl_skip rfl rfl rfl (fun h => g2 (of_decide_eq_true (Value.bool.inj h))) rfl rfl ?_
    refine wl_skip rfl rfl rfl (fun h => g2 (of_decide_eq_true (Value.bool.inj h))) rfl rfl ?_
    refine wl_skip rfl rfl rfl (fun h => g2 (of_decide_eq_true (Value.bool.inj h))) rfl rfl ?_
    refine wl_skip rfl rfl rfl (fun h => g2 (of_decide_eq_true (Value.bool.inj h))) rfl rfl ?_
    refine wl_ex (ex_pickf rfl (decide_eq_false g2) rfl) rfl rfl ?_
    refine wl_ex (ex_assign rfl) rfl rfl ?_
    refine wl_nil ?_
    refine pe_seq ?_
    refine wc_ret ?_
    refine pe_ret1 rfl rfl rfl (fun w' hm => ⟨?_, hm.ent (.nil _)⟩)
    first | rfl | (exact congrArg Value.bool (decide_eq_true (by omega))) | omega

theorem c_isGoodT (b : Int) (Al : Option Addr) (cl : Nat) (l : List Rate) (o s e : Int) (w : World) (hl : Sl w Al (encs encR l)) (hT : tarOK b l) (ho : zoneOK o) (hs : 0 ≤ s ∧ s ≤ e ∧ e ≤ 10000000) :
    Cl Try.prog 21 [.agg #[.slice Al l.length cl, .int .i64 b], .int .i64 o, .agg #[.int .i64 s, .int .i64 e]] w (IsV (.bool true) w) := by
  refine cl_of Try.func21 rfl Try.ntmps21 rfl (Mem.refl w) ?_
  refine wc_seq ?_
  refine wc_region ?_
  refine wl_box rfl rfl rfl fun r1 => ?_
  refine wl_box rfl rfl rfl fun r2 => ?_
  refine wl_ex (ex_assign rfl) rfl rfl ?_
  refine wl_nil ?_
  refine pe_seq ?_
  refine wc_seq ?_
  refine wc_region ?_
  refine wl_ex (ex_loadS rfl ag_26 sz_26 rfl (rd_rowAll (.tail (.head _ _)))) rfl rfl ?_
  refine wl_callV [.tmp 7] rfl ok_35 rfl (fun w hm => c_ValidT b Al cl l w (((sl_arg hl rfl)).at hm)  (by assumption)) rfl ?_
  refine wl_ex (ex_move rfl) rfl rfl ?_
  refine wl_pass rfl rfl rfl rfl ?_
  refine wl_ex (ex_move rfl) rfl rfl ?_
  refine wl_pass rfl rfl rfl rfl ?_
  refine wl_callV [.tmp 10] rfl ok_36 rfl (fun w hm => c_isZone o w   ) rfl ?_
  refine wl_ex (ex_pickt rfl rfl rfl) rfl rfl ?_
  refine wl_ex (ex_move rfl) rfl rfl ?_
  by_cases g3 : zoneOK o
  · refine wl_pass rfl rfl rfl (decide_eq_true g3) ?_
    refine wl_ex (ex_loadS rfl ag_33 sz_33 rfl (rd_rowAll (.head _ _))) rfl rfl ?_
    refine wl_pass rfl rfl rfl (decide_eq_true g3) ?_
    refine wl_callV [.tmp 14] rfl ok_37 rfl (fun w hm => c_isSpell s e w   (by omega)) rfl ?_
    refine wl_ex (ex_pickt rfl (decide_eq_true g3) rfl) rfl rfl ?_
    refine wl_ex (ex_assign rfl) rfl rfl ?_
    refine wl_nil ?_
    refine pe_seq ?_
    refine wc_ret ?_
    refine pe_ret1 rfl rfl rfl (fun w' hm => ⟨?_, hm.ent (.nil _)⟩)
    first | rfl | exact absurd ho (by assumption)
  · refine wl_skip rfl rfl rfl (fun h => g3 (of_decide_eq_true (Value.bool.inj h))) rfl rfl ?_
    refine wl_skip rfl rfl rfl (fun h => g3 (of_decide_eq_true (Value.bool.inj h))) rfl rfl ?_
    refine wl_ex (ex_pickf rfl (decide_eq_false g3) rfl) rfl rfl ?_
    refine wl_ex (ex_assign rfl) rfl rfl ?_
    refine wl_nil ?_
    refine pe_seq ?_
    refine wc_ret ?_
    refine pe_ret1 rfl rfl rfl (fun w' hm => ⟨?_, hm.ent (.nil _)⟩)
    first | rfl | exact absurd ho (by assumption)

theorem c_local (o t : Int) (w : World) (ho : zoneOK o) (ht : 0 ≤ t ∧ t ≤ 10000000) :
    Cl Try.prog 51 [.int .i64 o, .int .i64 t] w (IsV (.int .i64 (locI o t)) w) := by
  refine cl_of Try.func51 rfl Try.ntmps51 rfl (Mem.refl w) ?_
  unfold zoneOK at ho
  refine wc_seq ?_
  refine wc_region ?_
  refine wl_ex (ex_assign rfl) rfl rfl ?_
  refine wl_nil ?_
  refine pe_seq ?_
  refine wc_seq ?_
  refine wc_region ?_
  refine wl_ex (ex_move rfl) rfl rfl ?_
  refine wl_ex (ex_move rfl) rfl rfl ?_
  refine wl_ex (ex_add rfl rfl (by omega) (by omega)) rfl rfl ?_
  refine wl_ex (ex_add rfl rfl (by omega) (by omega)) rfl rfl ?_
  refine wl_ex (ex_rem rfl rfl (by omega) (by omega)) rfl rfl ?_
  refine wl_ex (ex_assign rfl) rfl rfl ?_
  refine wl_nil ?_
  refine pe_seq ?_
  refine wc_ret ?_
  refine pe_ret1 rfl rfl rfl (fun w' hm => ⟨?_, hm.ent (.nil _)⟩)
  rfl

end Go.Proofs.Yteglbaidaekccaa
