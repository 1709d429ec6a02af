/- Walks. -/
import Derived.Test.YteglbaidaekccaaWh
set_option linter.unusedVariables false
set_option linter.unusedSimpArgs false
set_option maxRecDepth 10000
namespace Go.Proofs.Yteglbaidaekccaa
open Go Go.RowKit
theorem memI_idx {n : Int} {l : List Int} : 0 ≤ idxI (fun x => n = x) l ↔ n ∈ l := by
  rw [idxI_nonneg]
  exact ⟨fun ⟨d, hd, e⟩ => e ▸ hd, fun h => ⟨n, h, rfl⟩⟩
theorem ok_54 : callOK Try.prog 54 = true := by kernel_rfl

theorem c_IndexI (Al : Option Addr) (cl : Nat) (l : List Int) (n : Int) (w : World) (hl : Sl w Al (encs encI l)) (hlen : l.length ≤ 1000) :
    Cl Try.prog 54 [.slice Al l.length cl, .int .i64 n] w (IsV (.int .i64 (idxI (fun x => n = x) l)) w) := by
  refine cl_of Try.func54 rfl Try.ntmps54 rfl (Mem.refl w) ?_
  refine wc_seq ?_
  refine wc_region ?_
  refine wl_ex (ex_assign rfl) rfl rfl ?_
  refine wl_nil ?_
  refine pe_seq ?_
  refine wc_seq ?_
  refine wc_seq ?_
  refine wc_region ?_
  refine wl_ex (ex_move rfl) rfl rfl ?_
  refine wl_ex (ex_len Try.underlying41 rfl) rfl rfl ?_
  refine wl_ex (ex_move rfl) rfl rfl ?_
  refine wl_nil ?_
  refine pe_seq ?_
  refine wc_block ?_
  refine wc_loop (σ := Int) (fun s => [(8, .int .i64 s), (0, .slice Al l.length cl), (1, .int .i64 n), (7, .int .i64 (l.length : Int))]) (fun s => []) (fun s => 0 ≤ s ∧ s ≤ (l.length : Int) ∧ ∀ x ∈ l.take s.toNat, ¬ (n = x)) (fun s => ((l.length : Int) - s).toNat) _ (Sub.cons rfl rfl (Sub.cons rfl rfl (Sub.cons rfl rfl (Sub.cons rfl rfl (Sub.nil _))))) (.nil _) (by simp) ?_
  rintro i hG
  show WC _ _ _ [(8, .int .i64 i), (0, .slice Al l.length cl), (1, .int .i64 n), (7, .int .i64 (l.length : Int))] []
  replace hG : 0 ≤ i ∧ i ≤ (l.length : Int) ∧ ∀ x ∈ l.take i.toNat, ¬ (n = x) := hG
  obtain ⟨h1, h2, h3⟩ := hG
  refine wc_seq ?_
  refine wc_region ?_
  refine wl_ex (ex_lss rfl rfl) rfl rfl ?_
  refine wl_nil ?_
  refine pe_seq ?_
  refine wc_seq ?_
  refine wc_ite rfl (fun c9 => ?_) (fun c9 => ?_)
  · refine wc_skip ?_
    refine pe_seq ?_
    refine wc_seq ?_
    refine wc_block ?_
    refine wc_seq ?_
    refine wc_region ?_
    refine wl_ex (ex_move rfl) rfl rfl ?_
    refine wl_ex (ex_assign rfl) rfl rfl ?_
    refine wl_nil ?_
    refine pe_seq ?_
    refine wc_seq ?_
    refine wc_region ?_
    refine wl_ex (ex_move rfl) rfl rfl ?_
    refine wl_ex (ex_move rfl) rfl rfl ?_
    refine wl_ex (ex_move rfl) rfl rfl ?_
    refine wl_ex (ex_indexAddr rfl rfl Try.underlying41 sz_3 (sl_arg hl rfl) (by omega) (by omega) (enc_pos encI_len (by omega))) rfl rfl ?_
    obtain ⟨d_l_i, hd_l_i⟩ := get_if l i
    refine wl_ex (ex_load rfl ag_3 (rd_int (sl_arg hl rfl) (hd_l_i (by omega) (by omega)))) rfl rfl ?_
    refine wl_ex (ex_eql rfl rfl) rfl rfl ?_
    refine wl_nil ?_
    refine pe_seq ?_
    refine wc_ite rfl (fun c16 => ?_) (fun c16 => ?_)
    · refine wc_seq ?_
      refine wc_region ?_
      refine wl_ex (ex_move rfl) rfl rfl ?_
      refine wl_ex (ex_assign rfl) rfl rfl ?_
      refine wl_nil ?_
      refine pe_seq ?_
      refine wc_ret ?_
      refine pe_block_ret _ ?_
      refine pe_seq_ret ?_
      refine pe_loop_ret ?_
      refine pe_block_ret _ ?_
      refine pe_seq_ret ?_
      refine pe_ret1 rfl rfl rfl (fun w' hm => ⟨?_, hm.ent (.nil _)⟩)
      have := idxI_found (p := fun x => n = x) (hd_l_i (by omega) (by omega)) h3 c16
      exact congrArg (Value.int .i64) (by rw [this]; omega)
    · refine wc_skip ?_
      refine pe_block _ ?_
      refine pe_seq ?_
      refine wc_region ?_
      refine wl_ex (ex_add rfl rfl (by omega) (by omega)) rfl rfl ?_
      refine wl_ex (ex_move rfl) rfl rfl ?_
      refine wl_nil ?_
      refine pe_again (i + 1) (Sub.cons rfl rfl (Sub.cons rfl rfl (Sub.cons rfl rfl (Sub.cons rfl rfl (Sub.nil _))))) (.nil _) ?_ ?_
      · show 0 ≤ (i + 1) ∧ (i + 1) ≤ (l.length : Int) ∧ ∀ x ∈ l.take (i + 1).toNat, ¬ (n = x)
        have hi : (i + 1).toNat = i.toNat + 1 := by omega
        refine ⟨by omega, by omega, ?_⟩
        rw [hi]
        exact all_take (hd_l_i (by omega) (by omega)) h3 c16
      · first | omega | (simp only []; omega)
  · refine wc_exit ?_
    refine pe_seq_exit ?_
    refine pe_loop_exit ?_
    refine pe_block_exit ?_
    refine pe_seq ?_
    refine wc_seq ?_
    refine wc_region ?_
    refine wl_ex (ex_assign rfl) rfl rfl ?_
    refine wl_nil ?_
    refine pe_seq ?_
    refine wc_ret ?_
    refine pe_ret1 rfl rfl rfl (fun w' hm => ⟨?_, hm.ent (.nil _)⟩)
    rw [List.take_of_length_le (by omega)] at h3
    exact congrArg (Value.int .i64) (idxI_none h3).symm

theorem c_ContainsI (Al : Option Addr) (cl : Nat) (l : List Int) (n : Int) (w : World) (hl : Sl w Al (encs encI l)) (hlen : l.length ≤ 1000) :
    Cl Try.prog 41 [.slice Al l.length cl, .int .i64 n] w (IsV (.bool (decide (n ∈ l))) w) := by
  refine cl_of Try.func41 rfl Try.ntmps41 rfl (Mem.refl w) ?_
  refine wc_seq ?_
  refine wc_region ?_
  refine wl_ex (ex_assign rfl) rfl rfl ?_
  refine wl_nil ?_
  refine pe_seq ?_
  refine wc_seq ?_
  refine wc_region ?_
  refine wl_ex (ex_move rfl) rfl rfl ?_
  refine wl_ex (ex_move rfl) rfl rfl ?_
  refine wl_callV [.tmp 5, .tmp 6] rfl ok_54 rfl (fun w hm => c_IndexI Al cl l n w (((sl_arg hl rfl)).at hm)  (by first | omega | assumption)) rfl ?_
  refine wl_ex (ex_geq rfl rfl) rfl rfl ?_
  refine wl_ex (ex_assign rfl) rfl rfl ?_
  refine wl_nil ?_
  refine pe_seq ?_
  refine wc_ret ?_
  refine pe_ret1 rfl rfl rfl (fun w' hm => ⟨?_, hm.ent (.nil _)⟩)
  exact congrArg Value.bool (decide_eq_decide.2 memI_idx)

end Go.Proofs.Yteglbaidaekccaa
