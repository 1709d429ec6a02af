/- Walks. -/
import Derived.Test.YteglbaidaekccaaWj
set_option linter.unusedVariables false
set_option linter.unusedSimpArgs false
set_option maxRecDepth 10000
namespace Go.Proofs.Yteglbaidaekccaa
open Go Go.RowKit

theorem sz_69 : szT Try.prog 69 = some 1 := by kernel_rfl
theorem ze_41 : zeT Try.prog 41 = some (.slice none 0 0) := by kernel_rfl
theorem ze_69 : zeT Try.prog 69 = some (.nilFunc) := by kernel_rfl
theorem ok_25 : callOK Try.prog 25 = true := by kernel_rfl

theorem c_cycle (r : Nat) (f : Book) (w : World) (hr : RowAt w r 80 (bookL f)) (hf : Norm f) :
    Cl Try.prog 25 [.pointer (some ⟨r, 0, none⟩)] w (IsS2 ((cycL (cycS f)).length) 3 1 (encs encI (cycL (cycS f))) (.bool (cycS f).isSome) w) := by
  refine cl_of Try.func25 rfl Try.ntmps25 rfl (Mem.refl w) ?_
  refine wc_seq ?_
  refine wc_region ?_
  refine wl_box rfl rfl rfl fun r1 => ?_
  refine wl_ex (ex_assign rfl) rfl rfl ?_
  refine wl_ex (ex_assign rfl) rfl rfl ?_
  refine wl_nil ?_
  refine pe_seq ?_
  refine wc_seq ?_
  refine wc_seq ?_
  refine wc_region ?_
  refine wl_alloc ze_3 rfl rfl fun r2 => ?_
  refine wl_store rfl rfl rfl sz_3 (.head _ _) (by simp) ?_
  refine wl_nil ?_
  refine pe_seq ?_
  refine wc_block ?_
  refine wc_loop (σ := Int × Nat) (fun s => [(4, .pointer (some ⟨s.2, 0, none⟩)), (1, .pointer (some ⟨r1, 0, none⟩))]) (fun s => [.row s.2 3 [.int .i64 s.1], .row r1 61 [.pointer (some ⟨r, 0, none⟩)]]) (fun s => (3 ≤ s.1 ∧ s.1 ≤ 9) ∧ ∀ j, j < (s.1 - 3).toNat → cyc1 f j = none) (fun s => (9 - s.1).toNat) ((3 : Int), _) (Sub.cons rfl rfl (Sub.cons rfl rfl (Sub.nil _))) (.cons (.head _ _) (by first | rfl | simp) (.cons (.head _ _) rfl (.nil _))) (by simp) ?_
  rintro ⟨size, rs⟩ hG
  show WC _ _ _ [(4, .pointer (some ⟨rs, 0, none⟩)), (1, .pointer (some ⟨r1, 0, none⟩))] [.row rs 3 [.int .i64 size], .row r1 61 [.pointer (some ⟨r, 0, none⟩)]]
  replace hG : (3 ≤ size ∧ size ≤ 9) ∧ ∀ j, j < (size - 3).toNat → cyc1 f j = none := hG
  obtain ⟨h1, h2⟩ := hG
  refine wc_seq ?_
  refine wc_seq ?_
  refine wc_region ?_
  refine wl_ex (ex_load rfl ag_3 (rd_row1 (.head _ _) rfl)) rfl rfl ?_
  refine wl_ex (ex_leq rfl rfl) rfl rfl ?_
  refine wl_nil ?_
  refine pe_seq ?_
  refine wc_ite rfl (fun c9 => ?_) (fun c9 => ?_)
  · refine wc_skip ?_
    refine pe_seq ?_
    refine wc_seq ?_
    refine wc_block ?_
    refine wc_seq ?_
    refine wc_region ?_
    refine wl_alloc ze_41 rfl rfl fun r3 => ?_
    refine wl_nil ?_
    refine pe_seq ?_
    refine wc_seq ?_
    refine wc_region ?_
    refine wl_alloc ze_69 rfl rfl fun r4 => ?_
    refine wl_nil ?_
    refine pe_seq ?_
    refine wc_seq ?_
    refine wc_region ?_
    refine wl_ex (ex_makeFunc (os := []) (cs := [.tmp 5, .tmp 4, .tmp 1, .tmp 6]) rfl rfl) rfl rfl ?_
    refine wl_store rfl rfl rfl sz_69 (.head _ _) (by simp) ?_
    refine wl_nil ?_
    refine pe_seq ?_
    refine wc_seq ?_
    refine wc_region ?_
    refine wl_ex (ex_move rfl) rfl rfl ?_
    refine wl_nil ?_
    refine pe_seq ?_
    refine wc_block ?_
    refine wc_nilOwn 3 1 ?_
    refine wc_loop (σ := Int × (Option Addr) × Nat) (fun s => [(13, .int .i64 s.1), (1, .pointer (some ⟨r1, 0, none⟩)), (4, .pointer (some ⟨rs, 0, none⟩)), (5, .pointer (some ⟨r3, 0, none⟩)), (6, .pointer (some ⟨r4, 0, none⟩))]) (fun s => [.row r3 41 [.slice s.2.1 (([] : List Int).length) s.2.2], .own s.2.1 (([] : List Int).length) s.2.2 3 1 (encs encI ([] : List Int)), .row r4 69 [.func (.func 40) [].toArray [.pointer (some ⟨r3, 0, none⟩), .pointer (some ⟨rs, 0, none⟩), .pointer (some ⟨r1, 0, none⟩), .pointer (some ⟨r4, 0, none⟩)].toArray], .row rs 3 [.int .i64 size], .row r1 61 [.pointer (some ⟨r, 0, none⟩)]]) (fun s => (0 ≤ s.1 ∧ s.1 ≤ 8) ∧ ∀ j : Nat, j < s.1.toNat → ext f ((size - 3).toNat + 2) [(j : Int)] = none) (fun s => (8 - s.1).toNat) ((0 : Int), _, _) (Sub.cons rfl rfl (Sub.cons rfl rfl (Sub.cons rfl rfl (Sub.cons rfl rfl (Sub.cons rfl rfl (Sub.nil _)))))) (.cons (.tail (.tail (.head _ _))) (by first | rfl | simp) (.cons (.head _ _) (by first | rfl | simp) (.cons (.head _ _) rfl (.cons (.head _ _) rfl (.cons (.head _ _) rfl (.nil _)))))) (by simp) ?_
    rintro ⟨b, A1, c1⟩ hG
    show WC _ _ _ [(13, .int .i64 b), (1, .pointer (some ⟨r1, 0, none⟩)), (4, .pointer (some ⟨rs, 0, none⟩)), (5, .pointer (some ⟨r3, 0, none⟩)), (6, .pointer (some ⟨r4, 0, none⟩))] [.row r3 41 [.slice A1 (([] : List Int).length) c1], .own A1 (([] : List Int).length) c1 3 1 (encs encI ([] : List Int)), .row r4 69 [.func (.func 40) [].toArray [.pointer (some ⟨r3, 0, none⟩), .pointer (some ⟨rs, 0, none⟩), .pointer (some ⟨r1, 0, none⟩), .pointer (some ⟨r4, 0, none⟩)].toArray], .row rs 3 [.int .i64 size], .row r1 61 [.pointer (some ⟨r, 0, none⟩)]]
    replace hG : (0 ≤ b ∧ b ≤ 8) ∧ ∀ j : Nat, j < b.toNat → ext f ((size - 3).toNat + 2) [(j : Int)] = none := hG
    obtain ⟨h3, h4⟩ := hG
    refine wc_seq ?_
    refine wc_region ?_
    refine wl_ex (ex_lss rfl rfl) rfl rfl ?_
    refine wl_nil ?_
    refine pe_seq ?_
    refine wc_seq ?_
    refine wc_ite rfl (fun c14 => ?_) (fun c14 => ?_)
    · refine wc_skip ?_
      refine pe_seq ?_
      refine wc_seq ?_
      refine wc_block ?_
      refine wc_seq ?_
      refine wc_region ?_
      refine wl_ex (ex_move rfl) rfl rfl ?_
      refine wl_ex (ex_assign rfl) rfl rfl ?_
      refine wl_nil ?_
      refine pe_seq ?_
      refine wc_seq ?_
      refine wc_region ?_
      refine wl_ex (ex_load rfl ag_69 (rd_row1 (.tail (.tail (.head _ _))) rfl)) rfl rfl ?_
      refine wl_ex (ex_move rfl) rfl rfl ?_
      refine wl_callcT [.tmp 17] rfl rfl ok_40 rfl (.cons (.head _ _) (.cons (.head _ _) (.nil _))) (fun w hm => cy1C ((size - 3).toNat + 2) b r3 rs r1 r4 r A1 c1 ([] : List Int) size f w hm.hold (row_pickB hm (.tail (.head _ _))) (row_pickB hm (.tail (.tail (.head _ _)))) (row_atB hr hm) (row_pickB hm (.head _ _)) (by assumption) (by omega) (by simp) (by simp; omega) (by omega)) rfl ?_
      rintro ⟨A5, c6, l7⟩ hG8
      replace hG8 : l7 = (ext f ((size - 3).toNat + 2) (([] : List Int) ++ [b])).getD ([] : List Int) := hG8
      show WL _ _ _ _ ((18, .bool ((ext f ((size - 3).toNat + 2) (([] : List Int) ++ [b])).isSome)) :: _) [.row r3 41 [.slice A5 l7.length c6], .own A5 l7.length c6 3 1 (encs encI l7), .row r4 69 [.func (.func 40) [].toArray [.pointer (some ⟨r3, 0, none⟩), .pointer (some ⟨rs, 0, none⟩), .pointer (some ⟨r1, 0, none⟩), .pointer (some ⟨r4, 0, none⟩)].toArray], .row rs 3 [.int .i64 size], .row r1 61 [.pointer (some ⟨r, 0, none⟩)]]
      refine wl_nil ?_
      refine pe_seq ?_
      refine wc_if rfl (fun c18 => ?_) (fun c18 => ?_)
      · refine wc_seq ?_
        refine wc_region ?_
        refine wl_ex (ex_load rfl ag_41 (rd_row1 (.head _ _) rfl)) rfl rfl ?_
        refine wl_ex (ex_assign rfl) rfl rfl ?_
        refine wl_ex (ex_assign rfl) rfl rfl ?_
        refine wl_nil ?_
        refine pe_seq ?_
        refine wc_ret ?_
        refine pe_block_ret _ ?_
        refine pe_seq_ret ?_
        refine pe_loop_ret ?_
        refine pe_block_ret _ ?_
        refine pe_block_ret _ ?_
        refine pe_seq_ret ?_
        refine pe_loop_ret ?_
        refine pe_block_ret _ ?_
        refine pe_seq_ret ?_
        obtain ⟨o1, ho1⟩ := Option.isSome_iff_exists.1 c18
        have hcs : cycS f = some o1 := cycS_some (by omega) h2 h3.1 (by omega) h4 ho1
        have hl1 := hG8
        rw [ho1] at hl1
        subst hl1
        refine pe_ret2 rfl rfl rfl rfl (fun w' hm => isS2_mk hm (.tail (.head _ _)) ?_ ?_ ?_)
        · rw [hcs]; rfl
        · rw [hcs]; rfl
        · rw [hcs]; rfl
      · have hl5 : l7 = [] := by rw [hG8, List.nil_append, show ext f ((size - 3).toNat + 2) [b] = none by simpa using c18]; rfl
        subst hl5
        refine wc_skip ?_
        refine pe_block _ ?_
        refine pe_seq ?_
        refine wc_region ?_
        refine wl_ex (ex_add rfl rfl (by omega) (by omega)) rfl rfl ?_
        refine wl_ex (ex_move rfl) rfl rfl ?_
        refine wl_nil ?_
        refine pe_again ⟨b + 1, A5, c6⟩ (Sub.cons rfl rfl (Sub.cons rfl rfl (Sub.cons rfl rfl (Sub.cons rfl rfl (Sub.cons rfl rfl (Sub.nil _)))))) (.cons (.head _ _) (by first | rfl | simp) (.cons (.head _ _) (by first | rfl | simp) (.cons (.head _ _) rfl (.cons (.head _ _) rfl (.cons (.head _ _) rfl (.nil _)))))) ?_ ?_
        · show (0 ≤ (b + 1) ∧ (b + 1) ≤ 8) ∧ ∀ j : Nat, j < (b + 1).toNat → ext f ((size - 3).toNat + 2) [(j : Int)] = none
          exact ⟨by omega, cyc_next h3.1 h4 (by simpa using c18)⟩
        · first | omega | (simp only []; omega)
    · refine wc_exit ?_
      refine pe_seq_exit ?_
      refine pe_loop_exit ?_
      refine pe_block_exit ?_
      refine pe_block _ ?_
      refine pe_seq ?_
      refine wc_seq ?_
      refine wc_seq ?_
      refine wc_region ?_
      refine wl_ex (ex_load rfl ag_3 (rd_row1 (.tail (.tail (.tail (.head _ _)))) rfl)) rfl rfl ?_
      refine wl_nil ?_
      refine pe_seq ?_
      refine wc_region ?_
      refine wl_alloc ze_3 rfl rfl fun r9 => ?_
      refine wl_store rfl rfl rfl sz_3 (.head _ _) (by simp) ?_
      refine wl_nil ?_
      refine pe_seq ?_
      refine wc_region ?_
      refine wl_ex (ex_load rfl ag_3 (rd_row1 (.head _ _) rfl)) rfl rfl ?_
      refine wl_ex (ex_add rfl rfl (by omega) (by omega)) rfl rfl ?_
      refine wl_store rfl rfl rfl sz_3 (.head _ _) (by simp) ?_
      refine wl_nil ?_
      refine pe_again ⟨size + 1, r9⟩ (Sub.cons rfl rfl (Sub.cons rfl rfl (Sub.nil _))) (.cons (.head _ _) (by first | rfl | simp) (.cons (.tail (.tail (.tail (.tail (.head _ _))))) rfl (.nil _))) ?_ ?_
      · show (3 ≤ (size + 1) ∧ (size + 1) ≤ 9) ∧ ∀ j, j < ((size + 1) - 3).toNat → cyc1 f j = none
        exact ⟨by omega, cyc1_next h1.1 h2 (fun j hj => h4 j (by omega))⟩
      · first | omega | (simp only []; omega)
  · refine wc_exit ?_
    refine pe_seq_exit ?_
    refine pe_loop_exit ?_
    refine pe_block_exit ?_
    refine pe_seq ?_
    refine wc_seq ?_
    refine wc_region ?_
    refine wl_ex (ex_assign rfl) rfl rfl ?_
    refine wl_ex (ex_assign rfl) rfl rfl ?_
    refine wl_nil ?_
    refine pe_seq ?_
    refine wc_ret ?_
    refine pe_nilOwn 3 1 ?_
    have hcs : cycS f = none := cycS_none (fun j hj => h2 j (by omega))
    refine pe_ret2 rfl rfl rfl rfl (fun w' hm => isS2_mk hm (.head _ _) ?_ ?_ ?_)
    · rw [hcs]; rfl
    · rw [hcs]; rfl
    · rw [hcs]; rfl

theorem c_Cycle (Al : Option Addr) (cl : Nat) (l : List Debt) (w : World) (hl : Sl w Al (encs encD l)) (hlen : l.length ≤ 1000) :
    Cl Try.prog 15 [.slice Al l.length cl] w (IsS2 ((cycL (cycI l)).length) 3 1 (encs encI (cycL (cycI l))) (.bool (cycI l).isSome) w) := by
  refine cl_of Try.func15 rfl Try.ntmps15 rfl (Mem.refl w) ?_
  refine wc_seq ?_
  refine wc_region ?_
  refine wl_ex (ex_assign rfl) rfl rfl ?_
  refine wl_ex (ex_assign rfl) rfl rfl ?_
  refine wl_nil ?_
  refine pe_seq ?_
  refine wc_seq ?_
  refine wc_seq ?_
  refine wc_region ?_
  refine wl_ex (ex_move rfl) rfl rfl ?_
  refine wl_callV [.tmp 4] rfl ok_19 rfl (fun w hm => c_Valid Al cl l w (((sl_arg hl rfl)).at hm)  (by first | omega | assumption)) rfl ?_
  refine wl_ex (ex_not rfl) rfl rfl ?_
  refine wl_nil ?_
  refine pe_seq ?_
  refine wc_ite rfl (fun c6 => ?_) (fun c6 => ?_)
  · refine wc_seq ?_
    refine wc_region ?_
    refine wl_ex (ex_assign rfl) rfl rfl ?_
    refine wl_ex (ex_assign rfl) rfl rfl ?_
    refine wl_nil ?_
    refine pe_seq ?_
    refine wc_ret ?_
    refine pe_seq_ret ?_
    refine pe_nilOwn 3 1 ?_
    refine pe_ret2 rfl rfl rfl rfl (fun w' hm => isS2_mk hm (.head _ _) ?_ ?_ ?_)
    · simp [cycI, c6, encs]
    · simp [cycI, c6]
    · simp [cycI, c6]
  · have c6 := Decidable.not_not.1 c6
    have hci : cycS (bookOf l) = cycI l := by unfold cycI; rw [if_pos c6]
    refine wc_skip ?_
    refine pe_seq ?_
    refine wc_seq ?_
    refine wc_region ?_
    refine wl_ex (ex_move rfl) rfl rfl ?_
    refine wl_callR [.tmp 7] rfl ok_24 rfl (fun w hm => c_open Al cl l w (((sl_arg hl rfl)).at hm)  (by first | assumption)) rfl fun r1 _ => ?_
    refine wl_callS2 [.tmp 8] rfl ok_25 rfl (fun w hm => c_cycle r1 (bookOf l) w (hm.rowAt (.head _ _))  (by first | assumption | exact norm_book (by assumption))) rfl fun A2 c3 => ?_
    refine wl_ex (ex_extract rfl rfl) rfl rfl ?_
    refine wl_ex (ex_extract rfl rfl) rfl rfl ?_
    refine wl_ex (ex_assign rfl) rfl rfl ?_
    refine wl_ex (ex_assign rfl) rfl rfl ?_
    refine wl_nil ?_
    refine pe_seq ?_
    refine wc_ret ?_
    refine pe_ret2 rfl rfl rfl rfl (fun w' hm => isS2_mk hm (.head _ _) ?_ ?_ ?_)
    · rw [hci]
    · rw [hci]; rfl
    · rw [hci]

end Go.Proofs.Yteglbaidaekccaa
