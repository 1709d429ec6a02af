/- Walks. -/
import Derived.Test.YtolfgdkdghhidaaWg
import Derived.Test.YtolfgdkdghhidaaP39
set_option linter.unusedVariables false
set_option linter.unusedSimpArgs false
namespace Go.Proofs.Ytolfgdkdghhidaa
open Go Go.RowKit
theorem cyc_next {f : Book} {n : Nat} {c : Int} (h0 : 0 ≤ c) (hn : ∀ j : Nat, j < c.toNat → ext f n [(j : Int)] = none) (h : ext f n [c] = none) : ∀ j : Nat, j < (c + 1).toNat → ext f n [(j : Int)] = none := by
  rw [show (c + 1).toNat = c.toNat + 1 by omega]
  refine none_step (g := fun j : Nat => ext f n [(j : Int)]) hn ?_
  show ext f n [(c.toNat : Int)] = none
  rw [Int.toNat_of_nonneg h0]; exact h
theorem cycS_some {f : Book} {s : Nat} {c : Int} {o : List Int} (hs : s < 6) (h1 : ∀ j, j < s → cyc1 f j = none) (h0 : 0 ≤ c) (h8 : c < 8) (h2 : ∀ j : Nat, j < c.toNat → ext f (s + 2) [(j : Int)] = none) (h : ext f (s + 2) [c] = some o) : cycS f = some o := by
  rw [cycS_eq]
  refine find_some hs h1 ?_
  refine find_some (k := c.toNat) (by omega) h2 ?_
  rw [Int.toNat_of_nonneg h0]; exact h
theorem cycS_none {f : Book} (h1 : ∀ j, j < 6 → cyc1 f j = none) : cycS f = none := by rw [cycS_eq]; exact find_none h1
theorem cyc1_next {f : Book} {s : Int} (h3 : 3 ≤ s) (h1 : ∀ j, j < (s - 3).toNat → cyc1 f j = none) (h2 : ∀ j : Nat, j < 8 → ext f ((s - 3).toNat + 2) [(j : Int)] = none) : ∀ j, j < (s + 1 - 3).toNat → cyc1 f j = none := by
  rw [show (s + 1 - 3).toNat = (s - 3).toNat + 1 by omega]
  exact none_step h1 (find_none h2)
theorem cyc_pairs {l : List Debt} (h : DebtsOK 1000000000 l) : cycS (ow (pairsI l)) = cycI l := by
  unfold cycI; rw [if_pos h]; exact cycS_list (norm_book h)
theorem ok_43 : callOK Try.prog 43 = true := by kernel_rfl

theorem c_cycleR (Al : Option Addr) (cl : Nat) (l : List Debt) (w : World) (hl : Sl w Al (encs encD l)) (hlen : l.length ≤ 1000) (hb : ∀ d ∈ l, -1000000000000 ≤ d.amt ∧ d.amt ≤ 1000000000000) :
    Cl Try.prog 43 [.slice Al l.length cl] w (IsS2 ((cycL (cycS (ow l))).length) 3 1 (encs encI (cycL (cycS (ow l)))) (.bool (cycS (ow l)).isSome) w) := by
  refine cl_of Try.func43 rfl Try.ntmps43 rfl (Mem.refl w) ?_
  refine wc_seq ?_
  refine wc_region ?_
  refine wl_ex (ex_assign rfl) rfl rfl ?_
  refine wl_ex (ex_assign rfl) rfl rfl ?_
  refine wl_nil ?_
  refine pe_seq ?_
  refine wc_seq ?_
  refine wc_seq ?_
  refine wc_region ?_
  refine wl_ex (ex_assign rfl) rfl rfl ?_
  refine wl_nil ?_
  refine pe_seq ?_
  refine wc_block ?_
  refine wc_loop (σ := Int) (fun s => [(4, .int .i64 s), (0, .slice Al l.length cl)]) (fun s => []) (fun s => (3 ≤ s ∧ s ≤ 9) ∧ ∀ j, j < (s - 3).toNat → cyc1 (ow l) j = none) (fun s => (9 - s).toNat) _ (Sub.cons rfl rfl (Sub.cons rfl rfl (Sub.nil _))) (.nil _) (by simp) ?_
  rintro size hG
  show WC _ _ _ [(4, .int .i64 size), (0, .slice Al l.length cl)] []
  replace hG : (3 ≤ size ∧ size ≤ 9) ∧ ∀ j, j < (size - 3).toNat → cyc1 (ow l) j = none := hG
  obtain ⟨h1, h2⟩ := hG
  refine wc_seq ?_
  refine wc_seq ?_
  refine wc_region ?_
  refine wl_ex (ex_move rfl) rfl rfl ?_
  refine wl_ex (ex_leq rfl rfl) rfl rfl ?_
  refine wl_nil ?_
  refine pe_seq ?_
  refine wc_ite rfl (fun c9 => ?_) (fun c9 => ?_)
  · refine wc_skip ?_
    refine pe_seq ?_
    refine wc_seq ?_
    refine wc_block ?_
    refine wc_seq ?_
    refine wc_region ?_
    refine wl_ex (ex_assign rfl) rfl rfl ?_
    refine wl_nil ?_
    refine pe_seq ?_
    refine wc_block ?_
    refine wc_loop (σ := Int) (fun s => [(5, .int .i64 s), (0, .slice Al l.length cl), (4, .int .i64 size)]) (fun s => []) (fun s => (0 ≤ s ∧ s ≤ 8) ∧ ∀ j : Nat, j < s.toNat → ext (ow l) ((size - 3).toNat + 2) [(j : Int)] = none) (fun s => (8 - s).toNat) _ (Sub.cons rfl rfl (Sub.cons rfl rfl (Sub.cons rfl rfl (Sub.nil _)))) (.nil _) (by simp) ?_
    rintro b hG
    show WC _ _ _ [(5, .int .i64 b), (0, .slice Al l.length cl), (4, .int .i64 size)] []
    replace hG : (0 ≤ b ∧ b ≤ 8) ∧ ∀ j : Nat, j < b.toNat → ext (ow l) ((size - 3).toNat + 2) [(j : Int)] = none := hG
    obtain ⟨h3, h4⟩ := hG
    refine wc_seq ?_
    refine wc_seq ?_
    refine wc_region ?_
    refine wl_ex (ex_move rfl) rfl rfl ?_
    refine wl_ex (ex_lss rfl rfl) rfl rfl ?_
    refine wl_nil ?_
    refine pe_seq ?_
    refine wc_ite rfl (fun c13 => ?_) (fun c13 => ?_)
    · refine wc_skip ?_
      refine pe_seq ?_
      refine wc_seq ?_
      refine wc_block ?_
      refine wc_seq ?_
      refine wc_region ?_
      refine wl_ex (ex_move rfl) rfl rfl ?_
      refine wl_ex (ex_move rfl) rfl rfl ?_
      refine wl_buildSlice [.tmp 18] rfl rfl Try.underlying25 sz_3 ze_3 rfl (by simp [Value.cells]) (by omega) (by omega) rfl fun r1 => ?_
      rw [show List.flatMap (fun x => x.cells.toList) ([Value.int .i64 b] : List Value) = encs encI [b] from rfl]
      refine wl_ex (ex_move rfl) rfl rfl ?_
      refine wl_callT [.tmp 17, .tmp 19, .tmp 20] rfl ok_57 rfl (.cons (.head _ _) (.nil _)) (fun w hm => extC ((size - 3).toNat + 2) Al cl l (some ⟨r1, 0, none⟩) 1 ([b]) size w hm.hold (sl_atB hl hm) (by assumption) (by assumption) (by simp) (by simp; omega) (by simp; omega) (by omega)) rfl ?_
      rintro ⟨A2, n3, c4, l5⟩ hG6
      replace hG6 : n3 = l5.length ∧ ∀ o, ext (ow l) ((size - 3).toNat + 2) ([b]) = some o → l5 = o := hG6
      show WL _ _ _ _ ((21, .tuple #[.slice A2 n3 c4, .bool ((ext (ow l) ((size - 3).toNat + 2) ([b])).isSome)]) :: _) [.own A2 n3 c4 3 1 (encs encI l5)]
      refine wl_ex (ex_move rfl) rfl rfl ?_
      refine wl_ex (ex_extract rfl rfl) rfl rfl ?_
      refine wl_ex (ex_extract rfl rfl) rfl rfl ?_
      refine wl_ex (ex_assign rfl) rfl rfl ?_
      refine wl_ex (ex_assign rfl) rfl rfl ?_
      refine wl_nil ?_
      refine pe_seq ?_
      refine wc_seq ?_
      refine wc_region ?_
      refine wl_ex (ex_move rfl) rfl rfl ?_
      refine wl_nil ?_
      refine pe_seq ?_
      refine wc_if rfl (fun c24 => ?_) (fun c24 => ?_)
      · refine wc_seq ?_
        refine wc_region ?_
        refine wl_ex (ex_move rfl) rfl rfl ?_
        refine wl_ex (ex_assign rfl) rfl rfl ?_
        refine wl_ex (ex_assign rfl) rfl rfl ?_
        refine wl_nil ?_
        refine pe_seq ?_
        refine wc_ret ?_
        refine pe_block_ret _ ?_
        refine pe_seq_ret ?_
        refine pe_loop_ret ?_
        refine pe_block_ret _ ?_
        refine pe_block_ret _ ?_
        refine pe_seq_ret ?_
        refine pe_loop_ret ?_
        refine pe_block_ret _ ?_
        refine pe_seq_ret ?_
        obtain ⟨o1, ho1⟩ := Option.isSome_iff_exists.1 c24
        have hcs : cycS (ow l) = some o1 := cycS_some (by omega) h2 h3.1 (by omega) h4 ho1
        have hl1 := hG6.2 o1 ho1
        refine pe_ret2 rfl rfl rfl rfl (fun w' hm => isS2_mk hm (.head _ _) ?_ ?_ ?_)
        · rw [hcs, hl1]; rfl
        · rw [hcs]; rfl
        · rw [hcs, hG6.1, hl1]; rfl
      · refine wc_skip ?_
        refine pe_block _ ?_
        refine pe_seq ?_
        refine wc_region ?_
        refine wl_ex (ex_move rfl) rfl rfl ?_
        refine wl_ex (ex_add rfl rfl (by omega) (by omega)) rfl rfl ?_
        refine wl_ex (ex_assign rfl) rfl rfl ?_
        refine wl_nil ?_
        refine pe_again (b + 1) (Sub.cons rfl rfl (Sub.cons rfl rfl (Sub.cons rfl rfl (Sub.nil _)))) (.nil _) ?_ ?_
        · show (0 ≤ (b + 1) ∧ (b + 1) ≤ 8) ∧ ∀ j : Nat, j < (b + 1).toNat → ext (ow l) ((size - 3).toNat + 2) [(j : Int)] = none
          exact ⟨by omega, cyc_next h3.1 h4 (by simpa using c24)⟩
        · first | omega | (simp only []; omega)
    · refine wc_exit ?_
      refine pe_seq_exit ?_
      refine pe_loop_exit ?_
      refine pe_block_exit ?_
      refine pe_block _ ?_
      refine pe_seq ?_
      refine wc_region ?_
      refine wl_ex (ex_move rfl) rfl rfl ?_
      refine wl_ex (ex_add rfl rfl (by omega) (by omega)) rfl rfl ?_
      refine wl_ex (ex_assign rfl) rfl rfl ?_
      refine wl_nil ?_
      refine pe_again (size + 1) (Sub.cons rfl rfl (Sub.cons rfl rfl (Sub.nil _))) (.nil _) ?_ ?_
      · show (3 ≤ (size + 1) ∧ (size + 1) ≤ 9) ∧ ∀ j, j < ((size + 1) - 3).toNat → cyc1 (ow l) j = none
        exact ⟨by omega, cyc1_next h1.1 h2 (fun j hj => h4 j (by omega))⟩
      · first | omega | (simp only []; omega)
  · refine wc_exit ?_
    refine pe_seq_exit ?_
    refine pe_loop_exit ?_
    refine pe_block_exit ?_
    refine pe_seq ?_
    refine wc_seq ?_
    refine wc_region ?_
    refine wl_ex (ex_assign rfl) rfl rfl ?_
    refine wl_ex (ex_assign rfl) rfl rfl ?_
    refine wl_nil ?_
    refine pe_seq ?_
    refine wc_ret ?_
    refine pe_nilOwn 3 1 ?_
    have hcs : cycS (ow l) = none := cycS_none (fun j hj => h2 j (by omega))
    refine pe_ret2 rfl rfl rfl rfl (fun w' hm => isS2_mk hm (.head _ _) ?_ ?_ ?_)
    · rw [hcs]; rfl
    · rw [hcs]; rfl
    · rw [hcs]; rfl

theorem c_CycleR (Al : Option Addr) (cl : Nat) (l : List Debt) (w : World) (hl : Sl w Al (encs encD l)) (hlen : l.length ≤ 1000) :
    Cl Try.prog 19 [.slice Al l.length cl] w (IsS2 ((cycL (cycI l)).length) 3 1 (encs encI (cycL (cycI l))) (.bool (cycI l).isSome) w) := by
  refine cl_of Try.func19 rfl Try.ntmps19 rfl (Mem.refl w) ?_
  refine wc_seq ?_
  refine wc_region ?_
  refine wl_ex (ex_assign rfl) rfl rfl ?_
  refine wl_ex (ex_assign rfl) rfl rfl ?_
  refine wl_nil ?_
  refine pe_seq ?_
  refine wc_seq ?_
  refine wc_seq ?_
  refine wc_region ?_
  refine wl_ex (ex_move rfl) rfl rfl ?_
  refine wl_callV [.tmp 4] rfl ok_23 rfl (fun w hm => c_ValidR Al cl l w (((sl_arg hl rfl)).at hm)  (by assumption)) rfl ?_
  refine wl_ex (ex_not rfl) rfl rfl ?_
  refine wl_nil ?_
  refine pe_seq ?_
  refine wc_ite rfl (fun c6 => ?_) (fun c6 => ?_)
  · refine wc_seq ?_
    refine wc_region ?_
    refine wl_ex (ex_assign rfl) rfl rfl ?_
    refine wl_ex (ex_assign rfl) rfl rfl ?_
    refine wl_nil ?_
    refine pe_seq ?_
    refine wc_ret ?_
    refine pe_seq_ret ?_
    refine pe_nilOwn 3 1 ?_
    refine pe_ret2 rfl rfl rfl rfl (fun w' hm => isS2_mk hm (.head _ _) ?_ ?_ ?_)
    · simp [cycI, c6, encs]
    · simp [cycI, c6]
    · simp [cycI, c6]
  · have c6 := Decidable.not_not.1 c6
    have hb := pairsI_bd c6
    have hpl := pairsI_length l
    have hbd := book_debts c6
    refine wc_skip ?_
    refine pe_seq ?_
    refine wc_seq ?_
    refine wc_region ?_
    refine wl_ex (ex_move rfl) rfl rfl ?_
    refine wl_callS [.tmp 7] rfl ok_41 rfl (fun w hm => c_pairsR Al cl l w (((sl_arg hl rfl)).at hm)  (by assumption) (by assumption)) rfl fun A1 c2 => ?_
    refine wl_callS2 [.tmp 8] rfl ok_43 rfl (fun w hm => c_cycleR A1 c2 (pairsI l) w (((sl_own (.head _ _))).at hm)  (by first | assumption | omega) (by assumption)) rfl fun A3 c4 => ?_
    refine wl_ex (ex_extract rfl rfl) rfl rfl ?_
    refine wl_ex (ex_extract rfl rfl) rfl rfl ?_
    refine wl_ex (ex_assign rfl) rfl rfl ?_
    refine wl_ex (ex_assign rfl) rfl rfl ?_
    refine wl_nil ?_
    refine pe_seq ?_
    refine wc_ret ?_
    refine pe_ret2 rfl rfl rfl rfl (fun w' hm => isS2_mk hm (.head _ _) ?_ ?_ ?_)
    · rw [cyc_pairs c6]
    · rw [cyc_pairs c6]; rfl
    · rw [cyc_pairs c6]

end Go.Proofs.Ytolfgdkdghhidaa
