/- Walks. -/
import Derived.Test.YtolfgdkdghhidaaWc
set_option linter.unusedVariables false
set_option linter.unusedSimpArgs false
namespace Go.Proofs.Ytolfgdkdghhidaa
open Go Go.RowKit

theorem by_47 : byT Try.prog 47 = some 24 := by kernel_rfl
theorem pl_47 : (match Try.prog.underlying 47 with | some (.struct fs) => placesT Try.prog fs | _ => none) = some [(0, 1), (1, 1), (2, 1)] := by kernel_rfl
theorem ok_22 : callOK Try.prog 22 = true := by kernel_rfl
theorem ok_23 : callOK Try.prog 23 = true := by kernel_rfl
theorem ok_37 : callOK Try.prog 37 = true := by kernel_rfl
theorem ok_38 : callOK Try.prog 38 = true := by kernel_rfl
theorem ok_44 : callOK Try.prog 44 = true := by kernel_rfl

theorem c_BalancesR (Al : Option Addr) (cl : Nat) (l : List Debt) (w : World) (hl : Sl w Al (encs encD l)) (hlen : l.length ≤ 1000) :
    Cl Try.prog 15 [.slice Al l.length cl] w (IsS2 ((balR l).length) 3 1 (encs encI (balR l)) (.int .i64 (errN l)) w) := by
  refine cl_of Try.func15 rfl Try.ntmps15 rfl (Mem.refl w) ?_
  refine wc_seq ?_
  refine wc_region ?_
  refine wl_ex (ex_assign rfl) rfl rfl ?_
  refine wl_ex (ex_assign rfl) rfl rfl ?_
  refine wl_nil ?_
  refine pe_seq ?_
  refine wc_seq ?_
  refine wc_seq ?_
  refine wc_region ?_
  refine wl_ex (ex_move rfl) rfl rfl ?_
  refine wl_callV [.tmp 4] rfl ok_23 rfl (fun w hm => c_ValidR Al cl l w (((sl_arg hl rfl)).at hm)  (by assumption)) rfl ?_
  refine wl_ex (ex_not rfl) rfl rfl ?_
  refine wl_nil ?_
  refine pe_seq ?_
  refine wc_ite rfl (fun c6 => ?_) (fun c6 => ?_)
  · refine wc_seq ?_
    refine wc_region ?_
    refine wl_ex (ex_assign rfl) rfl rfl ?_
    refine wl_ex (ex_assign rfl) rfl rfl ?_
    refine wl_nil ?_
    refine pe_seq ?_
    refine wc_ret ?_
    refine pe_seq_ret ?_
    refine pe_nilOwn 3 1 ?_
    refine pe_ret2 rfl rfl rfl rfl (fun w' hm => isS2_mk hm (.head _ _) ?_ ?_ ?_)
    · simp [balR, c6, encs]
    · simp [errN, c6]
    · simp [balR, c6]
  · have c6 := Decidable.not_not.1 c6
    refine wc_skip ?_
    refine pe_seq ?_
    refine wc_seq ?_
    refine wc_region ?_
    refine wl_ex (ex_move rfl) rfl rfl ?_
    refine wl_callS [.tmp 7] rfl ok_38 rfl (fun w hm => c_balancesR Al cl l w (((sl_arg hl rfl)).at hm)  (by first | assumption | exact debts_mono (a := 1000000000) (by decide) (by assumption))) rfl fun A1 c2 => ?_
    refine wl_ex (ex_assign rfl) rfl rfl ?_
    refine wl_ex (ex_assign rfl) rfl rfl ?_
    refine wl_nil ?_
    refine pe_seq ?_
    refine wc_ret ?_
    refine pe_ret2 rfl rfl rfl rfl (fun w' hm => isS2_mk hm (.head _ _) ?_ ?_ ?_)
    · simp [balR, c6]
    · simp [errN, c6]
    · simp [balR, c6, balI_length]

theorem c_BalancesN (Al : Option Addr) (cl : Nat) (l : List Debt) (w : World) (hl : Sl w Al (encs encD l)) (hlen : l.length ≤ 1000) :
    Cl Try.prog 14 [.slice Al l.length cl] w (IsS2 ((balR l).length) 3 1 (encs encI (balR l)) (.int .i64 (errN l)) w) := by
  refine cl_of Try.func14 rfl Try.ntmps14 rfl (Mem.refl w) ?_
  refine wc_seq ?_
  refine wc_region ?_
  refine wl_ex (ex_assign rfl) rfl rfl ?_
  refine wl_ex (ex_assign rfl) rfl rfl ?_
  refine wl_nil ?_
  refine pe_seq ?_
  refine wc_seq ?_
  refine wc_seq ?_
  refine wc_region ?_
  refine wl_ex (ex_move rfl) rfl rfl ?_
  refine wl_callV [.tmp 4] rfl ok_22 rfl (fun w hm => c_Valid Al cl l w (((sl_arg hl rfl)).at hm)  (by first | omega | assumption)) rfl ?_
  refine wl_ex (ex_not rfl) rfl rfl ?_
  refine wl_nil ?_
  refine pe_seq ?_
  refine wc_ite rfl (fun c6 => ?_) (fun c6 => ?_)
  · refine wc_seq ?_
    refine wc_region ?_
    refine wl_ex (ex_assign rfl) rfl rfl ?_
    refine wl_ex (ex_assign rfl) rfl rfl ?_
    refine wl_nil ?_
    refine pe_seq ?_
    refine wc_ret ?_
    refine pe_seq_ret ?_
    refine pe_nilOwn 3 1 ?_
    refine pe_ret2 rfl rfl rfl rfl (fun w' hm => isS2_mk hm (.head _ _) ?_ ?_ ?_)
    · simp [balR, c6, encs]
    · simp [errN, c6]
    · simp [balR, c6]
  · have c6 := Decidable.not_not.1 c6
    refine wc_skip ?_
    refine pe_seq ?_
    refine wc_seq ?_
    refine wc_region ?_
    refine wl_ex (ex_move rfl) rfl rfl ?_
    refine wl_callS [.tmp 7] rfl ok_37 rfl (fun w hm => c_balancesN Al cl l w (((sl_arg hl rfl)).at hm)  (by first | assumption | exact debts_mono (a := 1000000000) (by decide) (by assumption))) rfl fun A1 c2 => ?_
    refine wl_ex (ex_assign rfl) rfl rfl ?_
    refine wl_ex (ex_assign rfl) rfl rfl ?_
    refine wl_nil ?_
    refine pe_seq ?_
    refine wc_ret ?_
    refine pe_ret2 rfl rfl rfl rfl (fun w' hm => isS2_mk hm (.head _ _) ?_ ?_ ?_)
    · simp [balR, c6]
    · simp [errN, c6]
    · simp [balR, c6, balI_length]

theorem c_pairsR (Al : Option Addr) (cl : Nat) (l : List Debt) (w : World) (hl : Sl w Al (encs encD l)) (hlen : l.length ≤ 1000) (hb : ∀ d ∈ l, -1000000000000 ≤ d.amt ∧ d.amt ≤ 1000000000000) :
    Cl Try.prog 41 [.slice Al l.length cl] w (IsS ((pairsI l).length) 47 3 (encs encD (pairsI l)) w) := by
  refine cl_of Try.func41 rfl Try.ntmps41 rfl (Mem.refl w) ?_
  refine wc_seq ?_
  refine wc_region ?_
  refine wl_ex (ex_assign rfl) rfl rfl ?_
  refine wl_nil ?_
  refine pe_seq ?_
  refine wc_seq ?_
  refine wc_region ?_
  refine wl_ex (ex_assign rfl) rfl rfl ?_
  refine wl_nil ?_
  refine pe_seq ?_
  refine wc_seq ?_
  refine wc_seq ?_
  refine wc_region ?_
  refine wl_ex (ex_assign rfl) rfl rfl ?_
  refine wl_nil ?_
  refine pe_seq ?_
  refine wc_block ?_
  refine wc_nilOwn 47 3 ?_
  refine wc_loop (σ := Int × (List Debt) × (Option Addr) × Nat) (fun s => [(3, .slice s.2.2.1 s.2.1.length s.2.2.2), (4, .int .i64 s.1), (0, .slice Al l.length cl)]) (fun s => [.own s.2.2.1 s.2.1.length s.2.2.2 47 3 (encs encD s.2.1)]) (fun s => (0 ≤ s.1 ∧ s.1 ≤ 8) ∧ s.2.1 = listTo (bookOf l) s.1.toNat 0) (fun s => (8 - s.1).toNat) ((0 : Int), ([] : List Debt), none, 0) (Sub.cons rfl rfl (Sub.cons rfl rfl (Sub.cons rfl rfl (Sub.nil _)))) (.cons (.head _ _) (by first | rfl | simp) (.nil _)) (by simp [listTo_zero]) ?_
  rintro ⟨a, m, A1, c1⟩ hG
  show WC _ _ _ [(3, .slice A1 m.length c1), (4, .int .i64 a), (0, .slice Al l.length cl)] [.own A1 m.length c1 47 3 (encs encD m)]
  replace hG : (0 ≤ a ∧ a ≤ 8) ∧ m = listTo (bookOf l) a.toNat 0 := hG
  obtain ⟨h1, h2⟩ := hG
  refine wc_seq ?_
  refine wc_seq ?_
  refine wc_region ?_
  refine wl_ex (ex_move rfl) rfl rfl ?_
  refine wl_ex (ex_lss rfl rfl) rfl rfl ?_
  refine wl_nil ?_
  refine pe_seq ?_
  refine wc_ite rfl (fun c8 => ?_) (fun c8 => ?_)
  · refine wc_skip ?_
    refine pe_seq ?_
    refine wc_seq ?_
    refine wc_block ?_
    refine wc_seq ?_
    refine wc_region ?_
    refine wl_ex (ex_assign rfl) rfl rfl ?_
    refine wl_nil ?_
    refine pe_seq ?_
    refine wc_block ?_
    refine wc_loop (σ := Int × (List Debt) × (Option Addr) × Nat) (fun s => [(3, .slice s.2.2.1 s.2.1.length s.2.2.2), (5, .int .i64 s.1), (0, .slice Al l.length cl), (4, .int .i64 a)]) (fun s => [.own s.2.2.1 s.2.1.length s.2.2.2 47 3 (encs encD s.2.1)]) (fun s => (0 ≤ s.1 ∧ s.1 ≤ 8) ∧ s.2.1 = listTo (bookOf l) a.toNat s.1.toNat) (fun s => (8 - s.1).toNat) (_, _, _, _) (Sub.cons rfl rfl (Sub.cons rfl rfl (Sub.cons rfl rfl (Sub.cons rfl rfl (Sub.nil _))))) (.cons (.head _ _) rfl (.nil _)) (by exact ⟨by omega, h2⟩) ?_
    rintro ⟨b, m, A1, c1⟩ hG
    show WC _ _ _ [(3, .slice A1 m.length c1), (5, .int .i64 b), (0, .slice Al l.length cl), (4, .int .i64 a)] [.own A1 m.length c1 47 3 (encs encD m)]
    replace hG : (0 ≤ b ∧ b ≤ 8) ∧ m = listTo (bookOf l) a.toNat b.toNat := hG
    obtain ⟨h3, h4⟩ := hG
    have hml := listTo_length (bookOf l) a.toNat b.toNat
    rw [← h4] at hml
    have ha := Int.toNat_of_nonneg h1.1
    have hbb := Int.toNat_of_nonneg h3.1
    refine wc_seq ?_
    refine wc_seq ?_
    refine wc_region ?_
    refine wl_ex (ex_move rfl) rfl rfl ?_
    refine wl_ex (ex_lss rfl rfl) rfl rfl ?_
    refine wl_nil ?_
    refine pe_seq ?_
    refine wc_ite rfl (fun c12 => ?_) (fun c12 => ?_)
    · refine wc_skip ?_
      refine pe_seq ?_
      refine wc_seq ?_
      refine wc_block ?_
      refine wc_seq ?_
      refine wc_region ?_
      refine wl_ex (ex_move rfl) rfl rfl ?_
      refine wl_ex (ex_move rfl) rfl rfl ?_
      refine wl_ex (ex_move rfl) rfl rfl ?_
      refine wl_callV [.tmp 15, .tmp 16, .tmp 17] rfl ok_44 rfl (fun w hm => c_owes Al cl l a b w (((sl_arg hl rfl)).at hm)  (by first | assumption | omega) (by assumption)) rfl ?_
      refine wl_ex (ex_assign rfl) rfl rfl ?_
      refine wl_nil ?_
      refine pe_seq ?_
      refine wc_cut (σ := Unit) (fun _ => [(0, .slice Al l.length cl), (3, .slice A1 m.length c1), (4, .int .i64 a), (5, .int .i64 b), (6, .int .i64 (owesI a b l)), (25, .bool (decide ((a ≠ b) ∧ (0 < owesI a b l))))]) (fun _ => [.own A1 m.length c1 47 3 (encs encD m)]) (fun _ => True) ?_ ?_
      · refine wc_region ?_
        refine wl_ex (ex_move rfl) rfl rfl ?_
        refine wl_ex (ex_move rfl) rfl rfl ?_
        refine wl_ex (ex_neq rfl rfl) rfl rfl ?_
        refine wl_ex (ex_move rfl) rfl rfl ?_
        by_cases g1 : a ≠ b
        · refine wl_pass rfl rfl rfl (decide_eq_true g1) ?_
          refine wl_ex (ex_move rfl) rfl rfl ?_
          refine wl_pass rfl rfl rfl (decide_eq_true g1) ?_
          refine wl_ex (ex_gtr rfl rfl) rfl rfl ?_
          refine wl_ex (ex_pickt rfl (decide_eq_true g1) rfl) rfl rfl ?_
          refine wl_nil ?_
          refine pe_cut () (Sub.cons rfl rfl (Sub.cons rfl rfl (Sub.cons rfl rfl (Sub.cons rfl rfl (Sub.cons rfl rfl (Sub.cons rfl (congrArg Value.bool (by first | (simp [g1]; done) | grind)) (Sub.nil _))))))) (.cons (.head _ _) rfl (.nil _)) trivial
        · refine wl_skip rfl rfl rfl (fun h => g1 (of_decide_eq_true (Value.bool.inj h))) rfl rfl ?_
          refine wl_skip rfl rfl rfl (fun h => g1 (of_decide_eq_true (Value.bool.inj h))) rfl rfl ?_
          refine wl_ex (ex_pickf rfl (decide_eq_false g1) rfl) rfl rfl ?_
          refine wl_nil ?_
          refine pe_cut () (Sub.cons rfl rfl (Sub.cons rfl rfl (Sub.cons rfl rfl (Sub.cons rfl rfl (Sub.cons rfl rfl (Sub.cons rfl (congrArg Value.bool (by first | (simp [g1]; done) | grind)) (Sub.nil _))))))) (.cons (.head _ _) rfl (.nil _)) trivial
      · rintro _ _
        show WC _ _ _ [(0, .slice Al l.length cl), (3, .slice A1 m.length c1), (4, .int .i64 a), (5, .int .i64 b), (6, .int .i64 (owesI a b l)), (25, .bool (decide ((a ≠ b) ∧ (0 < owesI a b l))))] [.own A1 m.length c1 47 3 (encs encD m)]
        refine wc_ite rfl (fun c25 => ?_) (fun c25 => ?_)
        · refine wc_region ?_
          refine wl_ex (ex_move rfl) rfl rfl ?_
          refine wl_ex (ex_move rfl) rfl rfl ?_
          refine wl_ex (ex_move rfl) rfl rfl ?_
          refine wl_ex (ex_move rfl) rfl rfl ?_
          refine wl_ex (ex_build (cells := #[.int .i64 a, .int .i64 b, .int .i64 (owesI a b l)]) [0, 1, 2] [.tmp 27, .tmp 28, .tmp 29] rfl rfl Try.underlying47 ze_47 pl_47 rfl) rfl rfl ?_
          refine wl_buildSlice [.tmp 30] rfl rfl Try.underlying24 sz_47 ze_47 rfl (by simp [Value.cells]) (by omega) (by omega) rfl fun r2 => ?_
          rw [show List.flatMap (fun x => x.cells.toList) [(.agg #[.int .i64 a, .int .i64 b, .int .i64 (owesI a b l)] : Value)] = encs encD [⟨a, b, owesI a b l⟩] from rfl]
          refine wl_appendE encD_len encD_one rfl rfl Try.underlying24 sz_47 ze_47 rfl by_47 rfl (.tail (.head _ _)) (sl_own (.head _ _)) (by rfl) (by first | rfl | simp) (by first | omega | (simp; omega)) (by first | omega | (simp; omega)) rfl fun A3 c4 => ?_
          refine wl_ex (ex_assign rfl) rfl rfl ?_
          refine wl_nil ?_
          refine pe_block _ ?_
          refine pe_seq ?_
          refine wc_region ?_
          refine wl_ex (ex_move rfl) rfl rfl ?_
          refine wl_ex (ex_add rfl rfl (by omega) (by omega)) rfl rfl ?_
          refine wl_ex (ex_assign rfl) rfl rfl ?_
          refine wl_nil ?_
          refine pe_again ⟨b + 1, m ++ ([⟨a, b, owesI a b l⟩]), A3, c4⟩ (Sub.cons rfl (by first | rfl | simp) (Sub.cons rfl rfl (Sub.cons rfl rfl (Sub.cons rfl rfl (Sub.nil _))))) (.cons (.head _ _) (by first | rfl | simp) (.nil _)) ?_ ?_
          · show (0 ≤ (b + 1) ∧ (b + 1) ≤ 8) ∧ (m ++ ([⟨a, b, owesI a b l⟩])) = listTo (bookOf l) a.toNat (b + 1).toNat
            refine ⟨by omega, ?_⟩
            have e1 : (b + 1).toNat = b.toNat + 1 := by omega
            rw [e1, listTo_snoc, ← h4, ha, hbb]
            unfold bookOf
            first | (simp only [if_pos c25]; simp [c25.2]; done) | (simp only [if_neg c25]; simp; done)
          · first | omega | (simp only []; omega)
        · refine wc_skip ?_
          refine pe_block _ ?_
          refine pe_seq ?_
          refine wc_region ?_
          refine wl_ex (ex_move rfl) rfl rfl ?_
          refine wl_ex (ex_add rfl rfl (by omega) (by omega)) rfl rfl ?_
          refine wl_ex (ex_assign rfl) rfl rfl ?_
          refine wl_nil ?_
          refine pe_again ⟨b + 1, m, A1, c1⟩ (Sub.cons rfl rfl (Sub.cons rfl rfl (Sub.cons rfl rfl (Sub.cons rfl rfl (Sub.nil _))))) (.cons (.head _ _) rfl (.nil _)) ?_ ?_
          · show (0 ≤ (b + 1) ∧ (b + 1) ≤ 8) ∧ m = listTo (bookOf l) a.toNat (b + 1).toNat
            refine ⟨by omega, ?_⟩
            have e1 : (b + 1).toNat = b.toNat + 1 := by omega
            rw [e1, listTo_snoc, ← h4, ha, hbb]
            unfold bookOf
            first | (simp only [if_pos c25]; simp [c25.2]; done) | (simp only [if_neg c25]; simp; done)
          · first | omega | (simp only []; omega)
    · refine wc_exit ?_
      refine pe_seq_exit ?_
      refine pe_loop_exit ?_
      refine pe_block_exit ?_
      refine pe_block _ ?_
      refine pe_seq ?_
      refine wc_region ?_
      refine wl_ex (ex_move rfl) rfl rfl ?_
      refine wl_ex (ex_add rfl rfl (by omega) (by omega)) rfl rfl ?_
      refine wl_ex (ex_assign rfl) rfl rfl ?_
      refine wl_nil ?_
      refine pe_again ⟨a + 1, m, A1, c1⟩ (Sub.cons rfl rfl (Sub.cons rfl rfl (Sub.cons rfl rfl (Sub.nil _)))) (.cons (.head _ _) rfl (.nil _)) ?_ ?_
      · show (0 ≤ (a + 1) ∧ (a + 1) ≤ 8) ∧ m = listTo (bookOf l) (a + 1).toNat 0
        refine ⟨by omega, ?_⟩
        have e1 : (a + 1).toNat = a.toNat + 1 := by omega
        have e2 : b.toNat = 8 := by omega
        rw [e1, ← listTo_row, ← e2]
        exact h4
      · first | omega | (simp only []; omega)
  · refine wc_exit ?_
    refine pe_seq_exit ?_
    refine pe_loop_exit ?_
    refine pe_block_exit ?_
    refine pe_seq ?_
    refine wc_seq ?_
    refine wc_region ?_
    refine wl_ex (ex_move rfl) rfl rfl ?_
    refine wl_ex (ex_assign rfl) rfl rfl ?_
    refine wl_nil ?_
    refine pe_seq ?_
    refine wc_ret ?_
    refine pe_ret1 rfl rfl rfl (fun w' hm => isS_mk hm (.head _ _) ?_ ?_)
    · rw [h2, show a.toNat = 8 by omega, listTo_all]; rfl
    · rw [h2, show a.toNat = 8 by omega, listTo_all]; rfl

end Go.Proofs.Ytolfgdkdghhidaa
