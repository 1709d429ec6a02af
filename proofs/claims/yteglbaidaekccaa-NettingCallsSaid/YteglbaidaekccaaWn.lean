/- Walks. -/
import Derived.Test.YteglbaidaekccaaWm
import Derived.Test.YteglbaidaekccaaE10
import Derived.Test.YteglbaidaekccaaP39
set_option linter.unusedVariables false
set_option linter.unusedSimpArgs false
set_option maxRecDepth 10000
namespace Go.Proofs.Yteglbaidaekccaa
open Go Go.RowKit
theorem dropI_nat (a c : Nat) : dropI (a : Int) (powI (c : Int)) = ((dropS a (2 ^ c) : Nat) : Int) := by
  unfold dropI powI dropS; simp only [Int.toNat_natCast]
theorem orI_nat (a c : Nat) : orI (a : Int) (powI (c : Int)) = ((a ||| 2 ^ c : Nat) : Int) := by
  unfold orI powI; simp only [Int.toNat_natCast]
theorem andI_prev {x rest : Nat} (h : x ≠ 0) : andI ((x : Int) - 1) (rest : Int) = ((((x - 1) &&& rest) : Nat) : Int) := by
  unfold andI
  rw [show ((x : Int) - 1).toNat = x - 1 by omega, Int.toNat_natCast]
theorem getn_lt {l : List Nat} {j x : Nat} (h : l[j]? = some x) : j < l.length := (List.getElem?_eq_some_iff.1 h).1


theorem c_sets1 (all c : Nat) (l s1 s2 : Nat) (Inv : Nat → World → Prop) (w : World) (hI : ∀ j w, Inv j w → RowAt w s1 3 [.int .i64 (all : Int)] ∧ RowAt w s2 3 [.int .i64 (c : Int)]) (hU : ∀ j w w', Inv j w → Upd [] w w' → Inv j w') (hY : ∀ j x w, Inv j w → (subsL (dropS all (2 ^ c)))[j]? = some x → YCl Try.prog l (.int .i64 ((x ||| 2 ^ c : Nat) : Int)) w (fun v w' => v = .bool true ∧ Inv (j + 1) w')) (h0 : Inv 0 w) (h8 : all < 256) (hc : c < 8) :
    Cl Try.prog 63 [.func (.yield l) #[] #[], .pointer (some ⟨s1, 0, none⟩), .pointer (some ⟨s2, 0, none⟩)] w (fun v w' => v = .tuple #[] ∧ Inv (subsL (dropS all (2 ^ c))).length w') := by
  refine cl_of Try.func63 rfl Try.ntmps63 rfl (Mem.refl w) ?_
  have hf1 : RowB w [] s1 3 [.int .i64 (all : Int)] := ⟨(hI 0 w h0).1, by simp⟩
  have hf2 : RowB w [] s2 3 [.int .i64 (c : Int)] := ⟨(hI 0 w h0).2, by simp⟩
  have hp := powI_bd (c := (c : Int)) (by omega)
  have hr8 : dropS all (2 ^ c) < 256 := Nat.lt_of_le_of_lt (dropS_le _ _) h8
  have hsf := subs_facts hr8
  refine wc_seq ?_
  refine wc_draw [] [(0, true), (1, true), (2, true), (3, true), (4, true)] mixed (by kernel_rfl) (.nil _) ?_
  refine cn_ex rfl (ex_load rfl ag_3 (rd_fix1 hf1.1 hf1.2 rfl)) rfl rfl ?_
  refine cn_ex rfl (ex_load rfl ag_3 (rd_fix1 hf2.1 hf2.2 rfl)) rfl rfl ?_
  refine cn_ex rfl (ex_shl1 rfl rfl (by omega)) rfl rfl ?_
  refine cn_ex rfl (ex_andNot rfl rfl (by omega) (by omega)) rfl rfl ?_
  rw [dropI_nat]
  refine cn_ex rfl (ex_assign rfl) rfl rfl ?_
  refine cn_nil ?_
  refine pe_seq ?_
  refine wc_seq ?_
  refine wc_region ?_
  refine wl_ex (ex_move rfl) rfl rfl ?_
  refine wl_ex (ex_assign rfl) rfl rfl ?_
  refine wl_nil ?_
  refine pe_seq ?_
  refine wc_block ?_
  refine wc_loopS (σ := Nat × Nat) (fun s => [(5, .int .i64 (s.2 : Int)), (0, .func (.yield l) #[] #[]), (2, .pointer (some ⟨s2, 0, none⟩)), (4, .int .i64 ((dropS all (2 ^ c) : Nat) : Int))]) (fun s w => Inv s.1 w ∧ (subsL (dropS all (2 ^ c)))[s.1]? = some s.2) (fun s => (subsL (dropS all (2 ^ c))).length - s.1) (0, _) (Sub.cons rfl rfl (Sub.cons rfl rfl (Sub.cons rfl rfl (Sub.cons rfl rfl (Sub.nil _))))) (fun w hm => by exact ⟨hU 0 _ w h0 hm.upd, hsf.1⟩) ?_
  rintro ⟨j, x⟩ w hG
  show WC _ _ _ [(5, .int .i64 (x : Int)), (0, .func (.yield l) #[] #[]), (2, .pointer (some ⟨s2, 0, none⟩)), (4, .int .i64 ((dropS all (2 ^ c) : Nat) : Int))] []
  replace hG : Inv j w ∧ (subsL (dropS all (2 ^ c)))[j]? = some x := hG
  obtain ⟨h1, h2⟩ := hG
  have hf1 : RowB w [] s1 3 [.int .i64 (all : Int)] := ⟨(hI j w h1).1, by simp⟩
  have hf2 : RowB w [] s2 3 [.int .i64 (c : Int)] := ⟨(hI j w h1).2, by simp⟩
  have hx8 : x < 256 := (mem_subs.1 (List.mem_of_getElem? h2)).1
  have hjl := getn_lt h2
  refine wc_seq ?_
  refine wc_block ?_
  refine wc_seq ?_
  refine wc_region ?_
  refine wl_ex (ex_move rfl) rfl rfl ?_
  refine wl_ex (ex_move rfl) rfl rfl ?_
  refine wl_ex (ex_load rfl ag_3 (rd_fix1 hf2.1 hf2.2 rfl)) rfl rfl ?_
  refine wl_ex (ex_shl1 rfl rfl (by omega)) rfl rfl ?_
  refine wl_ex (ex_or rfl rfl (by omega) (by omega)) rfl rfl ?_
  rw [orI_nat]
  refine wl_yield rfl rfl rfl (fun w hm => hY j x w (hU j _ w h1 hm.upd) h2) rfl ?_
  rintro w _ ⟨rfl, h1⟩
  refine wl_ex (ex_notb rfl) rfl rfl ?_
  refine wl_ex (ex_move rfl) rfl rfl ?_
  refine wl_pass rfl rfl rfl rfl ?_
  refine wl_ex (ex_move rfl) rfl rfl ?_
  refine wl_pass rfl rfl rfl rfl ?_
  refine wl_ex (ex_eql rfl rfl) rfl rfl ?_
  refine wl_ex (ex_pickf rfl rfl rfl) rfl rfl ?_
  refine wl_nil ?_
  refine pe_seq ?_
  refine wc_ite rfl (fun c25 => ?_) (fun c25 => ?_)
  · refine wc_ret ?_
    refine pe_block_ret _ ?_
    refine pe_seq_ret ?_
    refine pe_loopS_ret ?_
    refine pe_block_ret _ ?_
    refine pe_ret0 rfl rfl (fun w' hm => ⟨rfl, ?_⟩)
    rw [← (hsf.2 j x h2).1 (by omega)]
    exact hU _ _ _ h1 hm.upd
  · refine wc_skip ?_
    refine pe_block _ ?_
    refine pe_seq ?_
    refine wc_region ?_
    refine wl_ex (ex_move rfl) rfl rfl ?_
    refine wl_ex (ex_sub rfl rfl (by omega) (by omega)) rfl rfl ?_
    refine wl_ex (ex_move rfl) rfl rfl ?_
    refine wl_ex (ex_and rfl rfl (by omega) (by omega)) rfl rfl ?_
    rw [andI_prev (by omega)]
    refine wl_ex (ex_assign rfl) rfl rfl ?_
    refine wl_nil ?_
    refine pe_againS rfl rfl ⟨j + 1, (x - 1) &&& dropS all (2 ^ c)⟩ (Sub.cons rfl rfl (Sub.cons rfl rfl (Sub.cons rfl rfl (Sub.cons rfl rfl (Sub.nil _))))) (fun w hm => ?_) ?_
    · show Inv (j + 1) w ∧ (subsL (dropS all (2 ^ c)))[(j + 1)]? = some ((x - 1) &&& dropS all (2 ^ c))
      exact ⟨hU _ _ _ h1 hm.upd, (hsf.2 j x h2).2 (by omega)⟩
    · first | omega | (simp only []; omega)

end Go.Proofs.Yteglbaidaekccaa
