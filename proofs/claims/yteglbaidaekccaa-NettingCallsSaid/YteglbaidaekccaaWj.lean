/- Walks. -/
import Derived.Test.YteglbaidaekccaaWi
set_option linter.unusedVariables false
set_option linter.unusedSimpArgs false
set_option maxRecDepth 10000
namespace Go.Proofs.Yteglbaidaekccaa
open Go Go.RowKit

def Cy1C (n : Nat) : Prop := ∀ (c : Int) (rp rs rb re bb : Nat) (A : Option Addr) (cap : Nat) (p : List Int) (size : Int) (f : Book) (w : World) (hk : Hold [.row rp 41 [.slice A p.length cap], .own A p.length cap 3 1 (encs encI p)] w) (hs : RowB w (blks [.row rp 41 [.slice A p.length cap], .own A p.length cap 3 1 (encs encI p)]) rs 3 [.int .i64 size]) (hb : RowB w (blks [.row rp 41 [.slice A p.length cap], .own A p.length cap 3 1 (encs encI p)]) rb 61 [.pointer (some ⟨bb, 0, none⟩)]) (hbb : RowB w (blks [.row rp 41 [.slice A p.length cap], .own A p.length cap 3 1 (encs encI p)]) bb 80 (bookL f)) (hre : RowB w (blks [.row rp 41 [.slice A p.length cap], .own A p.length cap 3 1 (encs encI p)]) re 69 [.func (.func 40) [].toArray [.pointer (some ⟨rp, 0, none⟩), .pointer (some ⟨rs, 0, none⟩), .pointer (some ⟨rb, 0, none⟩), .pointer (some ⟨re, 0, none⟩)].toArray]) (hf : Norm f) (hc : 0 ≤ c ∧ c ≤ 7) (he : ∀ x ∈ p, 0 ≤ x ∧ x ≤ 7) (hsz : (p.length : Int) + 1 + n = size) (h8 : size ≤ 8), Cl Try.prog 40 [.int .i64 c, .pointer (some ⟨rp, 0, none⟩), .pointer (some ⟨rs, 0, none⟩), .pointer (some ⟨rb, 0, none⟩), .pointer (some ⟨re, 0, none⟩)] w (IsT (γ := (Option Addr) × Nat × (List Int)) [.row rp 41 [.slice A p.length cap], .own A p.length cap 3 1 (encs encI p)] (fun s => s.2.2 = (ext f n (p ++ [c])).getD p) (fun s => .bool (ext f n (p ++ [c])).isSome) (fun s => [.row rp 41 [.slice s.1 s.2.2.length s.2.1], .own s.1 s.2.2.length s.2.1 3 1 (encs encI s.2.2)]) w)
theorem ag_41 : isAggT Try.prog 41 = some false := by kernel_rfl
theorem ag_61 : isAggT Try.prog 61 = some false := by kernel_rfl
theorem ag_69 : isAggT Try.prog 69 = some false := by kernel_rfl
theorem sz_41 : szT Try.prog 41 = some 1 := by kernel_rfl
theorem ok_40 : callOK Try.prog 40 = true := by kernel_rfl
theorem ok_41 : callOK Try.prog 41 = true := by kernel_rfl

theorem c_cyc1 (n : Nat) (ih : ∀ m, m + 1 = n → Cy1C m) (c : Int) (rp rs rb re bb : Nat) (A : Option Addr) (cap : Nat) (p : List Int) (size : Int) (f : Book) (w : World) (hk : Hold [.row rp 41 [.slice A p.length cap], .own A p.length cap 3 1 (encs encI p)] w) (hs : RowB w (blks [.row rp 41 [.slice A p.length cap], .own A p.length cap 3 1 (encs encI p)]) rs 3 [.int .i64 size]) (hb : RowB w (blks [.row rp 41 [.slice A p.length cap], .own A p.length cap 3 1 (encs encI p)]) rb 61 [.pointer (some ⟨bb, 0, none⟩)]) (hbb : RowB w (blks [.row rp 41 [.slice A p.length cap], .own A p.length cap 3 1 (encs encI p)]) bb 80 (bookL f)) (hre : RowB w (blks [.row rp 41 [.slice A p.length cap], .own A p.length cap 3 1 (encs encI p)]) re 69 [.func (.func 40) [].toArray [.pointer (some ⟨rp, 0, none⟩), .pointer (some ⟨rs, 0, none⟩), .pointer (some ⟨rb, 0, none⟩), .pointer (some ⟨re, 0, none⟩)].toArray]) (hf : Norm f) (hc : 0 ≤ c ∧ c ≤ 7) (he : ∀ x ∈ p, 0 ≤ x ∧ x ≤ 7) (hsz : (p.length : Int) + 1 + n = size) (h8 : size ≤ 8) :
    Cl Try.prog 40 [.int .i64 c, .pointer (some ⟨rp, 0, none⟩), .pointer (some ⟨rs, 0, none⟩), .pointer (some ⟨rb, 0, none⟩), .pointer (some ⟨re, 0, none⟩)] w (IsT (γ := (Option Addr) × Nat × (List Int)) [.row rp 41 [.slice A p.length cap], .own A p.length cap 3 1 (encs encI p)] (fun s => s.2.2 = (ext f n (p ++ [c])).getD p) (fun s => .bool (ext f n (p ++ [c])).isSome) (fun s => [.row rp 41 [.slice s.1 s.2.2.length s.2.1], .own s.1 s.2.2.length s.2.1 3 1 (encs encI s.2.2)]) w) := by
  refine cl_of Try.func40 rfl Try.ntmps40 rfl (hk.mem) ?_
  have hpl : (p ++ [c]).length = p.length + 1 := by simp
  have hall : ∀ x ∈ p ++ [c], 0 ≤ x ∧ x ≤ 7 := fun x hx => (List.mem_append.1 hx).elim (he x) (fun h => by rw [List.mem_singleton] at h; omega)
  have hls := lsI_snoc p c
  refine wc_seq ?_
  refine wc_region ?_
  refine wl_ex (ex_assign rfl) rfl rfl ?_
  refine wl_nil ?_
  refine pe_seq ?_
  refine wc_seq ?_
  refine wc_region ?_
  refine wl_ex (ex_load rfl ag_41 (rd_row1 (.head _ _) rfl)) rfl rfl ?_
  refine wl_ex (ex_move rfl) rfl rfl ?_
  refine wl_buildSlice [.tmp 9] rfl rfl Try.underlying41 sz_3 ze_3 rfl (by simp [Value.cells]) (by omega) (by omega) rfl fun r1 => ?_
  rw [show List.flatMap (fun x => x.cells.toList) ([Value.int .i64 c] : List Value) = encs encI [c] from rfl]
  refine wl_appendE encI_len encI_one rfl rfl Try.underlying41 sz_3 ze_3 rfl by_3 rfl (.tail (.tail (.head _ _))) (sl_own (.head _ _)) (by rfl) (by first | rfl | simp) (by first | omega | (simp; omega)) (by first | omega | (simp; omega)) rfl fun A2 c3 => ?_
  refine wl_store rfl rfl rfl sz_41 (.tail (.tail (.head _ _))) (by simp) ?_
  refine wl_nil ?_
  refine pe_seq ?_
  refine wc_seq ?_
  obtain ⟨d_p_c__0, hd_p_c__0⟩ := get_if (p ++ ([c])) 0
  refine wc_cut (σ := Unit) (fun _ => [(0, .int .i64 c), (1, .pointer (some ⟨rp, 0, none⟩)), (2, .pointer (some ⟨rs, 0, none⟩)), (3, .pointer (some ⟨rb, 0, none⟩)), (4, .pointer (some ⟨re, 0, none⟩)), (27, .bool (decide ((((p ++ ([c])).length : Int) = size) ∧ (0 < f c d_p_c__0))))]) (fun _ => [.row rp 41 [.slice A2 ((p ++ ([c])).length) c3], .own A2 ((p ++ ([c])).length) c3 3 1 (encs encI (p ++ ([c]))), .own (some ⟨r1, 0, none⟩) 1 1 3 1 (encs encI [c])]) (fun _ => True) ?_ ?_
  · refine wc_draw [.row rp 41 [.slice A2 ((p ++ ([c])).length) c3], .own A2 ((p ++ ([c])).length) c3 3 1 (encs encI (p ++ ([c]))), .own (some ⟨r1, 0, none⟩) 1 1 3 1 (encs encI [c])] [(0, true), (1, true), (2, true), (3, true), (4, true), (5, true), (6, true), (7, true), (8, true), (9, true), (10, true), (11, true), (12, true), (13, true), (14, true), (15, true)] mixed (by kernel_rfl) (.cons (.head _ _) rfl (.cons (.head _ _) rfl (.cons (.head _ _) rfl (.nil _)))) ?_
    refine cn_ex rfl (ex_load rfl ag_41 (rd_row1 (.head _ _) rfl)) rfl rfl ?_
    refine cn_ex rfl (ex_len Try.underlying41 rfl) rfl rfl ?_
    refine cn_ex rfl (ex_load rfl ag_3 (rd_fix1 hs.1 hs.2 rfl)) rfl rfl ?_
    refine cn_ex rfl (ex_eql rfl rfl) rfl rfl ?_
    refine cn_ex rfl (ex_move rfl) rfl rfl ?_
    by_cases g4 : ((p ++ ([c])).length : Int) = size
    · refine cn_exg rfl (ex_load rfl ag_61 (rd_fix1 hb.1 hb.2 rfl)) rfl rfl rfl (decide_eq_true g4) rfl rfl ?_
      refine cn_exg rfl (ex_move rfl) rfl rfl rfl (decide_eq_true g4) rfl rfl ?_
      refine cn_exg rfl (ex_load rfl ag_41 (rd_row1 (.head _ _) rfl)) rfl rfl rfl (decide_eq_true g4) rfl rfl ?_
      refine cn_exg rfl (ex_indexAddr rfl rfl Try.underlying41 sz_3 (sl_own (.tail (.head _ _))) (by omega) (by omega) (enc_pos encI_len (by omega))) rfl rfl rfl (decide_eq_true g4) rfl rfl ?_
      refine cn_exg rfl (ex_load rfl ag_3 (rd_int (sl_own (.tail (.head _ _))) (hd_p_c__0 (by omega) (by omega)))) rfl rfl rfl (decide_eq_true g4) rfl rfl ?_
      refine cn_exg rfl (ex_nilCheck rfl) rfl rfl rfl (decide_eq_true g4) rfl rfl ?_
      have hdd := hall _ (mem_at (hd_p_c__0 (by omega) (by omega)))
      refine cn_exg rfl (ex_indexAddrA (off' := (c).toNat * 8) rfl rfl Try.underlying80 sz_65 (by omega) (by omega) (by simp)) rfl rfl rfl (decide_eq_true g4) rfl rfl ?_
      refine cn_exg rfl (ex_indexAddrA (off' := (c).toNat * 8 + (d_p_c__0).toNat * 1) rfl rfl Try.underlying65 sz_3 (by omega) (by omega) (by simp)) rfl rfl rfl (decide_eq_true g4) rfl rfl ?_
      refine cn_exg rfl (ex_load rfl ag_3 (rd_fix1 hbb.1 hbb.2 (book_get _ _ _ (by omega) (by omega)))) rfl rfl rfl (decide_eq_true g4) rfl rfl ?_
      refine cn_exg rfl (ex_gtr rfl rfl) rfl rfl rfl (decide_eq_true g4) rfl rfl ?_
      refine cn_ex rfl (ex_pickt rfl (decide_eq_true g4) rfl) rfl rfl ?_
      refine cn_nil ?_
      refine pe_cut () (Sub.cons rfl rfl (Sub.cons rfl rfl (Sub.cons rfl rfl (Sub.cons rfl rfl (Sub.cons rfl rfl (Sub.cons rfl (congrArg Value.bool (by first | (simp [g4]; done) | grind)) (Sub.nil _))))))) (.cons (.head _ _) rfl (.cons (.head _ _) rfl (.cons (.head _ _) rfl (.nil _)))) trivial
    · refine cn_skip rfl rfl rfl rfl (fun h => g4 (of_decide_eq_true (Value.bool.inj h))) rfl ?_
      refine cn_skip rfl rfl rfl rfl (fun h => g4 (of_decide_eq_true (Value.bool.inj h))) rfl ?_
      refine cn_skip rfl rfl rfl rfl (fun h => g4 (of_decide_eq_true (Value.bool.inj h))) rfl ?_
      refine cn_skip rfl rfl rfl rfl (fun h => g4 (of_decide_eq_true (Value.bool.inj h))) rfl ?_
      refine cn_skip rfl rfl rfl rfl (fun h => g4 (of_decide_eq_true (Value.bool.inj h))) rfl ?_
      refine cn_skip rfl rfl rfl rfl (fun h => g4 (of_decide_eq_true (Value.bool.inj h))) rfl ?_
      refine cn_skip rfl rfl rfl rfl (fun h => g4 (of_decide_eq_true (Value.bool.inj h))) rfl ?_
      refine cn_skip rfl rfl rfl rfl (fun h => g4 (of_decide_eq_true (Value.bool.inj h))) rfl ?_
      refine cn_skip rfl rfl rfl rfl (fun h => g4 (of_decide_eq_true (Value.bool.inj h))) rfl ?_
      refine cn_skip rfl rfl rfl rfl (fun h => g4 (of_decide_eq_true (Value.bool.inj h))) rfl ?_
      refine cn_ex rfl (ex_pickf rfl (decide_eq_false g4) rfl) rfl rfl ?_
      refine cn_nil ?_
      refine pe_cut () (Sub.cons rfl rfl (Sub.cons rfl rfl (Sub.cons rfl rfl (Sub.cons rfl rfl (Sub.cons rfl rfl (Sub.cons rfl (congrArg Value.bool (by first | (simp [g4]; done) | grind)) (Sub.nil _))))))) (.cons (.head _ _) rfl (.cons (.head _ _) rfl (.cons (.head _ _) rfl (.nil _)))) trivial
  · rintro _ _
    show WC _ _ _ [(0, .int .i64 c), (1, .pointer (some ⟨rp, 0, none⟩)), (2, .pointer (some ⟨rs, 0, none⟩)), (3, .pointer (some ⟨rb, 0, none⟩)), (4, .pointer (some ⟨re, 0, none⟩)), (27, .bool (decide ((((p ++ ([c])).length : Int) = size) ∧ (0 < f c d_p_c__0))))] [.row rp 41 [.slice A2 ((p ++ ([c])).length) c3], .own A2 ((p ++ ([c])).length) c3 3 1 (encs encI (p ++ ([c]))), .own (some ⟨r1, 0, none⟩) 1 1 3 1 (encs encI [c])]
    refine wc_ite rfl (fun c27 => ?_) (fun c27 => ?_)
    · refine wc_seq ?_
      refine wc_region ?_
      refine wl_ex (ex_assign rfl) rfl rfl ?_
      refine wl_nil ?_
      refine pe_seq ?_
      refine wc_ret ?_
      refine pe_seq_ret ?_
      refine pe_ret1 rfl rfl rfl (fun w' hm => ⟨(A2, c3, (p ++ [c])), ?_, ?_, hm.ent (.cons (.head _ _) (by first | rfl | simp) (.cons (.head _ _) (by first | rfl | simp) (.nil _)))⟩)
      all_goals have e : n = 0 := by omega
      all_goals subst e
      all_goals have hh := hdI_of (hd_p_c__0 (by omega) (by omega))
      all_goals have hx : ext f 0 (p ++ [c]) = some (p ++ [c]) := by unfold ext; rw [if_pos (by rw [hls, hh]; exact c27.2)]
      · rw [hx]; rfl
      · rw [hx]; rfl
    · refine wc_skip ?_
      refine pe_seq ?_
      refine wc_seq ?_
      refine wc_seq ?_
      refine wc_region ?_
      refine wl_ex (ex_load rfl ag_41 (rd_row1 (.head _ _) rfl)) rfl rfl ?_
      refine wl_ex (ex_indexAddr rfl rfl Try.underlying41 sz_3 (sl_own (.tail (.head _ _))) (by omega) (by omega) (enc_pos encI_len (by omega))) rfl rfl ?_
      refine wl_ex (ex_load rfl ag_3 (rd_int (sl_own (.tail (.head _ _))) (hd_p_c__0 (by omega) (by omega)))) rfl rfl ?_
      have hdd := hall _ (mem_at (hd_p_c__0 (by omega) (by omega)))
      refine wl_ex (ex_add rfl rfl (by omega) (by omega)) rfl rfl ?_
      refine wl_ex (ex_assign rfl) rfl rfl ?_
      refine wl_nil ?_
      refine pe_seq ?_
      refine wc_block ?_
      refine wc_loop (σ := Int × (Option Addr) × Nat) (fun s => [(7, .int .i64 s.1), (0, .int .i64 c), (1, .pointer (some ⟨rp, 0, none⟩)), (2, .pointer (some ⟨rs, 0, none⟩)), (3, .pointer (some ⟨rb, 0, none⟩)), (4, .pointer (some ⟨re, 0, none⟩))]) (fun s => [.row rp 41 [.slice s.2.1 ((p ++ [c]).length) s.2.2], .own s.2.1 ((p ++ [c]).length) s.2.2 3 1 (encs encI (p ++ [c]))]) (fun s => (0 ≤ s.1 ∧ s.1 ≤ 8 ∧ hdI (p ++ [c]) < s.1) ∧ ∀ m, n = m + 1 → ∀ j : Nat, j < s.1.toNat → ext1 f m (p ++ [c]) j = none) (fun s => (8 - s.1).toNat) (_, _, _) (Sub.cons rfl rfl (Sub.cons rfl rfl (Sub.cons rfl rfl (Sub.cons rfl rfl (Sub.cons rfl rfl (Sub.cons rfl rfl (Sub.nil _))))))) (.cons (.head _ _) (by first | rfl | simp) (.cons (.head _ _) (by first | rfl | simp) (.nil _))) (by have hh := hdI_of (hd_p_c__0 (by omega) (by omega)); exact ⟨by omega, fun m _ j hj => ext1_low _ _ _ _ (by omega)⟩) ?_
      rintro ⟨k, A1, c1⟩ hG
      show WC _ _ _ [(7, .int .i64 k), (0, .int .i64 c), (1, .pointer (some ⟨rp, 0, none⟩)), (2, .pointer (some ⟨rs, 0, none⟩)), (3, .pointer (some ⟨rb, 0, none⟩)), (4, .pointer (some ⟨re, 0, none⟩))] [.row rp 41 [.slice A1 ((p ++ [c]).length) c1], .own A1 ((p ++ [c]).length) c1 3 1 (encs encI (p ++ [c]))]
      replace hG : (0 ≤ k ∧ k ≤ 8 ∧ hdI (p ++ [c]) < k) ∧ ∀ m, n = m + 1 → ∀ j : Nat, j < k.toNat → ext1 f m (p ++ [c]) j = none := hG
      obtain ⟨h1, h2⟩ := hG
      refine wc_seq ?_
      refine wc_cut (σ := Unit) (fun _ => [(0, .int .i64 c), (1, .pointer (some ⟨rp, 0, none⟩)), (2, .pointer (some ⟨rs, 0, none⟩)), (3, .pointer (some ⟨rb, 0, none⟩)), (4, .pointer (some ⟨re, 0, none⟩)), (7, .int .i64 k), (39, .bool (decide ((k < 8) ∧ (((p ++ [c]).length : Int) < size))))]) (fun _ => [.row rp 41 [.slice A1 ((p ++ [c]).length) c1], .own A1 ((p ++ [c]).length) c1 3 1 (encs encI (p ++ [c]))]) (fun _ => True) ?_ ?_
      · refine wc_region ?_
        refine wl_ex (ex_move rfl) rfl rfl ?_
        refine wl_ex (ex_lss rfl rfl) rfl rfl ?_
        refine wl_ex (ex_move rfl) rfl rfl ?_
        by_cases g5 : k < 8
        · refine wl_pass rfl rfl rfl (decide_eq_true g5) ?_
          refine wl_ex (ex_load rfl ag_41 (rd_row1 (.head _ _) rfl)) rfl rfl ?_
          refine wl_pass rfl rfl rfl (decide_eq_true g5) ?_
          refine wl_ex (ex_len Try.underlying41 rfl) rfl rfl ?_
          refine wl_pass rfl rfl rfl (decide_eq_true g5) ?_
          refine wl_ex (ex_load rfl ag_3 (rd_fix1 hs.1 hs.2 rfl)) rfl rfl ?_
          refine wl_pass rfl rfl rfl (decide_eq_true g5) ?_
          refine wl_ex (ex_lss rfl rfl) rfl rfl ?_
          refine wl_ex (ex_pickt rfl (decide_eq_true g5) rfl) rfl rfl ?_
          refine wl_nil ?_
          refine pe_cut () (Sub.cons rfl rfl (Sub.cons rfl rfl (Sub.cons rfl rfl (Sub.cons rfl rfl (Sub.cons rfl rfl (Sub.cons rfl rfl (Sub.cons rfl (congrArg Value.bool (by first | (simp [g5]; done) | grind)) (Sub.nil _)))))))) (.cons (.head _ _) rfl (.cons (.head _ _) rfl (.nil _))) trivial
        · refine wl_skip rfl rfl rfl (fun h => g5 (of_decide_eq_true (Value.bool.inj h))) rfl rfl ?_
          refine wl_skip rfl rfl rfl (fun h => g5 (of_decide_eq_true (Value.bool.inj h))) rfl rfl ?_
          refine wl_skip rfl rfl rfl (fun h => g5 (of_decide_eq_true (Value.bool.inj h))) rfl rfl ?_
          refine wl_skip rfl rfl rfl (fun h => g5 (of_decide_eq_true (Value.bool.inj h))) rfl rfl ?_
          refine wl_ex (ex_pickf rfl (decide_eq_false g5) rfl) rfl rfl ?_
          refine wl_nil ?_
          refine pe_cut () (Sub.cons rfl rfl (Sub.cons rfl rfl (Sub.cons rfl rfl (Sub.cons rfl rfl (Sub.cons rfl rfl (Sub.cons rfl rfl (Sub.cons rfl (congrArg Value.bool (by first | (simp [g5]; done) | grind)) (Sub.nil _)))))))) (.cons (.head _ _) rfl (.cons (.head _ _) rfl (.nil _))) trivial
      · rintro _ _
        show WC _ _ _ [(0, .int .i64 c), (1, .pointer (some ⟨rp, 0, none⟩)), (2, .pointer (some ⟨rs, 0, none⟩)), (3, .pointer (some ⟨rb, 0, none⟩)), (4, .pointer (some ⟨re, 0, none⟩)), (7, .int .i64 k), (39, .bool (decide ((k < 8) ∧ (((p ++ [c]).length : Int) < size))))] [.row rp 41 [.slice A1 ((p ++ [c]).length) c1], .own A1 ((p ++ [c]).length) c1 3 1 (encs encI (p ++ [c]))]
        refine wc_ite rfl (fun c39 => ?_) (fun c39 => ?_)
        · obtain ⟨m, hnm⟩ : ∃ m, n = m + 1 := ⟨n - 1, by omega⟩
          refine wc_skip ?_
          refine pe_seq ?_
          refine wc_seq ?_
          refine wc_block ?_
          refine wc_seq ?_
          refine wc_region ?_
          refine wl_ex (ex_load rfl ag_61 (rd_fix1 hb.1 hb.2 rfl)) rfl rfl ?_
          refine wl_ex (ex_move rfl) rfl rfl ?_
          refine wl_ex (ex_move rfl) rfl rfl ?_
          refine wl_ex (ex_nilCheck rfl) rfl rfl ?_
          refine wl_ex (ex_indexAddrA (off' := (c).toNat * 8) rfl rfl Try.underlying80 sz_65 (by omega) (by omega) (by simp)) rfl rfl ?_
          refine wl_ex (ex_indexAddrA (off' := (c).toNat * 8 + (k).toNat * 1) rfl rfl Try.underlying65 sz_3 (by omega) (by omega) (by simp)) rfl rfl ?_
          refine wl_ex (ex_load rfl ag_3 (rd_fix1 hbb.1 hbb.2 (book_get _ _ _ (by omega) (by omega)))) rfl rfl ?_
          refine wl_ex (ex_gtr rfl rfl) rfl rfl ?_
          refine wl_ex (ex_move rfl) rfl rfl ?_
          by_cases g6 : 0 < f c k
          · refine wl_pass rfl rfl rfl (decide_eq_true g6) ?_
            refine wl_ex (ex_load rfl ag_41 (rd_row1 (.head _ _) rfl)) rfl rfl ?_
            refine wl_pass rfl rfl rfl (decide_eq_true g6) ?_
            refine wl_ex (ex_move rfl) rfl rfl ?_
            refine wl_pass rfl rfl rfl (decide_eq_true g6) ?_
            refine wl_callV [.tmp 51, .tmp 52] rfl ok_41 rfl (fun w hm => c_ContainsI A1 c1 (p ++ [c]) k w (((sl_own (.tail (.head _ _)))).at hm)  (by first | omega | assumption | (simp; omega))) rfl ?_
            refine wl_pass rfl rfl rfl (decide_eq_true g6) ?_
            refine wl_ex (ex_not rfl) rfl rfl ?_
            refine wl_ex (ex_pickt rfl (decide_eq_true g6) rfl) rfl rfl ?_
            refine wl_ex (ex_move rfl) rfl rfl ?_
            by_cases g7 : ¬ (k ∈ (p ++ [c]))
            · refine wl_pass rfl rfl rfl (decide_eq_true g7) ?_
              refine wl_ex (ex_load rfl ag_69 (rd_fix1 hre.1 hre.2 rfl)) rfl rfl ?_
              refine wl_pass rfl rfl rfl (decide_eq_true g7) ?_
              refine wl_ex (ex_move rfl) rfl rfl ?_
              refine wl_pass rfl rfl rfl (decide_eq_true g7) ?_
              refine wl_callcT [.tmp 58] rfl rfl ok_40 rfl (.cons (.head _ _) (.cons (.head _ _) (.nil _))) (fun w hm => ih m hnm.symm k rp rs rb re bb A1 c1 (p ++ [c]) size f w hm.hold (hs.atB hm) (hb.atB hm) (hbb.atB hm) (hre.atB hm) (by assumption) (by omega) (by assumption) (by rw [hpl]; omega) (by omega)) rfl ?_
              rintro ⟨A8, c9, l10⟩ hG11
              replace hG11 : l10 = (ext f m ((p ++ [c]) ++ [k])).getD (p ++ [c]) := hG11
              show WL _ _ _ _ ((59, .bool ((ext f m ((p ++ [c]) ++ [k])).isSome)) :: _) [.row rp 41 [.slice A8 l10.length c9], .own A8 l10.length c9 3 1 (encs encI l10)]
              refine wl_ex (ex_pickt rfl (decide_eq_true g7) rfl) rfl rfl ?_
              refine wl_nil ?_
              refine pe_seq ?_
              refine wc_if rfl (fun c60 => ?_) (fun c60 => ?_)
              · refine wc_seq ?_
                refine wc_region ?_
                refine wl_ex (ex_assign rfl) rfl rfl ?_
                refine wl_nil ?_
                refine pe_seq ?_
                refine wc_ret ?_
                refine pe_block_ret _ ?_
                refine pe_seq_ret ?_
                refine pe_loop_ret ?_
                refine pe_block_ret _ ?_
                refine pe_seq_ret ?_
                obtain ⟨o1, ho1⟩ := Option.isSome_iff_exists.1 c60
                have hx : ext f n (p ++ [c]) = some o1 := by rw [hnm]; exact ext_some (by omega) (by omega) h1.2.2 (by rw [hls]; assumption) (by assumption) (h2 m hnm) ho1
                have hl5 := hG11
                rw [ho1] at hl5
                refine pe_ret1 rfl rfl rfl (fun w' hm => ⟨(A8, c9, l10), ?_, ?_, hm.ent (.cons (.head _ _) rfl (.cons (.head _ _) rfl (.nil _)))⟩)
                · rw [hx]; exact hl5
                · rw [hx]; rfl
              · have hl5 : l10 = p ++ [c] := by rw [hG11, show ext f m (p ++ [c] ++ [k]) = none by simpa using c60]; rfl
                subst hl5
                refine wc_skip ?_
                refine pe_block _ ?_
                refine pe_seq ?_
                refine wc_region ?_
                refine wl_ex (ex_move rfl) rfl rfl ?_
                refine wl_ex (ex_add rfl rfl (by omega) (by omega)) rfl rfl ?_
                refine wl_ex (ex_assign rfl) rfl rfl ?_
                refine wl_nil ?_
                refine pe_again ⟨k + 1, A8, c9⟩ (Sub.cons rfl rfl (Sub.cons rfl rfl (Sub.cons rfl rfl (Sub.cons rfl rfl (Sub.cons rfl rfl (Sub.cons rfl rfl (Sub.nil _))))))) (.cons (.head _ _) (by first | rfl | simp) (.cons (.head _ _) (by first | rfl | simp) (.nil _))) ?_ ?_
                · show (0 ≤ (k + 1) ∧ (k + 1) ≤ 8 ∧ hdI (p ++ [c]) < (k + 1)) ∧ ∀ m, n = m + 1 → ∀ j : Nat, j < (k + 1).toNat → ext1 f m (p ++ [c]) j = none
                  refine ⟨by omega, fun m2 hm2 => ?_⟩
                  have e : m2 = m := by omega
                  subst e
                  refine ext_next (by omega) (h2 _ hm2) ?_
                  first | exact .inr (by simpa using c60) | (refine .inl ?_; rw [hls]; grind)
                · first | omega | (simp only []; omega)
            · refine wl_skip rfl rfl rfl (fun h => g7 (of_decide_eq_true (Value.bool.inj h))) rfl rfl ?_
              refine wl_skip rfl rfl rfl (fun h => g7 (of_decide_eq_true (Value.bool.inj h))) rfl rfl ?_
              refine wl_skip rfl rfl rfl (fun h => g7 (of_decide_eq_true (Value.bool.inj h))) rfl rfl ?_
              refine wl_ex (ex_pickf rfl (decide_eq_false g7) rfl) rfl rfl ?_
              refine wl_nil ?_
              refine pe_seq ?_
              refine wc_iff rfl ?_
              refine wc_skip ?_
              refine pe_block _ ?_
              refine pe_seq ?_
              refine wc_region ?_
              refine wl_ex (ex_move rfl) rfl rfl ?_
              refine wl_ex (ex_add rfl rfl (by omega) (by omega)) rfl rfl ?_
              refine wl_ex (ex_assign rfl) rfl rfl ?_
              refine wl_nil ?_
              refine pe_again ⟨k + 1, A1, c1⟩ (Sub.cons rfl rfl (Sub.cons rfl rfl (Sub.cons rfl rfl (Sub.cons rfl rfl (Sub.cons rfl rfl (Sub.cons rfl rfl (Sub.nil _))))))) (.cons (.head _ _) rfl (.cons (.head _ _) rfl (.nil _))) ?_ ?_
              · show (0 ≤ (k + 1) ∧ (k + 1) ≤ 8 ∧ hdI (p ++ [c]) < (k + 1)) ∧ ∀ m, n = m + 1 → ∀ j : Nat, j < (k + 1).toNat → ext1 f m (p ++ [c]) j = none
                refine ⟨by omega, fun m2 hm2 => ?_⟩
                have e : m2 = m := by omega
                subst e
                refine ext_next (by omega) (h2 _ hm2) ?_
                first | exact .inr (by simpa using c60) | (refine .inl ?_; rw [hls]; grind)
              · first | omega | (simp only []; omega)
          · refine wl_skip rfl rfl rfl (fun h => g6 (of_decide_eq_true (Value.bool.inj h))) rfl rfl ?_
            refine wl_skip rfl rfl rfl (fun h => g6 (of_decide_eq_true (Value.bool.inj h))) rfl rfl ?_
            refine wl_skip rfl rfl rfl (fun h => g6 (of_decide_eq_true (Value.bool.inj h))) rfl rfl ?_
            refine wl_skip rfl rfl rfl (fun h => g6 (of_decide_eq_true (Value.bool.inj h))) rfl rfl ?_
            refine wl_ex (ex_pickf rfl (decide_eq_false g6) rfl) rfl rfl ?_
            refine wl_ex (ex_move rfl) rfl rfl ?_
            refine wl_skip rfl rfl rfl (by simp) rfl rfl ?_
            refine wl_skip rfl rfl rfl (by simp) rfl rfl ?_
            refine wl_skip rfl rfl rfl (by simp) rfl rfl ?_
            refine wl_ex (ex_pickf rfl rfl rfl) rfl rfl ?_
            refine wl_nil ?_
            refine pe_seq ?_
            refine wc_iff rfl ?_
            refine wc_skip ?_
            refine pe_block _ ?_
            refine pe_seq ?_
            refine wc_region ?_
            refine wl_ex (ex_move rfl) rfl rfl ?_
            refine wl_ex (ex_add rfl rfl (by omega) (by omega)) rfl rfl ?_
            refine wl_ex (ex_assign rfl) rfl rfl ?_
            refine wl_nil ?_
            refine pe_again ⟨k + 1, A1, c1⟩ (Sub.cons rfl rfl (Sub.cons rfl rfl (Sub.cons rfl rfl (Sub.cons rfl rfl (Sub.cons rfl rfl (Sub.cons rfl rfl (Sub.nil _))))))) (.cons (.head _ _) rfl (.cons (.head _ _) rfl (.nil _))) ?_ ?_
            · show (0 ≤ (k + 1) ∧ (k + 1) ≤ 8 ∧ hdI (p ++ [c]) < (k + 1)) ∧ ∀ m, n = m + 1 → ∀ j : Nat, j < (k + 1).toNat → ext1 f m (p ++ [c]) j = none
              refine ⟨by omega, fun m2 hm2 => ?_⟩
              have e : m2 = m := by omega
              subst e
              refine ext_next (by omega) (h2 _ hm2) ?_
              first | exact .inr (by simpa using c60) | (refine .inl ?_; rw [hls]; grind)
            · first | omega | (simp only []; omega)
        · refine wc_exit ?_
          refine pe_seq_exit ?_
          refine pe_loop_exit ?_
          refine pe_block_exit ?_
          refine pe_seq ?_
          refine wc_seq ?_
          refine wc_region ?_
          refine wl_own (.tail (.head _ _)) fun hcap hcap2 hspot => ?_
          refine wl_shrink (.tail (.head _ _)) p.length (by simp) (take_snoc encI_len p c) ?_
          refine wl_ex (ex_load rfl ag_41 (rd_row1 (.tail (.head _ _)) rfl)) rfl rfl ?_
          refine wl_ex (ex_load rfl ag_41 (rd_row1 (.tail (.head _ _)) rfl)) rfl rfl ?_
          refine wl_ex (ex_len Try.underlying41 rfl) rfl rfl ?_
          refine wl_ex (ex_sub rfl rfl (by omega) (by omega)) rfl rfl ?_
          refine wl_ex (ex_sliceH rfl rfl Try.underlying41 sz_3 (by omega) (by omega) hspot) rfl rfl ?_
          refine wl_store rfl rfl rfl sz_41 (.tail (.head _ _)) (by simp) ?_
          refine wl_nil ?_
          refine pe_seq ?_
          refine wc_seq ?_
          refine wc_region ?_
          refine wl_ex (ex_assign rfl) rfl rfl ?_
          refine wl_nil ?_
          refine pe_seq ?_
          refine wc_ret ?_
          have hx : ext f n (p ++ [c]) = none := by
            rcases n with _ | m
            · have hh := hdI_of (hd_p_c__0 (by omega) (by omega))
              unfold ext; rw [if_neg (by rw [hls, hh]; exact fun h => c27 ⟨by omega, h⟩)]
            · exact ext_none (fun j hj => h2 m rfl j (by omega))
          refine pe_ret1 rfl rfl rfl (fun w' hm => ⟨(A1, c1, p), ?_, ?_, hm.ent (.cons (.head _ _) (by first | rfl | simp) (.cons (.head _ _) rfl (.nil _)))⟩)
          · rw [hx]; rfl
          · rw [hx]; rfl

theorem cy1C (n : Nat) : Cy1C n := by
  induction n with
  | zero =>
    intro c rp rs rb re bb A cap p size f w hk hs hb hbb hre hf hc he hsz h8
    exact c_cyc1 0 (fun m hm => by omega) c rp rs rb re bb A cap p size f w hk hs hb hbb hre hf hc he hsz h8
  | succ n ih =>
    intro c rp rs rb re bb A cap p size f w hk hs hb hbb hre hf hc he hsz h8
    exact c_cyc1 (n + 1) (fun m hm => by rw [show m = n by omega]; exact ih) c rp rs rb re bb A cap p size f w hk hs hb hbb hre hf hc he hsz h8

end Go.Proofs.Yteglbaidaekccaa
