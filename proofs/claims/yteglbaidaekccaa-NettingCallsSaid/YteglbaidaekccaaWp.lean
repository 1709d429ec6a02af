/- Walks. -/
import Derived.Test.YteglbaidaekccaaWo
import Derived.Test.YteglbaidaekccaaP39
set_option linter.unusedVariables false
set_option linter.unusedSimpArgs false
set_option maxRecDepth 10000
namespace Go.Proofs.Yteglbaidaekccaa
open Go Go.RowKit
theorem tab_set (g : Nat → Int) (i : Nat) (v : Int) (h : i < 256) : (tabL g).set ((i : Int).toNat * 1) (.int .i64 v) = tabL (setT g i v) := by
  rw [Int.toNat_natCast, Nat.mul_one]
  apply List.ext_getElem?
  intro j
  by_cases hj : j < 256
  · by_cases e : i = j
    · subst e
      rw [List.getElem?_set_self (by rw [tabL_length]; exact hj)]
      simp [tabL, setT, hj]
    · rw [List.getElem?_set_ne e]
      simp only [tabL, List.getElem?_map]
      rw [List.getElem?_range hj]
      simp only [Option.map_some, setT]
      rw [if_neg (fun h => e h.symm)]
  · rw [List.getElem?_eq_none (by simp [tabL_length]; omega), List.getElem?_eq_none (by simp [tabL_length]; omega)]
theorem tab_zero (l : List Int) : List.replicate 256 (Value.int .i64 0) = tabL (tb l (2 ^ 0)) := by
  rw [tb_one]; unfold tabL
  apply List.ext_getElem?
  intro j
  by_cases hj : j < 256
  · rw [List.getElem?_replicate, if_pos hj, List.getElem?_map, List.getElem?_range hj]; rfl
  · rw [List.getElem?_eq_none (by rw [List.length_replicate]; omega), List.getElem?_eq_none (by rw [List.length_map, List.length_range]; omega)]
theorem tab_all (l : List Int) : tabL (tb l (2 ^ 8)) = tabL (sumS l) := by
  unfold tabL
  apply List.map_congr_left
  intro k hk
  rw [tb_lt l _ (List.mem_range.1 hk)]
theorem powI_nat (c : Nat) : powI (c : Int) = ((2 ^ c : Nat) : Int) := by unfold powI; simp only [Int.toNat_natCast]
theorem pow_le (c : Nat) (h : c < 8) : 2 ^ c ≤ 128 := by
  have : 2 ^ c ≤ 2 ^ 7 := Nat.pow_le_pow_right (by omega) (by omega)
  omega
theorem ze_83 : zeT Try.prog 83 = some (.agg (List.replicate 256 (.int .i64 0)).toArray) := by kernel_rfl

theorem c_grouped (Al : Option Addr) (cl : Nat) (l : List Int) (w : World) (hl : Sl w Al (encs encI l)) (hgood : goodI l) :
    Cl Try.prog 32 [.slice Al l.length cl] w (fun v w' => ∃ A cap, v = .slice A (setsI (grpS (sumS l) (nzM l))).length cap ∧ Mem w [] [] w' ∧ SlB w' (List.range w.heap.size) A (encs encI (setsI (grpS (sumS l) (nzM l))))) := by
  refine cl_of Try.func32 rfl Try.ntmps32 rfl (Mem.refl w) ?_
  have hl8 := hgood.2.1
  have hsb := sumS_bd l (m := 1000000000000) (by omega) hgood.1
  refine wc_seq ?_
  refine wc_region ?_
  refine wl_ex (ex_assign rfl) rfl rfl ?_
  refine wl_nil ?_
  refine pe_seq ?_
  refine wc_seq ?_
  refine wc_region ?_
  refine wl_alloc (cs := (List.replicate 256 (.int .i64 0))) ze_83 rfl rfl fun r1 => ?_
  refine wl_nil ?_
  refine pe_seq ?_
  refine wc_seq ?_
  refine wc_region ?_
  refine wl_ex (ex_assign rfl) rfl rfl ?_
  refine wl_nil ?_
  refine pe_seq ?_
  refine wc_seq ?_
  refine wc_seq ?_
  refine wc_region ?_
  refine wl_ex (ex_move rfl) rfl rfl ?_
  refine wl_ex (ex_len Try.underlying41 rfl) rfl rfl ?_
  refine wl_ex (ex_move rfl) rfl rfl ?_
  refine wl_nil ?_
  refine pe_seq ?_
  refine wc_block ?_
  refine wc_loop (σ := Nat) (fun s => [(4, .int .i64 ((nzTo l s : Nat) : Int)), (10, .int .i64 (s : Int)), (3, .pointer (some ⟨r1, 0, none⟩)), (8, .slice Al l.length cl), (9, .int .i64 (l.length : Int))]) (fun s => [.row r1 83 (tabL (tb l (2 ^ s)))]) (fun s => s ≤ 8) (fun s => 8 - s) 0 (Sub.cons rfl rfl (Sub.cons rfl rfl (Sub.cons rfl rfl (Sub.cons rfl rfl (Sub.cons rfl rfl (Sub.nil _)))))) (.cons (.head _ _) (congrArg (Hp.row _ 83) (tab_zero l)) (.nil _)) (by omega) ?_
  rintro c hG
  show WC _ _ _ [(4, .int .i64 ((nzTo l c : Nat) : Int)), (10, .int .i64 (c : Int)), (3, .pointer (some ⟨r1, 0, none⟩)), (8, .slice Al l.length cl), (9, .int .i64 (l.length : Int))] [.row r1 83 (tabL (tb l (2 ^ c)))]
  replace hG : c ≤ 8 := hG
  have h1 := hG
  have hpc := powI_nat c
  have hz := nzTo_lt l c
  have hz8 : 2 ^ c ≤ 2 ^ 8 := Nat.pow_le_pow_right (by omega) h1
  refine wc_seq ?_
  refine wc_region ?_
  refine wl_ex (ex_lss rfl rfl) rfl rfl ?_
  refine wl_nil ?_
  refine pe_seq ?_
  refine wc_seq ?_
  refine wc_ite rfl (fun c11 => ?_) (fun c11 => ?_)
  · have hpl := pow_le c (by omega)
    refine wc_skip ?_
    refine pe_seq ?_
    refine wc_seq ?_
    refine wc_block ?_
    refine wc_seq ?_
    refine wc_region ?_
    refine wl_ex (ex_move rfl) rfl rfl ?_
    refine wl_ex (ex_indexAddr rfl rfl Try.underlying41 sz_3 (sl_arg hl rfl) (by omega) (by omega) (enc_pos encI_len (by omega))) rfl rfl ?_
    obtain ⟨d_l__c_Int, hd_l__c_Int⟩ := get_if l (c : Int)
    refine wl_ex (ex_load rfl ag_3 (rd_int (sl_arg hl rfl) (hd_l__c_Int (by omega) (by omega)))) rfl rfl ?_
    refine wl_ex (ex_assign rfl) rfl rfl ?_
    refine wl_ex (ex_assign rfl) rfl rfl ?_
    refine wl_nil ?_
    refine pe_seq ?_
    refine wc_seq ?_
    refine wc_seq ?_
    refine wc_region ?_
    have hdc := hd_l__c_Int (by omega) (by omega)
    rw [Int.toNat_natCast] at hdc
    refine wl_ex (ex_move rfl) rfl rfl ?_
    refine wl_ex (ex_shl1 rfl rfl (by omega)) rfl rfl ?_
    refine wl_ex (ex_move rfl) rfl rfl ?_
    refine wl_nil ?_
    refine pe_seq ?_
    refine wc_block ?_
    refine wc_loop (σ := Nat) (fun s => [(17, .int .i64 (s : Int)), (3, .pointer (some ⟨r1, 0, none⟩)), (4, .int .i64 ((nzTo l c : Nat) : Int)), (5, .int .i64 (c : Int)), (6, .int .i64 d_l__c_Int), (8, .slice Al l.length cl), (9, .int .i64 (l.length : Int)), (10, .int .i64 (c : Int)), (16, .int .i64 (powI (c : Int)))]) (fun s => [.row r1 83 (tabL (tb l (2 ^ c + s)))]) (fun s => s ≤ 2 ^ c) (fun s => 2 ^ c - s) 0 (Sub.cons rfl rfl (Sub.cons rfl rfl (Sub.cons rfl rfl (Sub.cons rfl rfl (Sub.cons rfl rfl (Sub.cons rfl rfl (Sub.cons rfl rfl (Sub.cons rfl rfl (Sub.cons rfl rfl (Sub.nil _)))))))))) (.cons (.head _ _) rfl (.nil _)) (by omega) ?_
    rintro k hG
    show WC _ _ _ [(17, .int .i64 (k : Int)), (3, .pointer (some ⟨r1, 0, none⟩)), (4, .int .i64 ((nzTo l c : Nat) : Int)), (5, .int .i64 (c : Int)), (6, .int .i64 d_l__c_Int), (8, .slice Al l.length cl), (9, .int .i64 (l.length : Int)), (10, .int .i64 (c : Int)), (16, .int .i64 (powI (c : Int)))] [.row r1 83 (tabL (tb l (2 ^ c + k)))]
    replace hG : k ≤ 2 ^ c := hG
    have h2 := hG
    refine wc_seq ?_
    refine wc_region ?_
    refine wl_ex (ex_lss rfl rfl) rfl rfl ?_
    refine wl_nil ?_
    refine pe_seq ?_
    refine wc_seq ?_
    refine wc_ite rfl (fun c18 => ?_) (fun c18 => ?_)
    · have hkp : k < 2 ^ c := by omega
      refine wc_skip ?_
      refine pe_seq ?_
      refine wc_seq ?_
      refine wc_block ?_
      refine wc_seq ?_
      refine wc_region ?_
      refine wl_ex (ex_move rfl) rfl rfl ?_
      refine wl_ex (ex_assign rfl) rfl rfl ?_
      refine wl_nil ?_
      refine pe_seq ?_
      refine wc_draw [] [(0, true), (1, true), (2, true), (3, true), (4, true), (5, true), (7, true), (6, false), (8, true), (9, true), (10, false)] mixed (by kernel_rfl) (.nil _) ?_
      refine cn_ex rfl (ex_move rfl) rfl rfl ?_
      refine cn_ex rfl (ex_move rfl) rfl rfl ?_
      refine cn_ex rfl (ex_shl1 rfl rfl (by omega)) rfl rfl ?_
      refine cn_ex rfl (ex_or rfl rfl (by omega) (by omega)) rfl rfl ?_
      rw [orI_nat, or_pow hkp]
      refine cn_ex rfl (ex_move rfl) rfl rfl ?_
      refine cn_ex rfl (ex_indexAddrA (off' := ((k : Int)).toNat * 1) rfl rfl Try.underlying83 sz_3 (by omega) (by omega) (by simp)) rfl rfl ?_
      refine cn_ex rfl (ex_move rfl) rfl rfl ?_
      refine cn_tail rfl ?_
      refine wl_ex (ex_load rfl ag_3 (rd_row1 (.head _ _) ((tab_getn _ k (by omega)).trans (by rw [tb_lt l _ (show k < 2 ^ c + k by omega)])))) rfl rfl ?_
      refine cn_back (.nil _) ?_
      have hsbk := hsb k
      have hdb := hgood.1 _ (mem_at hdc)
      refine cn_ex rfl (ex_add rfl rfl (by omega) (by omega)) rfl rfl ?_
      refine cn_ex rfl (ex_indexAddrA (off' := (((2 ^ c + k : Nat) : Int)).toNat * 1) rfl rfl Try.underlying83 sz_3 (by omega) (by omega) (by simp)) rfl rfl ?_
      refine cn_tail rfl ?_
      refine wl_store rfl rfl rfl sz_3 (.head _ _) (by simp only [tabL_length]; omega) ?_
      rw [tab_set _ (2 ^ c + k) _ (by omega), setT_tb2 l hkp (by omega) hdc]
      refine cn_back (.nil _) ?_
      refine cn_nil ?_
      refine pe_block _ ?_
      refine pe_seq ?_
      refine wc_region ?_
      refine wl_ex (ex_add rfl rfl (by omega) (by omega)) rfl rfl ?_
      refine wl_ex (ex_move rfl) rfl rfl ?_
      refine wl_nil ?_
      refine pe_again (k + 1) (Sub.cons rfl (congrArg (Value.int .i64) (by omega)) (Sub.cons rfl rfl (Sub.cons rfl rfl (Sub.cons rfl rfl (Sub.cons rfl rfl (Sub.cons rfl rfl (Sub.cons rfl rfl (Sub.cons rfl rfl (Sub.cons rfl rfl (Sub.nil _)))))))))) (.cons (.head _ _) rfl (.nil _)) ?_ ?_
      · show (k + 1) ≤ 2 ^ c
        omega
      · first | omega | (simp only []; omega)
    · refine wc_exit ?_
      refine pe_seq_exit ?_
      refine pe_loop_exit ?_
      refine pe_block_exit ?_
      refine pe_seq ?_
      refine wc_seq ?_
      refine wc_region ?_
      refine wl_ex (ex_move rfl) rfl rfl ?_
      refine wl_ex (ex_neq rfl rfl) rfl rfl ?_
      refine wl_nil ?_
      refine pe_seq ?_
      refine wc_ite rfl (fun c32 => ?_) (fun c32 => ?_)
      · refine wc_region ?_
        refine wl_ex (ex_move rfl) rfl rfl ?_
        refine wl_ex (ex_move rfl) rfl rfl ?_
        refine wl_ex (ex_shl1 rfl rfl (by omega)) rfl rfl ?_
        refine wl_ex (ex_or rfl rfl (by omega) (by omega)) rfl rfl ?_
        refine wl_ex (ex_assign rfl) rfl rfl ?_
        refine wl_nil ?_
        refine pe_block _ ?_
        refine pe_seq ?_
        refine wc_region ?_
        refine wl_ex (ex_add rfl rfl (by omega) (by omega)) rfl rfl ?_
        refine wl_ex (ex_move rfl) rfl rfl ?_
        refine wl_nil ?_
        refine pe_again (c + 1) (Sub.cons rfl (congrArg (Value.int .i64) (by first | (rw [orI_nat, nz_yes hdc c32]; done) | (rw [nz_no hdc c32]; done))) (Sub.cons rfl (congrArg (Value.int .i64) (by omega)) (Sub.cons rfl rfl (Sub.cons rfl rfl (Sub.cons rfl rfl (Sub.nil _)))))) (.cons (.head _ _) (by rw [show 2 ^ c + k = 2 ^ (c + 1) by rw [Nat.pow_succ]; omega]) (.nil _)) ?_ ?_
        · show (c + 1) ≤ 8
          omega
        · first | omega | (simp only []; omega)
      · refine wc_skip ?_
        refine pe_block _ ?_
        refine pe_seq ?_
        refine wc_region ?_
        refine wl_ex (ex_add rfl rfl (by omega) (by omega)) rfl rfl ?_
        refine wl_ex (ex_move rfl) rfl rfl ?_
        refine wl_nil ?_
        refine pe_again (c + 1) (Sub.cons rfl (congrArg (Value.int .i64) (by first | (rw [orI_nat, nz_yes hdc c32]; done) | (rw [nz_no hdc c32]; done))) (Sub.cons rfl (congrArg (Value.int .i64) (by omega)) (Sub.cons rfl rfl (Sub.cons rfl rfl (Sub.cons rfl rfl (Sub.nil _)))))) (.cons (.head _ _) (by rw [show 2 ^ c + k = 2 ^ (c + 1) by rw [Nat.pow_succ]; omega]) (.nil _)) ?_ ?_
        · show (c + 1) ≤ 8
          omega
        · first | omega | (simp only []; omega)
  · refine wc_exit ?_
    refine pe_seq_exit ?_
    refine pe_loop_exit ?_
    refine pe_block_exit ?_
    refine pe_seq ?_
    refine wc_seq ?_
    refine wc_region ?_
    refine wl_makeMap rfl fun rm => ?_
    refine wl_ex (ex_move rfl) rfl rfl ?_
    rw [show c = 8 by omega, tab_all]
    refine wl_callW [.tmp 3, .tmp 38, .tmp 39] rfl ok_43 rfl (fun w2 hm => grC (nzTo l 8) r1 rm (sumS l) ([rm, r1] ++ List.range w.heap.size) #[] 0 w2 (Hold.one (hm.get (.head _ _))) (row_pickB (K := [.obj rm (.map #[] 0)]) (hm.perm (Pick.perm (.head _ _))) (.head _ _)) (fun t ht => ?_) (by simp) ⟨fun e he => by simp at he, fun e he => by simp at he⟩ (by have := nzTo_lt l 8; omega)) rfl ?_
    · rcases List.mem_append.1 ht with h | h
      · have := hm.blks_lt t (by simp only [blks, Hp.blk, List.filterMap_cons, List.filterMap_nil, List.mem_cons, List.not_mem_nil, or_false] at h ⊢; grind); exact this
      · exact Nat.lt_of_lt_of_le (List.mem_range.1 h) hm.upd.size
    rintro w2 v w3 hm ⟨es3, ck3, A3, cap3, rfl, hm3, hK3, hB3⟩
    have m5 := Mem.callT (K := [.obj rm (.map #[] 0)]) (hm.perm (Pick.perm (.head _ _))) hm3
    refine ⟨_, m5, ?_⟩
    refine wl_ex (ex_assign rfl) rfl rfl ?_
    refine wl_nil ?_
    refine pe_seq ?_
    refine wc_ret ?_
    refine pe_ret1 rfl rfl rfl (fun w' hm => ⟨A3, cap3, rfl, (m5.un hm).ent (.nil _), ((hB3.upd hm.upd ?_).less (fun r hr => List.mem_append.2 (.inr hr)))⟩)
    intro r hr
    refine List.mem_append.2 (.inl ?_)
    exact hr

end Go.Proofs.Yteglbaidaekccaa
