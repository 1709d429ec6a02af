/- Walks. -/
import Derived.Test.YteglbaidaekccaaWk
import Derived.Test.YteglbaidaekccaaP39
set_option linter.unusedVariables false
set_option linter.unusedSimpArgs false
set_option maxRecDepth 10000
namespace Go.Proofs.Yteglbaidaekccaa
open Go Go.RowKit
theorem list_bd {F : Book} (h : Norm F) : ∀ d ∈ listI F, -1000000000000 ≤ d.amt ∧ d.amt ≤ 1000000000000 := fun d hd => by
  have h1 := mem_list hd
  have h2 := h.bd d.frm d.to
  omega
theorem filt_take {α β : Type} {g : α → Option β} {l : List α} {k : Nat} {d : α} (h : l[k]? = some d) : (l.take (k + 1)).filterMap g = (l.take k).filterMap g ++ (g d).toList := by
  rw [List.take_add_one, h, List.filterMap_append]
  cases hg : g d <;> simp [hg]


theorem c_Round (Al : Option Addr) (cl : Nat) (l : List Debt) (w : World) (hl : Sl w Al (encs encD l)) (hlen : l.length ≤ 1000) :
    Cl Try.prog 11 [.slice Al l.length cl] w (IsS2 ((rndR l).length) 39 3 (encs encD (rndR l)) (.int .i64 (errN l)) w) := by
  refine cl_of Try.func11 rfl Try.ntmps11 rfl (Mem.refl w) ?_
  refine wc_seq ?_
  refine wc_region ?_
  refine wl_ex (ex_assign rfl) rfl rfl ?_
  refine wl_ex (ex_assign rfl) rfl rfl ?_
  refine wl_nil ?_
  refine pe_seq ?_
  refine wc_seq ?_
  refine wc_seq ?_
  refine wc_region ?_
  refine wl_ex (ex_move rfl) rfl rfl ?_
  refine wl_callV [.tmp 12] rfl ok_19 rfl (fun w hm => c_Valid Al cl l w (((sl_arg hl rfl)).at hm)  (by first | omega | assumption)) rfl ?_
  refine wl_ex (ex_not rfl) rfl rfl ?_
  refine wl_nil ?_
  refine pe_seq ?_
  refine wc_ite rfl (fun c14 => ?_) (fun c14 => ?_)
  · refine wc_seq ?_
    refine wc_region ?_
    refine wl_ex (ex_assign rfl) rfl rfl ?_
    refine wl_ex (ex_assign rfl) rfl rfl ?_
    refine wl_nil ?_
    refine pe_seq ?_
    refine wc_ret ?_
    refine pe_seq_ret ?_
    refine pe_nilOwn 39 3 ?_
    refine pe_ret2 rfl rfl rfl rfl (fun w' hm => isS2_mk hm (.head _ _) ?_ ?_ ?_)
    · simp [rndR, c14, encs]
    · simp [errN, c14]
    · simp [rndR, c14]
  · have c14 := Decidable.not_not.1 c14
    refine wc_skip ?_
    refine pe_seq ?_
    refine wc_seq ?_
    refine wc_region ?_
    refine wl_ex (ex_move rfl) rfl rfl ?_
    refine wl_callR [.tmp 15] rfl ok_24 rfl (fun w hm => c_open Al cl l w (((sl_arg hl rfl)).at hm)  (by first | assumption)) rfl fun r1 _ => ?_
    refine wl_ex (ex_assign rfl) rfl rfl ?_
    refine wl_nil ?_
    refine pe_seq ?_
    refine wc_block ?_
    refine wc_loop (σ := Book) (fun s => [(4, .pointer (some ⟨r1, 0, none⟩))]) (fun s => [.row r1 80 (bookL s)]) (fun s => Norm s ∧ ∃ m, (listI s).length ≤ m ∧ roundS 64 (bookOf l) = roundS m s) (fun s => (listI s).length) (bookOf l) (Sub.cons rfl rfl (Sub.nil _)) (.cons (.head _ _) rfl (.nil _)) (by exact ⟨norm_book c14, 64, list_le _, rfl⟩) ?_
    rintro F hG
    show WC _ _ _ [(4, .pointer (some ⟨r1, 0, none⟩))] [.row r1 80 (bookL F)]
    replace hG : Norm F ∧ ∃ m, (listI F).length ≤ m ∧ roundS 64 (bookOf l) = roundS m F := hG
    obtain ⟨hF, m, hm1, hm2⟩ := hG
    refine wc_block ?_
    refine wc_seq ?_
    refine wc_region ?_
    refine wl_ex (ex_move rfl) rfl rfl ?_
    refine wl_callS2 [.tmp 18] rfl ok_25 rfl (fun w hm => c_cycle r1 F w (hm.rowAt (.head _ _))  (by first | assumption | exact norm_book (by assumption))) rfl fun A2 c3 => ?_
    refine wl_ex (ex_move rfl) rfl rfl ?_
    refine wl_ex (ex_extract rfl rfl) rfl rfl ?_
    refine wl_ex (ex_extract rfl rfl) rfl rfl ?_
    refine wl_ex (ex_assign rfl) rfl rfl ?_
    refine wl_ex (ex_assign rfl) rfl rfl ?_
    refine wl_nil ?_
    refine pe_seq ?_
    refine wc_seq ?_
    refine wc_seq ?_
    refine wc_region ?_
    refine wl_ex (ex_move rfl) rfl rfl ?_
    refine wl_ex (ex_notb rfl) rfl rfl ?_
    refine wl_nil ?_
    refine pe_seq ?_
    refine wc_if rfl (fun c23 => ?_) (fun c23 => ?_)
    · refine wc_seq ?_
      refine wc_region ?_
      refine wl_ex (ex_move rfl) rfl rfl ?_
      refine wl_callS [.tmp 24] rfl ok_26 rfl (fun w hm => c_list r1 F w (hm.rowAt (.tail (.head _ _)))  (by first | assumption | exact book_bound (by assumption) | exact Norm.bd (by assumption))) rfl fun A4 c5 => ?_
      refine wl_ex (ex_assign rfl) rfl rfl ?_
      refine wl_ex (ex_assign rfl) rfl rfl ?_
      refine wl_nil ?_
      refine pe_seq ?_
      refine wc_ret ?_
      refine pe_seq_ret ?_
      refine pe_block_ret _ ?_
      refine pe_loop_ret ?_
      refine pe_block_ret _ ?_
      have hcs : cycS F = none := by simpa using c23
      have hrr : rndR l = listI F := by unfold rndR roundI; rw [if_pos c14, hm2, round_none hcs]
      refine pe_ret2 rfl rfl rfl rfl (fun w' hm => isS2_mk hm (.head _ _) ?_ ?_ ?_)
      · rw [hrr]
      · simp [errN, c14]
      · rw [hrr]
    · obtain ⟨c, hc⟩ := Option.isSome_iff_exists.1 (show (cycS F).isSome = true by simpa using c23)
      rw [show cycL (cycS F) = c by rw [hc]; rfl]
      have hcy := cycF hc
      have hcl := hcy.len
      refine wc_skip ?_
      refine pe_seq ?_
      refine wc_seq ?_
      refine wc_region ?_
      refine wl_ex (ex_assign rfl) rfl rfl ?_
      refine wl_nil ?_
      refine pe_seq ?_
      refine wc_seq ?_
      refine wc_seq ?_
      refine wc_region ?_
      refine wl_ex (ex_move rfl) rfl rfl ?_
      refine wl_ex (ex_len Try.underlying41 rfl) rfl rfl ?_
      refine wl_ex (ex_move rfl) rfl rfl ?_
      refine wl_nil ?_
      refine pe_seq ?_
      refine wc_block ?_
      refine wc_loop (σ := Int × Int) (fun s => [(7, .int .i64 s.2), (28, .int .i64 s.1), (4, .pointer (some ⟨r1, 0, none⟩)), (5, .slice A2 c.length c3), (26, .slice A2 c.length c3), (27, .int .i64 (c.length : Int))]) (fun s => [.own A2 c.length c3 3 1 (encs encI c), .row r1 80 (bookL F)]) (fun s => 0 ≤ s.1 ∧ s.1 ≤ (c.length : Int) ∧ s.2 = leastTo F c s.1.toNat) (fun s => ((c.length : Int) - s.1).toNat) (_, _) (Sub.cons rfl rfl (Sub.cons rfl rfl (Sub.cons rfl rfl (Sub.cons rfl rfl (Sub.cons rfl rfl (Sub.cons rfl rfl (Sub.nil _))))))) (.cons (.head _ _) rfl (.cons (.head _ _) rfl (.nil _))) (by simp [leastTo]) ?_
      rintro ⟨i, v⟩ hG
      show WC _ _ _ [(7, .int .i64 v), (28, .int .i64 i), (4, .pointer (some ⟨r1, 0, none⟩)), (5, .slice A2 c.length c3), (26, .slice A2 c.length c3), (27, .int .i64 (c.length : Int))] [.own A2 c.length c3 3 1 (encs encI c), .row r1 80 (bookL F)]
      replace hG : 0 ≤ i ∧ i ≤ (c.length : Int) ∧ v = leastTo F c i.toNat := hG
      obtain ⟨h1, h2, h3⟩ := hG
      refine wc_seq ?_
      refine wc_region ?_
      refine wl_ex (ex_lss rfl rfl) rfl rfl ?_
      refine wl_nil ?_
      refine pe_seq ?_
      refine wc_seq ?_
      refine wc_ite rfl (fun c29 => ?_) (fun c29 => ?_)
      · have hmo1 := Int.emod_nonneg (i + 1) (b := (c.length : Int)) (by omega)
        have hmo2 := Int.emod_lt_of_pos (i + 1) (b := (c.length : Int)) (by omega)
        refine wc_skip ?_
        refine pe_seq ?_
        refine wc_seq ?_
        refine wc_block ?_
        refine wc_seq ?_
        refine wc_region ?_
        refine wl_ex (ex_move rfl) rfl rfl ?_
        refine wl_ex (ex_indexAddr rfl rfl Try.underlying41 sz_3 (sl_own (.head _ _)) (by omega) (by omega) (enc_pos encI_len (by omega))) rfl rfl ?_
        obtain ⟨d_c_i, hd_c_i⟩ := get_if c i
        refine wl_ex (ex_load rfl ag_3 (rd_int (sl_own (.head _ _)) (hd_c_i (by omega) (by omega)))) rfl rfl ?_
        refine wl_ex (ex_assign rfl) rfl rfl ?_
        refine wl_ex (ex_assign rfl) rfl rfl ?_
        refine wl_nil ?_
        refine pe_seq ?_
        refine wc_draw [.own A2 c.length c3 3 1 (encs encI c), .row r1 80 (bookL F)] [(0, true), (1, true), (2, true), (3, true), (4, true), (5, true), (6, true), (7, true), (8, true), (9, true), (10, true), (11, true), (12, true), (13, true), (14, true), (15, true), (16, true)] mixed (by kernel_rfl) (.cons (.head _ _) rfl (.cons (.head _ _) rfl (.nil _))) ?_
        refine cn_ex rfl (ex_move rfl) rfl rfl ?_
        refine cn_ex rfl (ex_move rfl) rfl rfl ?_
        refine cn_ex rfl (ex_move rfl) rfl rfl ?_
        refine cn_ex rfl (ex_move rfl) rfl rfl ?_
        refine cn_ex rfl (ex_move rfl) rfl rfl ?_
        refine cn_ex rfl (ex_add rfl rfl (by omega) (by omega)) rfl rfl ?_
        refine cn_ex rfl (ex_move rfl) rfl rfl ?_
        refine cn_ex rfl (ex_len Try.underlying41 rfl) rfl rfl ?_
        refine cn_ex rfl (ex_rem rfl rfl (by omega) (by omega)) rfl rfl ?_
        refine cn_ex rfl (ex_indexAddr rfl rfl Try.underlying41 sz_3 (sl_own (.head _ _)) (by omega) (by omega) (enc_pos encI_len (by omega))) rfl rfl ?_
        obtain ⟨d_c__i_1_c_length_Int, hd_c__i_1_c_length_Int⟩ := get_if c ((i + 1) % (c.length : Int))
        refine cn_ex rfl (ex_load rfl ag_3 (rd_int (sl_own (.head _ _)) (hd_c__i_1_c_length_Int (by omega) (by omega)))) rfl rfl ?_
        refine cn_ex rfl (ex_nilCheck rfl) rfl rfl ?_
        have hx := hcy.els _ (mem_at (hd_c_i (by omega) (by omega)))
        have hy := hcy.els _ (mem_at (hd_c__i_1_c_length_Int (by omega) (by omega)))
        refine cn_ex rfl (ex_indexAddrA (off' := (d_c_i).toNat * 8) rfl rfl Try.underlying80 sz_65 (by omega) (by omega) (by simp)) rfl rfl ?_
        refine cn_ex rfl (ex_indexAddrA (off' := (d_c_i).toNat * 8 + (d_c__i_1_c_length_Int).toNat * 1) rfl rfl Try.underlying65 sz_3 (by omega) (by omega) (by simp)) rfl rfl ?_
        refine cn_ex rfl (ex_load rfl ag_3 (rd_row1 (.tail (.head _ _)) (book_get _ _ _ (by omega) (by omega)))) rfl rfl ?_
        refine cn_ex rfl (ex_min rfl rfl) rfl rfl ?_
        refine cn_ex rfl (ex_assign rfl) rfl rfl ?_
        refine cn_nil ?_
        refine pe_block _ ?_
        refine pe_seq ?_
        refine wc_region ?_
        refine wl_ex (ex_add rfl rfl (by omega) (by omega)) rfl rfl ?_
        refine wl_ex (ex_move rfl) rfl rfl ?_
        refine wl_nil ?_
        refine pe_again ⟨i + 1, min v (F d_c_i d_c__i_1_c_length_Int)⟩ (Sub.cons rfl rfl (Sub.cons rfl rfl (Sub.cons rfl rfl (Sub.cons rfl rfl (Sub.cons rfl rfl (Sub.cons rfl rfl (Sub.nil _))))))) (.cons (.head _ _) rfl (.cons (.head _ _) rfl (.nil _))) ?_ ?_
        · show 0 ≤ (i + 1) ∧ (i + 1) ≤ (c.length : Int) ∧ (min v (F d_c_i d_c__i_1_c_length_Int)) = leastTo F c (i + 1).toNat
          have hi : (i + 1).toNat = i.toNat + 1 := by omega
          have he := edge_of (by omega) (hd_c_i (by omega) (by omega)) (hd_c__i_1_c_length_Int (by omega) (by omega))
          refine ⟨by omega, by omega, ?_⟩
          rw [hi, leastTo_succ, he, ← h3]
        · first | omega | (simp only []; omega)
      · have hv : v = leastTo F c c.length := by rw [h3]; congr 1; omega
        have hv1 := (leastTo_le F c c.length).1
        have hv2 := leastTo_pos hcy c.length (Nat.le_refl _)
        refine wc_exit ?_
        refine pe_seq_exit ?_
        refine pe_loop_exit ?_
        refine pe_block_exit ?_
        refine pe_seq ?_
        refine wc_seq ?_
        refine wc_region ?_
        refine wl_ex (ex_move rfl) rfl rfl ?_
        refine wl_ex (ex_len Try.underlying41 rfl) rfl rfl ?_
        refine wl_ex (ex_move rfl) rfl rfl ?_
        refine wl_nil ?_
        refine pe_seq ?_
        refine wc_block ?_
        refine wc_loop (σ := Int × Book) (fun s => [(52, .int .i64 s.1), (4, .pointer (some ⟨r1, 0, none⟩)), (5, .slice A2 c.length c3), (7, .int .i64 v), (50, .slice A2 c.length c3), (51, .int .i64 (c.length : Int))]) (fun s => [.row r1 80 (bookL s.2), .own A2 c.length c3 3 1 (encs encI c)]) (fun s => 0 ≤ s.1 ∧ s.1 ≤ (c.length : Int) ∧ s.2 = subTo F c v s.1.toNat) (fun s => ((c.length : Int) - s.1).toNat) ((0 : Int), F) (Sub.cons rfl rfl (Sub.cons rfl rfl (Sub.cons rfl rfl (Sub.cons rfl rfl (Sub.cons rfl rfl (Sub.cons rfl rfl (Sub.nil _))))))) (.cons (.tail (.head _ _)) rfl (.cons (.head _ _) rfl (.nil _))) (by exact ⟨by omega, by omega, (subTo_zero F c v).symm⟩) ?_
        rintro ⟨j, B⟩ hG
        show WC _ _ _ [(52, .int .i64 j), (4, .pointer (some ⟨r1, 0, none⟩)), (5, .slice A2 c.length c3), (7, .int .i64 v), (50, .slice A2 c.length c3), (51, .int .i64 (c.length : Int))] [.row r1 80 (bookL B), .own A2 c.length c3 3 1 (encs encI c)]
        replace hG : 0 ≤ j ∧ j ≤ (c.length : Int) ∧ B = subTo F c v j.toNat := hG
        obtain ⟨h4, h5, h6⟩ := hG
        subst h6
        refine wc_seq ?_
        refine wc_region ?_
        refine wl_ex (ex_lss rfl rfl) rfl rfl ?_
        refine wl_nil ?_
        refine pe_seq ?_
        refine wc_seq ?_
        refine wc_ite rfl (fun c53 => ?_) (fun c53 => ?_)
        · have hmo1 := Int.emod_nonneg (j + 1) (b := (c.length : Int)) (by omega)
          have hmo2 := Int.emod_lt_of_pos (j + 1) (b := (c.length : Int)) (by omega)
          refine wc_skip ?_
          refine pe_seq ?_
          refine wc_seq ?_
          refine wc_block ?_
          refine wc_seq ?_
          refine wc_region ?_
          refine wl_ex (ex_move rfl) rfl rfl ?_
          refine wl_ex (ex_indexAddr rfl rfl Try.underlying41 sz_3 (sl_own (.tail (.head _ _))) (by omega) (by omega) (enc_pos encI_len (by omega))) rfl rfl ?_
          obtain ⟨d_c_j, hd_c_j⟩ := get_if c j
          refine wl_ex (ex_load rfl ag_3 (rd_int (sl_own (.tail (.head _ _))) (hd_c_j (by omega) (by omega)))) rfl rfl ?_
          refine wl_ex (ex_assign rfl) rfl rfl ?_
          refine wl_ex (ex_assign rfl) rfl rfl ?_
          refine wl_nil ?_
          refine pe_seq ?_
          refine wc_draw [.own A2 c.length c3 3 1 (encs encI c)] [(0, true), (1, true), (2, true), (3, true), (4, true), (5, true), (6, true), (7, true), (8, true), (9, true), (10, true), (11, true), (12, true), (14, true), (16, true), (17, true), (13, false), (15, true), (18, true), (19, false)] mixed (by kernel_rfl) (.cons (.tail (.head _ _)) rfl (.nil _)) ?_
          refine cn_ex rfl (ex_move rfl) rfl rfl ?_
          refine cn_ex rfl (ex_move rfl) rfl rfl ?_
          refine cn_ex rfl (ex_move rfl) rfl rfl ?_
          refine cn_ex rfl (ex_move rfl) rfl rfl ?_
          refine cn_ex rfl (ex_add rfl rfl (by omega) (by omega)) rfl rfl ?_
          refine cn_ex rfl (ex_move rfl) rfl rfl ?_
          refine cn_ex rfl (ex_len Try.underlying41 rfl) rfl rfl ?_
          refine cn_ex rfl (ex_rem rfl rfl (by omega) (by omega)) rfl rfl ?_
          refine cn_ex rfl (ex_indexAddr rfl rfl Try.underlying41 sz_3 (sl_own (.head _ _)) (by omega) (by omega) (enc_pos encI_len (by omega))) rfl rfl ?_
          obtain ⟨d_c__j_1_c_length_Int, hd_c__j_1_c_length_Int⟩ := get_if c ((j + 1) % (c.length : Int))
          refine cn_ex rfl (ex_load rfl ag_3 (rd_int (sl_own (.head _ _)) (hd_c__j_1_c_length_Int (by omega) (by omega)))) rfl rfl ?_
          refine cn_ex rfl (ex_nilCheck rfl) rfl rfl ?_
          have hx := hcy.els _ (mem_at (hd_c_j (by omega) (by omega)))
          have hy := hcy.els _ (mem_at (hd_c__j_1_c_length_Int (by omega) (by omega)))
          have he := edge_of (by omega) (hd_c_j (by omega) (by omega)) (hd_c__j_1_c_length_Int (by omega) (by omega))
          have hFb := hF.bd d_c_j d_c__j_1_c_length_Int
          refine cn_ex rfl (ex_indexAddrA (off' := (d_c_j).toNat * 8) rfl rfl Try.underlying80 sz_65 (by omega) (by omega) (by simp)) rfl rfl ?_
          refine cn_ex rfl (ex_indexAddrA (off' := (d_c_j).toNat * 8 + (d_c__j_1_c_length_Int).toNat * 1) rfl rfl Try.underlying65 sz_3 (by omega) (by omega) (by simp)) rfl rfl ?_
          refine cn_ex rfl (ex_move rfl) rfl rfl ?_
          refine cn_ex rfl (ex_nilCheck rfl) rfl rfl ?_
          refine cn_ex rfl (ex_indexAddrA (off' := (d_c_j).toNat * 8) rfl rfl Try.underlying80 sz_65 (by omega) (by omega) (by simp)) rfl rfl ?_
          refine cn_tail rfl ?_
          refine wl_ex (ex_load rfl ag_3 (rd_row1 (.head _ _) ((book_get _ _ _ (by omega) (by omega)).trans (by rw [subTo_new hcy.nodup v (by omega) he])))) rfl rfl ?_
          refine cn_back (.cons (.tail (.head _ _)) rfl (.nil _)) ?_
          refine cn_ex rfl (ex_sub rfl rfl (by omega) (by omega)) rfl rfl ?_
          refine cn_ex rfl (ex_indexAddrA (off' := (d_c_j).toNat * 8 + (d_c__j_1_c_length_Int).toNat * 1) rfl rfl Try.underlying65 sz_3 (by omega) (by omega) (by simp)) rfl rfl ?_
          refine cn_tail rfl ?_
          refine wl_store rfl rfl rfl sz_3 (.head _ _) (by simp only [bookL_length]; omega) ?_
          rw [book_set _ _ _ _ (by omega) (by omega)]
          refine cn_back (.cons (.tail (.head _ _)) rfl (.nil _)) ?_
          refine cn_nil ?_
          refine pe_block _ ?_
          refine pe_seq ?_
          refine wc_region ?_
          refine wl_ex (ex_add rfl rfl (by omega) (by omega)) rfl rfl ?_
          refine wl_ex (ex_move rfl) rfl rfl ?_
          refine wl_nil ?_
          refine pe_again ⟨j + 1, (setB (subTo F c v j.toNat) d_c_j d_c__j_1_c_length_Int ((F d_c_j d_c__j_1_c_length_Int) - v))⟩ (Sub.cons rfl rfl (Sub.cons rfl rfl (Sub.cons rfl rfl (Sub.cons rfl rfl (Sub.cons rfl rfl (Sub.cons rfl rfl (Sub.nil _))))))) (.cons (.head _ _) rfl (.cons (.head _ _) rfl (.nil _))) ?_ ?_
          · show 0 ≤ (j + 1) ∧ (j + 1) ≤ (c.length : Int) ∧ (setB (subTo F c v j.toNat) d_c_j d_c__j_1_c_length_Int ((F d_c_j d_c__j_1_c_length_Int) - v)) = subTo F c v (j + 1).toNat
            have hi : (j + 1).toNat = j.toNat + 1 := by omega
            refine ⟨by omega, by omega, ?_⟩
            rw [hi, subTo_succ v he]
          · first | omega | (simp only []; omega)
        · refine wc_exit ?_
          refine pe_seq_exit ?_
          refine pe_loop_exit ?_
          refine pe_block_exit ?_
          refine pe_block _ ?_
          have e : subTo F c v j.toNat = subS F c := by rw [show j.toNat = c.length by omega, hv]; rfl
          have hless := round_less hF hcy
          refine pe_again (subTo F c v j.toNat) (Sub.cons rfl rfl (Sub.nil _)) (.cons (.head _ _) rfl (.nil _)) ?_ ?_
          · show Norm (subTo F c v j.toNat) ∧ ∃ m, (listI (subTo F c v j.toNat)).length ≤ m ∧ roundS 64 (bookOf l) = roundS m (subTo F c v j.toNat)
            rw [e]
            exact ⟨norm_sub hF hcy, m - 1, by omega, by rw [hm2, round_step hc (by omega)]⟩
          · (show (listI (subTo F c v j.toNat)).length < _; rw [e]; exact hless)

end Go.Proofs.Yteglbaidaekccaa
