/- Walks. -/
import Derived.Test.YtolfgdkdghhidaaWk
import Derived.Test.YtolfgdkdghhidaaP39
set_option linter.unusedVariables false
set_option linter.unusedSimpArgs false
namespace Go.Proofs.Ytolfgdkdghhidaa
open Go Go.RowKit
theorem list_bd {F : Book} (h : Norm F) : ∀ d ∈ listI F, -1000000000000 ≤ d.amt ∧ d.amt ≤ 1000000000000 := fun d hd => by
  have h1 := mem_list hd
  have h2 := h.bd d.frm d.to
  omega
theorem filt_take {α β : Type} {g : α → Option β} {l : List α} {k : Nat} {d : α} (h : l[k]? = some d) : (l.take (k + 1)).filterMap g = (l.take k).filterMap g ++ (g d).toList := by
  rw [List.take_add_one, h, List.filterMap_append]
  cases hg : g d <;> simp [hg]


theorem c_Round (Al : Option Addr) (cl : Nat) (l : List Debt) (w : World) (hl : Sl w Al (encs encD l)) (hlen : l.length ≤ 1000) :
    Cl Try.prog 20 [.slice Al l.length cl] w (IsS2 ((rndR l).length) 47 3 (encs encD (rndR l)) (.int .i64 (errN l)) w) := by
  refine cl_of Try.func20 rfl Try.ntmps20 rfl (Mem.refl w) ?_
  refine wc_seq ?_
  refine wc_region ?_
  refine wl_ex (ex_assign rfl) rfl rfl ?_
  refine wl_ex (ex_assign rfl) rfl rfl ?_
  refine wl_nil ?_
  refine pe_seq ?_
  refine wc_seq ?_
  refine wc_seq ?_
  refine wc_region ?_
  refine wl_ex (ex_move rfl) rfl rfl ?_
  refine wl_callV [.tmp 12] rfl ok_22 rfl (fun w hm => c_Valid Al cl l w (((sl_arg hl rfl)).at hm)  (by first | omega | assumption)) rfl ?_
  refine wl_ex (ex_not rfl) rfl rfl ?_
  refine wl_nil ?_
  refine pe_seq ?_
  refine wc_ite rfl (fun c14 => ?_) (fun c14 => ?_)
  · refine wc_seq ?_
    refine wc_region ?_
    refine wl_ex (ex_assign rfl) rfl rfl ?_
    refine wl_ex (ex_assign rfl) rfl rfl ?_
    refine wl_nil ?_
    refine pe_seq ?_
    refine wc_ret ?_
    refine pe_seq_ret ?_
    refine pe_nilOwn 47 3 ?_
    refine pe_ret2 rfl rfl rfl rfl (fun w' hm => isS2_mk hm (.head _ _) ?_ ?_ ?_)
    · simp [rndR, c14, encs]
    · simp [errN, c14]
    · simp [rndR, c14]
  · have c14 := Decidable.not_not.1 c14
    refine wc_skip ?_
    refine pe_seq ?_
    refine wc_seq ?_
    refine wc_region ?_
    refine wl_ex (ex_move rfl) rfl rfl ?_
    refine wl_callR [.tmp 15] rfl ok_39 rfl (fun w hm => c_open Al cl l w (((sl_arg hl rfl)).at hm)  (by first | assumption)) rfl fun r1 _ => ?_
    refine wl_ex (ex_assign rfl) rfl rfl ?_
    refine wl_nil ?_
    refine pe_seq ?_
    refine wc_block ?_
    refine wc_loop (σ := Book) (fun s => [(4, .pointer (some ⟨r1, 0, none⟩))]) (fun s => [.row r1 71 (bookL s)]) (fun s => Norm s ∧ ∃ m, (listI s).length ≤ m ∧ roundS 64 (bookOf l) = roundS m s) (fun s => (listI s).length) (bookOf l) (Sub.cons rfl rfl (Sub.nil _)) (.cons (.head _ _) rfl (.nil _)) (by exact ⟨norm_book c14, 64, list_le _, rfl⟩) ?_
    rintro F hG
    show WC _ _ _ [(4, .pointer (some ⟨r1, 0, none⟩))] [.row r1 71 (bookL F)]
    replace hG : Norm F ∧ ∃ m, (listI F).length ≤ m ∧ roundS 64 (bookOf l) = roundS m F := hG
    obtain ⟨hF, m, hm1, hm2⟩ := hG
    refine wc_block ?_
    refine wc_seq ?_
    refine wc_region ?_
    refine wl_ex (ex_move rfl) rfl rfl ?_
    refine wl_callS2 [.tmp 18] rfl ok_42 rfl (fun w hm => c_cycle r1 F w (hm.rowAt (.head _ _))  (by first | assumption | exact norm_book (by assumption))) rfl fun A2 c3 => ?_
    refine wl_ex (ex_move rfl) rfl rfl ?_
    refine wl_ex (ex_extract rfl rfl) rfl rfl ?_
    refine wl_ex (ex_extract rfl rfl) rfl rfl ?_
    refine wl_ex (ex_assign rfl) rfl rfl ?_
    refine wl_ex (ex_assign rfl) rfl rfl ?_
    refine wl_nil ?_
    refine pe_seq ?_
    refine wc_seq ?_
    refine wc_seq ?_
    refine wc_region ?_
    refine wl_ex (ex_move rfl) rfl rfl ?_
    refine wl_ex (ex_notb rfl) rfl rfl ?_
    refine wl_nil ?_
    refine pe_seq ?_
    refine wc_if rfl (fun c23 => ?_) (fun c23 => ?_)
    · refine wc_seq ?_
      refine wc_region ?_
      refine wl_ex (ex_move rfl) rfl rfl ?_
      refine wl_callS [.tmp 24] rfl ok_40 rfl (fun w hm => c_list r1 F w (hm.rowAt (.tail (.head _ _)))  (by first | assumption | exact book_bound (by assumption) | exact Norm.bd (by assumption))) rfl fun A4 c5 => ?_
      refine wl_ex (ex_assign rfl) rfl rfl ?_
      refine wl_ex (ex_assign rfl) rfl rfl ?_
      refine wl_nil ?_
      refine pe_seq ?_
      refine wc_ret ?_
      refine pe_seq_ret ?_
      refine pe_block_ret _ ?_
      refine pe_loop_ret ?_
      refine pe_block_ret _ ?_
      have hcs : cycS F = none := by simpa using c23
      have hrr : rndR l = listI F := by unfold rndR roundI; rw [if_pos c14, hm2, round_none hcs]
      refine pe_ret2 rfl rfl rfl rfl (fun w' hm => isS2_mk hm (.head _ _) ?_ ?_ ?_)
      · rw [hrr]
      · simp [errN, c14]
      · rw [hrr]
    · obtain ⟨c, hc⟩ := Option.isSome_iff_exists.1 (show (cycS F).isSome = true by simpa using c23)
      rw [show cycL (cycS F) = c by rw [hc]; rfl]
      have hcy := cycF hc
      have hcl := hcy.len
      refine wc_skip ?_
      refine pe_seq ?_
      refine wc_seq ?_
      refine wc_region ?_
      refine wl_ex (ex_assign rfl) rfl rfl ?_
      refine wl_nil ?_
      refine pe_seq ?_
      refine wc_seq ?_
      refine wc_seq ?_
      refine wc_region ?_
      refine wl_ex (ex_move rfl) rfl rfl ?_
      refine wl_ex (ex_len Try.underlying25 rfl) rfl rfl ?_
      refine wl_ex (ex_move rfl) rfl rfl ?_
      refine wl_nil ?_
      refine pe_seq ?_
      refine wc_block ?_
      refine wc_loop (σ := Int × Int) (fun s => [(7, .int .i64 s.2), (28, .int .i64 s.1), (4, .pointer (some ⟨r1, 0, none⟩)), (5, .slice A2 c.length c3), (26, .slice A2 c.length c3), (27, .int .i64 (c.length : Int))]) (fun s => [.own A2 c.length c3 3 1 (encs encI c), .row r1 71 (bookL F)]) (fun s => 0 ≤ s.1 ∧ s.1 ≤ (c.length : Int) ∧ s.2 = leastTo F c s.1.toNat) (fun s => ((c.length : Int) - s.1).toNat) (_, _) (Sub.cons rfl rfl (Sub.cons rfl rfl (Sub.cons rfl rfl (Sub.cons rfl rfl (Sub.cons rfl rfl (Sub.cons rfl rfl (Sub.nil _))))))) (.cons (.head _ _) rfl (.cons (.head _ _) rfl (.nil _))) (by simp [leastTo]) ?_
      rintro ⟨i, v⟩ hG
      show WC _ _ _ [(7, .int .i64 v), (28, .int .i64 i), (4, .pointer (some ⟨r1, 0, none⟩)), (5, .slice A2 c.length c3), (26, .slice A2 c.length c3), (27, .int .i64 (c.length : Int))] [.own A2 c.length c3 3 1 (encs encI c), .row r1 71 (bookL F)]
      replace hG : 0 ≤ i ∧ i ≤ (c.length : Int) ∧ v = leastTo F c i.toNat := hG
      obtain ⟨h1, h2, h3⟩ := hG
      refine wc_seq ?_
      refine wc_region ?_
      refine wl_ex (ex_lss rfl rfl) rfl rfl ?_
      refine wl_nil ?_
      refine pe_seq ?_
      refine wc_seq ?_
      refine wc_ite rfl (fun c29 => ?_) (fun c29 => ?_)
      · have hmo1 := Int.emod_nonneg (i + 1) (b := (c.length : Int)) (by omega)
        have hmo2 := Int.emod_lt_of_pos (i + 1) (b := (c.length : Int)) (by omega)
        refine wc_skip ?_
        refine pe_seq ?_
        refine wc_seq ?_
        refine wc_block ?_
        refine wc_seq ?_
        refine wc_region ?_
        refine wl_ex (ex_move rfl) rfl rfl ?_
        refine wl_ex (ex_indexAddr rfl rfl Try.underlying25 sz_3 (sl_own (.head _ _)) (by omega) (by omega) (enc_pos encI_len (by omega))) rfl rfl ?_
        obtain ⟨d_c_i, hd_c_i⟩ := get_if c i
        refine wl_ex (ex_load rfl ag_3 (rd_int (sl_own (.head _ _)) (hd_c_i (by omega) (by omega)))) rfl rfl ?_
        refine wl_ex (ex_assign rfl) rfl rfl ?_
        refine wl_ex (ex_assign rfl) rfl rfl ?_
        refine wl_nil ?_
        refine pe_seq ?_
        refine wc_draw [.own A2 c.length c3 3 1 (encs encI c), .row r1 71 (bookL F)] [(0, true), (1, true), (2, true), (3, true), (4, true), (5, true), (6, true), (7, true), (8, true), (9, true), (10, true), (11, true), (12, true), (13, true), (14, true), (15, true), (16, true)] mixed (by kernel_rfl) (.cons (.head _ _) rfl (.cons (.head _ _) rfl (.nil _))) ?_
        refine cn_ex rfl (ex_move rfl) rfl rfl ?_
        refine cn_ex rfl (ex_move rfl) rfl rfl ?_
        refine cn_ex rfl (ex_move rfl) rfl rfl ?_
        refine cn_ex rfl (ex_move rfl) rfl rfl ?_
        refine cn_ex rfl (ex_move rfl) rfl rfl ?_
        refine cn_ex rfl (ex_add rfl rfl (by omega) (by omega)) rfl rfl ?_
        refine cn_ex rfl (ex_move rfl) rfl rfl ?_
        refine cn_ex rfl (ex_len Try.underlying25 rfl) rfl rfl ?_
        refine cn_ex rfl (ex_rem rfl rfl (by omega) (by omega)) rfl rfl ?_
        refine cn_ex rfl (ex_indexAddr rfl rfl Try.underlying25 sz_3 (sl_own (.head _ _)) (by omega) (by omega) (enc_pos encI_len (by omega))) rfl rfl ?_
        obtain ⟨d_c__i_1_c_length_Int, hd_c__i_1_c_length_Int⟩ := get_if c ((i + 1) % (c.length : Int))
        refine cn_ex rfl (ex_load rfl ag_3 (rd_int (sl_own (.head _ _)) (hd_c__i_1_c_length_Int (by omega) (by omega)))) rfl rfl ?_
        refine cn_ex rfl (ex_nilCheck rfl) rfl rfl ?_
        have hx := hcy.els _ (mem_at (hd_c_i (by omega) (by omega)))
        have hy := hcy.els _ (mem_at (hd_c__i_1_c_length_Int (by omega) (by omega)))
        refine cn_ex rfl (ex_indexAddrA (off' := (d_c_i).toNat * 8) rfl rfl Try.underlying71 sz_64 (by omega) (by omega) (by simp)) rfl rfl ?_
        refine cn_ex rfl (ex_indexAddrA (off' := (d_c_i).toNat * 8 + (d_c__i_1_c_length_Int).toNat * 1) rfl rfl Try.underlying64 sz_3 (by omega) (by omega) (by simp)) rfl rfl ?_
        refine cn_ex rfl (ex_load rfl ag_3 (rd_row1 (.tail (.head _ _)) (book_get _ _ _ (by omega) (by omega)))) rfl rfl ?_
        refine cn_ex rfl (ex_min rfl rfl) rfl rfl ?_
        refine cn_ex rfl (ex_assign rfl) rfl rfl ?_
        refine cn_nil ?_
        refine pe_block _ ?_
        refine pe_seq ?_
        refine wc_region ?_
        refine wl_ex (ex_add rfl rfl (by omega) (by omega)) rfl rfl ?_
        refine wl_ex (ex_move rfl) rfl rfl ?_
        refine wl_nil ?_
        refine pe_again ⟨i + 1, min v (F d_c_i d_c__i_1_c_length_Int)⟩ (Sub.cons rfl rfl (Sub.cons rfl rfl (Sub.cons rfl rfl (Sub.cons rfl rfl (Sub.cons rfl rfl (Sub.cons rfl rfl (Sub.nil _))))))) (.cons (.head _ _) rfl (.cons (.head _ _) rfl (.nil _))) ?_ ?_
        · show 0 ≤ (i + 1) ∧ (i + 1) ≤ (c.length : Int) ∧ (min v (F d_c_i d_c__i_1_c_length_Int)) = leastTo F c (i + 1).toNat
          have hi : (i + 1).toNat = i.toNat + 1 := by omega
          have he := edge_of (by omega) (hd_c_i (by omega) (by omega)) (hd_c__i_1_c_length_Int (by omega) (by omega))
          refine ⟨by omega, by omega, ?_⟩
          rw [hi, leastTo_succ, he, ← h3]
        · first | omega | (simp only []; omega)
      · have hv : v = leastTo F c c.length := by rw [h3]; congr 1; omega
        have hv1 := (leastTo_le F c c.length).1
        have hv2 := leastTo_pos hcy c.length (Nat.le_refl _)
        refine wc_exit ?_
        refine pe_seq_exit ?_
        refine pe_loop_exit ?_
        refine pe_block_exit ?_
        refine pe_seq ?_
        refine wc_seq ?_
        refine wc_region ?_
        refine wl_ex (ex_move rfl) rfl rfl ?_
        refine wl_ex (ex_len Try.underlying25 rfl) rfl rfl ?_
        refine wl_ex (ex_move rfl) rfl rfl ?_
        refine wl_nil ?_
        refine pe_seq ?_
        refine wc_block ?_
        refine wc_loop (σ := Int × Book) (fun s => [(52, .int .i64 s.1), (4, .pointer (some ⟨r1, 0, none⟩)), (5, .slice A2 c.length c3), (7, .int .i64 v), (50, .slice A2 c.length c3), (51, .int .i64 (c.length : Int))]) (fun s => [.row r1 71 (bookL s.2), .own A2 c.length c3 3 1 (encs encI c)]) (fun s => 0 ≤ s.1 ∧ s.1 ≤ (c.length : Int) ∧ s.2 = subTo F c v s.1.toNat) (fun s => ((c.length : Int) - s.1).toNat) ((0 : Int), F) (Sub.cons rfl rfl (Sub.cons rfl rfl (Sub.cons rfl rfl (Sub.cons rfl rfl (Sub.cons rfl rfl (Sub.cons rfl rfl (Sub.nil _))))))) (.cons (.tail (.head _ _)) rfl (.cons (.head _ _) rfl (.nil _))) (by exact ⟨by omega, by omega, (subTo_zero F c v).symm⟩) ?_
        rintro ⟨j, B⟩ hG
        show WC _ _ _ [(52, .int .i64 j), (4, .pointer (some ⟨r1, 0, none⟩)), (5, .slice A2 c.length c3), (7, .int .i64 v), (50, .slice A2 c.length c3), (51, .int .i64 (c.length : Int))] [.row r1 71 (bookL B), .own A2 c.length c3 3 1 (encs encI c)]
        replace hG : 0 ≤ j ∧ j ≤ (c.length : Int) ∧ B = subTo F c v j.toNat := hG
        obtain ⟨h4, h5, h6⟩ := hG
        subst h6
        refine wc_seq ?_
        refine wc_region ?_
        refine wl_ex (ex_lss rfl rfl) rfl rfl ?_
        refine wl_nil ?_
        refine pe_seq ?_
        refine wc_seq ?_
        refine wc_ite rfl (fun c53 => ?_) (fun c53 => ?_)
        · have hmo1 := Int.emod_nonneg (j + 1) (b := (c.length : Int)) (by omega)
          have hmo2 := Int.emod_lt_of_pos (j + 1) (b := (c.length : Int)) (by omega)
          refine wc_skip ?_
          refine pe_seq ?_
          refine wc_seq ?_
          refine wc_block ?_
          refine wc_seq ?_
          refine wc_region ?_
          refine wl_ex (ex_move rfl) rfl rfl ?_
          refine wl_ex (ex_indexAddr rfl rfl Try.underlying25 sz_3 (sl_own (.tail (.head _ _))) (by omega) (by omega) (enc_pos encI_len (by omega))) rfl rfl ?_
          obtain ⟨d_c_j, hd_c_j⟩ := get_if c j
          refine wl_ex (ex_load rfl ag_3 (rd_int (sl_own (.tail (.head _ _))) (hd_c_j (by omega) (by omega)))) rfl rfl ?_
          refine wl_ex (ex_assign rfl) rfl rfl ?_
          refine wl_ex (ex_assign rfl) rfl rfl ?_
          refine wl_nil ?_
          refine pe_seq ?_
          refine wc_draw [.own A2 c.length c3 3 1 (encs encI c)] [(0, true), (1, true), (2, true), (3, true), (4, true), (5, true), (6, true), (7, true), (8, true), (9, true), (10, true), (11, true), (12, true), (14, true), (16, true), (17, true), (13, false), (15, true), (18, true), (19, false)] mixed (by kernel_rfl) (.cons (.tail (.head _ _)) rfl (.nil _)) ?_
          refine cn_ex rfl (ex_move rfl) rfl rfl ?_
          refine cn_ex rfl (ex_move rfl) rfl rfl ?_
          refine cn_ex rfl (ex_move rfl) rfl rfl ?_
          refine cn_ex rfl (ex_move rfl) rfl rfl ?_
          refine cn_ex rfl (ex_add rfl rfl (by omega) (by omega)) rfl rfl ?_
          refine cn_ex rfl (ex_move rfl) rfl rfl ?_
          refine cn_ex rfl (ex_len Try.underlying25 rfl) rfl rfl ?_
          refine cn_ex rfl (ex_rem rfl rfl (by omega) (by omega)) rfl rfl ?_
          refine cn_ex rfl (ex_indexAddr rfl rfl Try.underlying25 sz_3 (sl_own (.head _ _)) (by omega) (by omega) (enc_pos encI_len (by omega))) rfl rfl ?_
          obtain ⟨d_c__j_1_c_length_Int, hd_c__j_1_c_length_Int⟩ := get_if c ((j + 1) % (c.length : Int))
          refine cn_ex rfl (ex_load rfl ag_3 (rd_int (sl_own (.head _ _)) (hd_c__j_1_c_length_Int (by omega) (by omega)))) rfl rfl ?_
          refine cn_ex rfl (ex_nilCheck rfl) rfl rfl ?_
          have hx := hcy.els _ (mem_at (hd_c_j (by omega) (by omega)))
          have hy := hcy.els _ (mem_at (hd_c__j_1_c_length_Int (by omega) (by omega)))
          have he := edge_of (by omega) (hd_c_j (by omega) (by omega)) (hd_c__j_1_c_length_Int (by omega) (by omega))
          have hFb := hF.bd d_c_j d_c__j_1_c_length_Int
          refine cn_ex rfl (ex_indexAddrA (off' := (d_c_j).toNat * 8) rfl rfl Try.underlying71 sz_64 (by omega) (by omega) (by simp)) rfl rfl ?_
          refine cn_ex rfl (ex_indexAddrA (off' := (d_c_j).toNat * 8 + (d_c__j_1_c_length_Int).toNat * 1) rfl rfl Try.underlying64 sz_3 (by omega) (by omega) (by simp)) rfl rfl ?_
          refine cn_ex rfl (ex_move rfl) rfl rfl ?_
          refine cn_ex rfl (ex_nilCheck rfl) rfl rfl ?_
          refine cn_ex rfl (ex_indexAddrA (off' := (d_c_j).toNat * 8) rfl rfl Try.underlying71 sz_64 (by omega) (by omega) (by simp)) rfl rfl ?_
          refine cn_tail rfl ?_
          refine wl_ex (ex_load rfl ag_3 (rd_row1 (.head _ _) ((book_get _ _ _ (by omega) (by omega)).trans (by rw [subTo_new hcy.nodup v (by omega) he])))) rfl rfl ?_
          refine cn_back (.cons (.tail (.head _ _)) rfl (.nil _)) ?_
          refine cn_ex rfl (ex_sub rfl rfl (by omega) (by omega)) rfl rfl ?_
          refine cn_ex rfl (ex_indexAddrA (off' := (d_c_j).toNat * 8 + (d_c__j_1_c_length_Int).toNat * 1) rfl rfl Try.underlying64 sz_3 (by omega) (by omega) (by simp)) rfl rfl ?_
          refine cn_tail rfl ?_
          refine wl_store rfl rfl rfl sz_3 (.head _ _) (by simp only [bookL_length]; omega) ?_
          rw [book_set _ _ _ _ (by omega) (by omega)]
          refine cn_back (.cons (.tail (.head _ _)) rfl (.nil _)) ?_
          refine cn_nil ?_
          refine pe_block _ ?_
          refine pe_seq ?_
          refine wc_region ?_
          refine wl_ex (ex_add rfl rfl (by omega) (by omega)) rfl rfl ?_
          refine wl_ex (ex_move rfl) rfl rfl ?_
          refine wl_nil ?_
          refine pe_again ⟨j + 1, (setB (subTo F c v j.toNat) d_c_j d_c__j_1_c_length_Int ((F d_c_j d_c__j_1_c_length_Int) - v))⟩ (Sub.cons rfl rfl (Sub.cons rfl rfl (Sub.cons rfl rfl (Sub.cons rfl rfl (Sub.cons rfl rfl (Sub.cons rfl rfl (Sub.nil _))))))) (.cons (.head _ _) rfl (.cons (.head _ _) rfl (.nil _))) ?_ ?_
          · show 0 ≤ (j + 1) ∧ (j + 1) ≤ (c.length : Int) ∧ (setB (subTo F c v j.toNat) d_c_j d_c__j_1_c_length_Int ((F d_c_j d_c__j_1_c_length_Int) - v)) = subTo F c v (j + 1).toNat
            have hi : (j + 1).toNat = j.toNat + 1 := by omega
            refine ⟨by omega, by omega, ?_⟩
            rw [hi, subTo_succ v he]
          · first | omega | (simp only []; omega)
        · refine wc_exit ?_
          refine pe_seq_exit ?_
          refine pe_loop_exit ?_
          refine pe_block_exit ?_
          refine pe_block _ ?_
          have e : subTo F c v j.toNat = subS F c := by rw [show j.toNat = c.length by omega, hv]; rfl
          have hless := round_less hF hcy
          refine pe_again (subTo F c v j.toNat) (Sub.cons rfl rfl (Sub.nil _)) (.cons (.head _ _) rfl (.nil _)) ?_ ?_
          · show Norm (subTo F c v j.toNat) ∧ ∃ m, (listI (subTo F c v j.toNat)).length ≤ m ∧ roundS 64 (bookOf l) = roundS m (subTo F c v j.toNat)
            rw [e]
            exact ⟨norm_sub hF hcy, m - 1, by omega, by rw [hm2, round_step hc (by omega)]⟩
          · (show (listI (subTo F c v j.toNat)).length < _; rw [e]; exact hless)

theorem c_RoundR (Al : Option Addr) (cl : Nat) (l : List Debt) (w : World) (hl : Sl w Al (encs encD l)) (hlen : l.length ≤ 1000) :
    Cl Try.prog 21 [.slice Al l.length cl] w (IsS2 ((rndR l).length) 47 3 (encs encD (rndR l)) (.int .i64 (errN l)) w) := by
  refine cl_of Try.func21 rfl Try.ntmps21 rfl (Mem.refl w) ?_
  refine wc_seq ?_
  refine wc_region ?_
  refine wl_ex (ex_assign rfl) rfl rfl ?_
  refine wl_ex (ex_assign rfl) rfl rfl ?_
  refine wl_nil ?_
  refine pe_seq ?_
  refine wc_seq ?_
  refine wc_seq ?_
  refine wc_region ?_
  refine wl_ex (ex_move rfl) rfl rfl ?_
  refine wl_callV [.tmp 13] rfl ok_23 rfl (fun w hm => c_ValidR Al cl l w (((sl_arg hl rfl)).at hm)  (by assumption)) rfl ?_
  refine wl_ex (ex_not rfl) rfl rfl ?_
  refine wl_nil ?_
  refine pe_seq ?_
  refine wc_ite rfl (fun c15 => ?_) (fun c15 => ?_)
  · refine wc_seq ?_
    refine wc_region ?_
    refine wl_ex (ex_assign rfl) rfl rfl ?_
    refine wl_ex (ex_assign rfl) rfl rfl ?_
    refine wl_nil ?_
    refine pe_seq ?_
    refine wc_ret ?_
    refine pe_seq_ret ?_
    refine pe_nilOwn 47 3 ?_
    refine pe_ret2 rfl rfl rfl rfl (fun w' hm => isS2_mk hm (.head _ _) ?_ ?_ ?_)
    · simp [rndR, c15, encs]
    · simp [errN, c15]
    · simp [rndR, c15]
  · have c15 := Decidable.not_not.1 c15
    have hb := pairsI_bd c15
    have hpl := pairsI_length l
    have hbd := book_debts c15
    refine wc_skip ?_
    refine pe_seq ?_
    refine wc_seq ?_
    refine wc_region ?_
    refine wl_ex (ex_move rfl) rfl rfl ?_
    refine wl_callS [.tmp 16] rfl ok_41 rfl (fun w hm => c_pairsR Al cl l w (((sl_arg hl rfl)).at hm)  (by assumption) (by assumption)) rfl fun A1 c2 => ?_
    refine wl_ex (ex_assign rfl) rfl rfl ?_
    refine wl_nil ?_
    refine pe_seq ?_
    refine wc_block ?_
    refine wc_loop (σ := Book × (Option Addr) × Nat) (fun s => [(4, .slice s.2.1 ((listI s.1).length) s.2.2)]) (fun s => [.own s.2.1 ((listI s.1).length) s.2.2 47 3 (encs encD (listI s.1))]) (fun s => Norm s.1 ∧ ∃ m, (listI s.1).length ≤ m ∧ roundS 64 (bookOf l) = roundS m s.1) (fun s => (listI s.1).length) ((bookOf l), _, _) (Sub.cons rfl rfl (Sub.nil _)) (.cons (.head _ _) (by first | rfl | simp) (.nil _)) (by exact ⟨norm_book c15, 64, list_le _, rfl⟩) ?_
    rintro ⟨F, A1, c1⟩ hG
    show WC _ _ _ [(4, .slice A1 ((listI F).length) c1)] [.own A1 ((listI F).length) c1 47 3 (encs encD (listI F))]
    replace hG : Norm F ∧ ∃ m, (listI F).length ≤ m ∧ roundS 64 (bookOf l) = roundS m F := hG
    obtain ⟨hF, m, hm1, hm2⟩ := hG
    have hLl := list_le F
    have hLb := list_bd hF
    have hcs : cycS (ow (listI F)) = cycS F := cycS_list hF
    refine wc_block ?_
    refine wc_seq ?_
    refine wc_region ?_
    refine wl_ex (ex_move rfl) rfl rfl ?_
    refine wl_callS2 [.tmp 19] rfl ok_43 rfl (fun w hm => c_cycleR A1 c1 (listI F) w (((sl_own (.head _ _))).at hm)  (by first | assumption | omega) (by assumption)) rfl fun A3 c4 => ?_
    refine wl_ex (ex_move rfl) rfl rfl ?_
    refine wl_ex (ex_extract rfl rfl) rfl rfl ?_
    refine wl_ex (ex_extract rfl rfl) rfl rfl ?_
    refine wl_ex (ex_assign rfl) rfl rfl ?_
    refine wl_ex (ex_assign rfl) rfl rfl ?_
    refine wl_nil ?_
    refine pe_seq ?_
    refine wc_seq ?_
    refine wc_seq ?_
    refine wc_region ?_
    refine wl_ex (ex_move rfl) rfl rfl ?_
    refine wl_ex (ex_notb rfl) rfl rfl ?_
    refine wl_nil ?_
    refine pe_seq ?_
    refine wc_if rfl (fun c24 => ?_) (fun c24 => ?_)
    · refine wc_seq ?_
      refine wc_region ?_
      refine wl_ex (ex_move rfl) rfl rfl ?_
      refine wl_ex (ex_assign rfl) rfl rfl ?_
      refine wl_ex (ex_assign rfl) rfl rfl ?_
      refine wl_nil ?_
      refine pe_seq ?_
      refine wc_ret ?_
      refine pe_seq_ret ?_
      refine pe_block_ret _ ?_
      refine pe_loop_ret ?_
      refine pe_block_ret _ ?_
      have hcn : cycS F = none := by rw [← hcs]; simpa using c24
      have hrr : rndR l = listI F := by unfold rndR roundI; rw [if_pos c15, hm2, round_none hcn]
      refine pe_ret2 rfl rfl rfl rfl (fun w' hm => isS2_mk hm (.tail (.head _ _)) ?_ ?_ ?_)
      · rw [hrr]
      · simp [errN, c15]
      · rw [hrr]
    · obtain ⟨c, hc⟩ := Option.isSome_iff_exists.1 (show (cycS (ow (listI F))).isSome = true by simpa using c24)
      rw [show cycL (cycS (ow (listI F))) = c by rw [hc]; rfl]
      rw [hcs] at hc
      have hcy := cycF hc
      have hcl := hcy.len
      refine wc_skip ?_
      refine pe_seq ?_
      refine wc_seq ?_
      refine wc_region ?_
      refine wl_ex (ex_assign rfl) rfl rfl ?_
      refine wl_nil ?_
      refine pe_seq ?_
      refine wc_seq ?_
      refine wc_seq ?_
      refine wc_region ?_
      refine wl_ex (ex_assign rfl) rfl rfl ?_
      refine wl_nil ?_
      refine pe_seq ?_
      refine wc_block ?_
      refine wc_loop (σ := Int × Int) (fun s => [(7, .int .i64 s.2), (8, .int .i64 s.1), (4, .slice A1 ((listI F).length) c1), (5, .slice A3 c.length c4)]) (fun s => [.own A3 c.length c4 3 1 (encs encI c), .own A1 ((listI F).length) c1 47 3 (encs encD (listI F))]) (fun s => 0 ≤ s.1 ∧ s.1 ≤ (c.length : Int) ∧ s.2 = leastTo F c s.1.toNat) (fun s => ((c.length : Int) - s.1).toNat) ((0 : Int), (1000000000000 : Int)) (Sub.cons rfl rfl (Sub.cons rfl rfl (Sub.cons rfl rfl (Sub.cons rfl rfl (Sub.nil _))))) (.cons (.head _ _) rfl (.cons (.head _ _) rfl (.nil _))) (by simp [leastTo]) ?_
      rintro ⟨i, v⟩ hG
      show WC _ _ _ [(7, .int .i64 v), (8, .int .i64 i), (4, .slice A1 ((listI F).length) c1), (5, .slice A3 c.length c4)] [.own A3 c.length c4 3 1 (encs encI c), .own A1 ((listI F).length) c1 47 3 (encs encD (listI F))]
      replace hG : 0 ≤ i ∧ i ≤ (c.length : Int) ∧ v = leastTo F c i.toNat := hG
      obtain ⟨h1, h2, h3⟩ := hG
      refine wc_seq ?_
      refine wc_seq ?_
      refine wc_region ?_
      refine wl_ex (ex_move rfl) rfl rfl ?_
      refine wl_ex (ex_move rfl) rfl rfl ?_
      refine wl_ex (ex_len Try.underlying25 rfl) rfl rfl ?_
      refine wl_ex (ex_lss rfl rfl) rfl rfl ?_
      refine wl_nil ?_
      refine pe_seq ?_
      refine wc_ite rfl (fun c29 => ?_) (fun c29 => ?_)
      · have hmo1 := Int.emod_nonneg (i + 1) (b := (c.length : Int)) (by omega)
        have hmo2 := Int.emod_lt_of_pos (i + 1) (b := (c.length : Int)) (by omega)
        refine wc_skip ?_
        refine pe_seq ?_
        refine wc_seq ?_
        refine wc_block ?_
        refine wc_draw [.own A3 c.length c4 3 1 (encs encI c), .own A1 ((listI F).length) c1 47 3 (encs encD (listI F))] [(0, true), (1, true), (2, true), (3, true), (4, true), (5, true), (6, true), (7, true), (8, true), (9, true), (10, true), (11, true), (12, true), (13, true), (14, false), (15, true), (16, true)] mixed (by kernel_rfl) (.cons (.head _ _) rfl (.cons (.head _ _) rfl (.nil _))) ?_
        refine cn_ex rfl (ex_move rfl) rfl rfl ?_
        refine cn_ex rfl (ex_move rfl) rfl rfl ?_
        refine cn_ex rfl (ex_move rfl) rfl rfl ?_
        refine cn_ex rfl (ex_move rfl) rfl rfl ?_
        refine cn_ex rfl (ex_indexAddr rfl rfl Try.underlying25 sz_3 (sl_own (.head _ _)) (by omega) (by omega) (enc_pos encI_len (by omega))) rfl rfl ?_
        obtain ⟨d_c_i, hd_c_i⟩ := get_if c i
        refine cn_ex rfl (ex_load rfl ag_3 (rd_int (sl_own (.head _ _)) (hd_c_i (by omega) (by omega)))) rfl rfl ?_
        refine cn_ex rfl (ex_move rfl) rfl rfl ?_
        refine cn_ex rfl (ex_move rfl) rfl rfl ?_
        refine cn_ex rfl (ex_add rfl rfl (by omega) (by omega)) rfl rfl ?_
        refine cn_ex rfl (ex_move rfl) rfl rfl ?_
        refine cn_ex rfl (ex_len Try.underlying25 rfl) rfl rfl ?_
        refine cn_ex rfl (ex_rem rfl rfl (by omega) (by omega)) rfl rfl ?_
        refine cn_ex rfl (ex_indexAddr rfl rfl Try.underlying25 sz_3 (sl_own (.head _ _)) (by omega) (by omega) (enc_pos encI_len (by omega))) rfl rfl ?_
        obtain ⟨d_c__i_1_c_length_Int, hd_c__i_1_c_length_Int⟩ := get_if c ((i + 1) % (c.length : Int))
        refine cn_ex rfl (ex_load rfl ag_3 (rd_int (sl_own (.head _ _)) (hd_c__i_1_c_length_Int (by omega) (by omega)))) rfl rfl ?_
        have hx := hcy.els _ (mem_at (hd_c_i (by omega) (by omega)))
        have hy := hcy.els _ (mem_at (hd_c__i_1_c_length_Int (by omega) (by omega)))
        refine cn_tail rfl ?_
        refine wl_callV [.tmp 33, .tmp 37, .tmp 45] rfl ok_44 rfl (fun w hm => c_owes A1 c1 (listI F) d_c_i d_c__i_1_c_length_Int w (((sl_own (.tail (.head _ _)))).at hm)  (by first | assumption | omega) (by assumption)) rfl ?_
        refine cn_back (.cons (.head _ _) rfl (.cons (.head _ _) rfl (.nil _))) ?_
        refine cn_ex rfl (ex_min rfl rfl) rfl rfl ?_
        refine cn_ex rfl (ex_assign rfl) rfl rfl ?_
        refine cn_nil ?_
        refine pe_block _ ?_
        refine pe_seq ?_
        refine wc_region ?_
        refine wl_ex (ex_move rfl) rfl rfl ?_
        refine wl_ex (ex_add rfl rfl (by omega) (by omega)) rfl rfl ?_
        refine wl_ex (ex_assign rfl) rfl rfl ?_
        refine wl_nil ?_
        refine pe_again ⟨i + 1, min v (owesI d_c_i d_c__i_1_c_length_Int (listI F))⟩ (Sub.cons rfl rfl (Sub.cons rfl rfl (Sub.cons rfl rfl (Sub.cons rfl rfl (Sub.nil _))))) (.cons (.head _ _) rfl (.cons (.head _ _) rfl (.nil _))) ?_ ?_
        · show 0 ≤ (i + 1) ∧ (i + 1) ≤ (c.length : Int) ∧ (min v (owesI d_c_i d_c__i_1_c_length_Int (listI F))) = leastTo F c (i + 1).toNat
          have hi : (i + 1).toNat = i.toNat + 1 := by omega
          have he := edge_of (by omega) (hd_c_i (by omega) (by omega)) (hd_c__i_1_c_length_Int (by omega) (by omega))
          have hpp := hcy.pos i.toNat (by omega)
          rw [he] at hpp
          refine ⟨by omega, by omega, ?_⟩
          rw [hi, leastTo_succ, he, ← h3, owes_list hF, (hF.pos _ _ hpp).2.2, Int.sub_zero]
        · first | omega | (simp only []; omega)
      · have hv : v = leastTo F c c.length := by rw [h3]; congr 1; omega
        have hv1 := (leastTo_le F c c.length).1
        have hv2 := leastTo_pos hcy c.length (Nat.le_refl _)
        refine wc_exit ?_
        refine pe_seq_exit ?_
        refine pe_loop_exit ?_
        refine pe_block_exit ?_
        refine pe_seq ?_
        refine wc_seq ?_
        refine wc_region ?_
        refine wl_ex (ex_assign rfl) rfl rfl ?_
        refine wl_nil ?_
        refine pe_seq ?_
        refine wc_seq ?_
        refine wc_seq ?_
        refine wc_region ?_
        refine wl_ex (ex_assign rfl) rfl rfl ?_
        refine wl_nil ?_
        refine pe_seq ?_
        refine wc_block ?_
        refine wc_nilOwn 47 3 ?_
        refine wc_loop (σ := Int × (List Debt) × (Option Addr) × Nat) (fun s => [(9, .slice s.2.2.1 s.2.1.length s.2.2.2), (10, .int .i64 s.1), (4, .slice A1 ((listI F).length) c1), (5, .slice A3 c.length c4), (7, .int .i64 v)]) (fun s => [.own s.2.2.1 s.2.1.length s.2.2.2 47 3 (encs encD s.2.1), .own A3 c.length c4 3 1 (encs encI c), .own A1 ((listI F).length) c1 47 3 (encs encD (listI F))]) (fun s => 0 ≤ s.1 ∧ s.1 ≤ ((listI F).length : Int) ∧ s.2.1 = ((listI F).take s.1.toNat).filterMap (keepD (subS F c))) (fun s => (((listI F).length : Int) - s.1).toNat) ((0 : Int), [], _, _) (Sub.cons rfl rfl (Sub.cons rfl rfl (Sub.cons rfl rfl (Sub.cons rfl rfl (Sub.cons rfl rfl (Sub.nil _)))))) (.cons (.head _ _) (by first | rfl | simp) (.cons (.head _ _) rfl (.cons (.head _ _) rfl (.nil _)))) (by simp) ?_
        rintro ⟨i, n, A2, c2⟩ hG
        show WC _ _ _ [(9, .slice A2 n.length c2), (10, .int .i64 i), (4, .slice A1 ((listI F).length) c1), (5, .slice A3 c.length c4), (7, .int .i64 v)] [.own A2 n.length c2 47 3 (encs encD n), .own A3 c.length c4 3 1 (encs encI c), .own A1 ((listI F).length) c1 47 3 (encs encD (listI F))]
        replace hG : 0 ≤ i ∧ i ≤ ((listI F).length : Int) ∧ n = ((listI F).take i.toNat).filterMap (keepD (subS F c)) := hG
        obtain ⟨h4, h5, h6⟩ := hG
        have hnl : n.length ≤ 64 := by rw [h6]; exact Nat.le_trans (List.length_filterMap_le _ _) (by rw [List.length_take]; omega)
        refine wc_seq ?_
        refine wc_seq ?_
        refine wc_region ?_
        refine wl_ex (ex_move rfl) rfl rfl ?_
        refine wl_ex (ex_move rfl) rfl rfl ?_
        refine wl_ex (ex_len Try.underlying24 rfl) rfl rfl ?_
        refine wl_ex (ex_lss rfl rfl) rfl rfl ?_
        refine wl_nil ?_
        refine pe_seq ?_
        refine wc_ite rfl (fun c51 => ?_) (fun c51 => ?_)
        · refine wc_skip ?_
          refine pe_seq ?_
          refine wc_seq ?_
          refine wc_block ?_
          refine wc_seq ?_
          refine wc_region ?_
          refine wl_ex (ex_move rfl) rfl rfl ?_
          refine wl_ex (ex_move rfl) rfl rfl ?_
          refine wl_ex (ex_indexAddr rfl rfl Try.underlying24 sz_47 (sl_own (.tail (.tail (.head _ _)))) (by omega) (by omega) (enc_pos encD_len (by omega))) rfl rfl ?_
          obtain ⟨d_listI_F_i, hd_listI_F_i⟩ := get_if (listI F) i
          refine wl_ex (ex_loadS rfl ag_47 sz_47 (encD_len _) (rd_encs encD_len (sl_own (.tail (.tail (.head _ _)))) (hd_listI_F_i (by omega) (by omega)))) rfl rfl ?_
          refine wl_alloc ze_47 rfl rfl fun r5 => ?_
          refine wl_storeS (vs := [.int .i64 d_listI_F_i.frm, .int .i64 d_listI_F_i.to, .int .i64 d_listI_F_i.amt]) rfl rfl (by simp [Value.oneCell']) sz_47 rfl (.head _ _) (by simp) ?_
          rw [show ovr [.int .i64 0, .int .i64 0, .int .i64 0] 0 [.int .i64 d_listI_F_i.frm, .int .i64 d_listI_F_i.to, .int .i64 d_listI_F_i.amt] = [.int .i64 d_listI_F_i.frm, .int .i64 d_listI_F_i.to, .int .i64 d_listI_F_i.amt] from rfl]
          refine wl_nil ?_
          refine pe_seq ?_
          refine wc_seq ?_
          refine wc_seq ?_
          refine wc_region ?_
          refine wl_ex (ex_assign rfl) rfl rfl ?_
          refine wl_nil ?_
          refine pe_seq ?_
          refine wc_block ?_
          refine wc_loop (σ := Int × Int) (fun s => [(12, .int .i64 s.1), (4, .slice A1 ((listI F).length) c1), (5, .slice A3 c.length c4), (7, .int .i64 v), (9, .slice A2 n.length c2), (10, .int .i64 i), (11, .pointer (some ⟨r5, 0, none⟩))]) (fun s => [.row r5 47 [.int .i64 d_listI_F_i.frm, .int .i64 d_listI_F_i.to, .int .i64 s.2], .own A2 n.length c2 47 3 (encs encD n), .own A3 c.length c4 3 1 (encs encI c), .own A1 ((listI F).length) c1 47 3 (encs encD (listI F))]) (fun s => 0 ≤ s.1 ∧ s.1 ≤ (c.length : Int) ∧ s.2 = subTo F c v s.1.toNat d_listI_F_i.frm d_listI_F_i.to) (fun s => ((c.length : Int) - s.1).toNat) ((0 : Int), _) (Sub.cons rfl rfl (Sub.cons rfl rfl (Sub.cons rfl rfl (Sub.cons rfl rfl (Sub.cons rfl rfl (Sub.cons rfl rfl (Sub.cons rfl rfl (Sub.nil _)))))))) (.cons (.head _ _) (by first | rfl | simp) (.cons (.head _ _) rfl (.cons (.head _ _) rfl (.cons (.head _ _) rfl (.nil _))))) (by exact ⟨by omega, by omega, by show _ = subTo F c v 0 _ _; rw [subTo_zero]; exact (mem_list (mem_at (hd_listI_F_i (by omega) (by omega)))).2.1⟩) ?_
          rintro ⟨k, amt⟩ hG
          show WC _ _ _ [(12, .int .i64 k), (4, .slice A1 ((listI F).length) c1), (5, .slice A3 c.length c4), (7, .int .i64 v), (9, .slice A2 n.length c2), (10, .int .i64 i), (11, .pointer (some ⟨r5, 0, none⟩))] [.row r5 47 [.int .i64 d_listI_F_i.frm, .int .i64 d_listI_F_i.to, .int .i64 amt], .own A2 n.length c2 47 3 (encs encD n), .own A3 c.length c4 3 1 (encs encI c), .own A1 ((listI F).length) c1 47 3 (encs encD (listI F))]
          replace hG : 0 ≤ k ∧ k ≤ (c.length : Int) ∧ amt = subTo F c v k.toNat d_listI_F_i.frm d_listI_F_i.to := hG
          obtain ⟨h7, h8, h9⟩ := hG
          refine wc_seq ?_
          refine wc_seq ?_
          refine wc_region ?_
          refine wl_ex (ex_move rfl) rfl rfl ?_
          refine wl_ex (ex_move rfl) rfl rfl ?_
          refine wl_ex (ex_len Try.underlying25 rfl) rfl rfl ?_
          refine wl_ex (ex_lss rfl rfl) rfl rfl ?_
          refine wl_nil ?_
          refine pe_seq ?_
          refine wc_ite rfl (fun c61 => ?_) (fun c61 => ?_)
          · have hmo1 := Int.emod_nonneg (k + 1) (b := (c.length : Int)) (by omega)
            have hmo2 := Int.emod_lt_of_pos (k + 1) (b := (c.length : Int)) (by omega)
            refine wc_skip ?_
            refine pe_seq ?_
            refine wc_seq ?_
            refine wc_block ?_
            obtain ⟨d_c_k, hd_c_k⟩ := get_if c k
            obtain ⟨d_c__k_1_c_length_Int, hd_c__k_1_c_length_Int⟩ := get_if c ((k + 1) % (c.length : Int))
            refine wc_cut (σ := Unit) (fun _ => [(4, .slice A1 ((listI F).length) c1), (5, .slice A3 c.length c4), (7, .int .i64 v), (9, .slice A2 n.length c2), (10, .int .i64 i), (11, .pointer (some ⟨r5, 0, none⟩)), (12, .int .i64 k), (83, .bool (decide ((d_listI_F_i.frm = d_c_k) ∧ (d_listI_F_i.to = d_c__k_1_c_length_Int))))]) (fun _ => [.row r5 47 [.int .i64 d_listI_F_i.frm, .int .i64 d_listI_F_i.to, .int .i64 amt], .own A2 n.length c2 47 3 (encs encD n), .own A3 c.length c4 3 1 (encs encI c), .own A1 ((listI F).length) c1 47 3 (encs encD (listI F))]) (fun _ => True) ?_ ?_
            · refine wc_draw [.row r5 47 [.int .i64 d_listI_F_i.frm, .int .i64 d_listI_F_i.to, .int .i64 amt], .own A2 n.length c2 47 3 (encs encD n), .own A3 c.length c4 3 1 (encs encI c), .own A1 ((listI F).length) c1 47 3 (encs encD (listI F))] [(0, true), (1, true), (2, true), (3, true), (4, true), (5, true), (6, true), (7, true), (8, true), (9, true), (10, true), (11, true), (12, true), (13, true), (14, true), (15, true), (16, true), (17, true), (18, true), (19, true)] mixed (by kernel_rfl) (.cons (.head _ _) rfl (.cons (.head _ _) rfl (.cons (.head _ _) rfl (.cons (.head _ _) rfl (.nil _))))) ?_
              refine cn_ex rfl (ex_fieldAddr (off' := 0) rfl Try.underlying47 rfl sz_3 rfl rfl) rfl rfl ?_
              refine cn_ex rfl (ex_load rfl ag_3 (rd_row1 (.head _ _) rfl)) rfl rfl ?_
              refine cn_ex rfl (ex_move rfl) rfl rfl ?_
              refine cn_ex rfl (ex_move rfl) rfl rfl ?_
              refine cn_ex rfl (ex_indexAddr rfl rfl Try.underlying25 sz_3 (sl_own (.tail (.tail (.head _ _)))) (by omega) (by omega) (enc_pos encI_len (by omega))) rfl rfl ?_
              refine cn_ex rfl (ex_load rfl ag_3 (rd_int (sl_own (.tail (.tail (.head _ _)))) (hd_c_k (by omega) (by omega)))) rfl rfl ?_
              refine cn_ex rfl (ex_eql rfl rfl) rfl rfl ?_
              refine cn_ex rfl (ex_move rfl) rfl rfl ?_
              by_cases g6 : d_listI_F_i.frm = d_c_k
              · refine cn_exg rfl (ex_fieldAddr (off' := 1) rfl Try.underlying47 rfl sz_3 rfl rfl) rfl rfl rfl (decide_eq_true g6) rfl rfl ?_
                refine cn_exg rfl (ex_load rfl ag_3 (rd_row1 (.head _ _) rfl)) rfl rfl rfl (decide_eq_true g6) rfl rfl ?_
                refine cn_exg rfl (ex_move rfl) rfl rfl rfl (decide_eq_true g6) rfl rfl ?_
                refine cn_exg rfl (ex_move rfl) rfl rfl rfl (decide_eq_true g6) rfl rfl ?_
                refine cn_exg rfl (ex_add rfl rfl (by omega) (by omega)) rfl rfl rfl (decide_eq_true g6) rfl rfl ?_
                refine cn_exg rfl (ex_move rfl) rfl rfl rfl (decide_eq_true g6) rfl rfl ?_
                refine cn_exg rfl (ex_len Try.underlying25 rfl) rfl rfl rfl (decide_eq_true g6) rfl rfl ?_
                refine cn_exg rfl (ex_rem rfl rfl (by omega) (by omega)) rfl rfl rfl (decide_eq_true g6) rfl rfl ?_
                refine cn_exg rfl (ex_indexAddr rfl rfl Try.underlying25 sz_3 (sl_own (.tail (.tail (.head _ _)))) (by omega) (by omega) (enc_pos encI_len (by omega))) rfl rfl rfl (decide_eq_true g6) rfl rfl ?_
                refine cn_exg rfl (ex_load rfl ag_3 (rd_int (sl_own (.tail (.tail (.head _ _)))) (hd_c__k_1_c_length_Int (by omega) (by omega)))) rfl rfl rfl (decide_eq_true g6) rfl rfl ?_
                refine cn_exg rfl (ex_eql rfl rfl) rfl rfl rfl (decide_eq_true g6) rfl rfl ?_
                refine cn_ex rfl (ex_pickt rfl (decide_eq_true g6) rfl) rfl rfl ?_
                refine cn_nil ?_
                refine pe_cut () (Sub.cons rfl rfl (Sub.cons rfl rfl (Sub.cons rfl rfl (Sub.cons rfl rfl (Sub.cons rfl rfl (Sub.cons rfl rfl (Sub.cons rfl rfl (Sub.cons rfl (congrArg Value.bool (by first | (simp [g6]; done) | grind)) (Sub.nil _))))))))) (.cons (.head _ _) rfl (.cons (.head _ _) rfl (.cons (.head _ _) rfl (.cons (.head _ _) rfl (.nil _))))) trivial
              · refine cn_skip rfl rfl rfl rfl (fun h => g6 (of_decide_eq_true (Value.bool.inj h))) rfl ?_
                refine cn_skip rfl rfl rfl rfl (fun h => g6 (of_decide_eq_true (Value.bool.inj h))) rfl ?_
                refine cn_skip rfl rfl rfl rfl (fun h => g6 (of_decide_eq_true (Value.bool.inj h))) rfl ?_
                refine cn_skip rfl rfl rfl rfl (fun h => g6 (of_decide_eq_true (Value.bool.inj h))) rfl ?_
                refine cn_skip rfl rfl rfl rfl (fun h => g6 (of_decide_eq_true (Value.bool.inj h))) rfl ?_
                refine cn_skip rfl rfl rfl rfl (fun h => g6 (of_decide_eq_true (Value.bool.inj h))) rfl ?_
                refine cn_skip rfl rfl rfl rfl (fun h => g6 (of_decide_eq_true (Value.bool.inj h))) rfl ?_
                refine cn_skip rfl rfl rfl rfl (fun h => g6 (of_decide_eq_true (Value.bool.inj h))) rfl ?_
                refine cn_skip rfl rfl rfl rfl (fun h => g6 (of_decide_eq_true (Value.bool.inj h))) rfl ?_
                refine cn_skip rfl rfl rfl rfl (fun h => g6 (of_decide_eq_true (Value.bool.inj h))) rfl ?_
                refine cn_skip rfl rfl rfl rfl (fun h => g6 (of_decide_eq_true (Value.bool.inj h))) rfl ?_
                refine cn_ex rfl (ex_pickf rfl (decide_eq_false g6) rfl) rfl rfl ?_
                refine cn_nil ?_
                refine pe_cut () (Sub.cons rfl rfl (Sub.cons rfl rfl (Sub.cons rfl rfl (Sub.cons rfl rfl (Sub.cons rfl rfl (Sub.cons rfl rfl (Sub.cons rfl rfl (Sub.cons rfl (congrArg Value.bool (by first | (simp [g6]; done) | grind)) (Sub.nil _))))))))) (.cons (.head _ _) rfl (.cons (.head _ _) rfl (.cons (.head _ _) rfl (.cons (.head _ _) rfl (.nil _))))) trivial
            · rintro _ _
              show WC _ _ _ [(4, .slice A1 ((listI F).length) c1), (5, .slice A3 c.length c4), (7, .int .i64 v), (9, .slice A2 n.length c2), (10, .int .i64 i), (11, .pointer (some ⟨r5, 0, none⟩)), (12, .int .i64 k), (83, .bool (decide ((d_listI_F_i.frm = d_c_k) ∧ (d_listI_F_i.to = d_c__k_1_c_length_Int))))] [.row r5 47 [.int .i64 d_listI_F_i.frm, .int .i64 d_listI_F_i.to, .int .i64 amt], .own A2 n.length c2 47 3 (encs encD n), .own A3 c.length c4 3 1 (encs encI c), .own A1 ((listI F).length) c1 47 3 (encs encD (listI F))]
              refine wc_ite rfl (fun c83 => ?_) (fun c83 => ?_)
              · refine wc_region ?_
                refine wl_ex (ex_fieldAddr (off' := 2) rfl Try.underlying47 rfl sz_3 rfl rfl) rfl rfl ?_
                refine wl_ex (ex_load rfl ag_3 (rd_row1 (.head _ _) rfl)) rfl rfl ?_
                refine wl_ex (ex_move rfl) rfl rfl ?_
                have hsb := subTo_bd hF c (v := v) (by omega) k.toNat d_listI_F_i.frm d_listI_F_i.to
                refine wl_ex (ex_sub rfl rfl (by omega) (by omega)) rfl rfl ?_
                refine wl_ex (ex_fieldAddr (off' := 2) rfl Try.underlying47 rfl sz_3 rfl rfl) rfl rfl ?_
                refine wl_store rfl rfl rfl sz_3 (.head _ _) (by simp) ?_
                rw [show List.set ([.int .i64 d_listI_F_i.frm, .int .i64 d_listI_F_i.to, .int .i64 amt] : List Value) 2 (.int .i64 (amt - v)) = [.int .i64 d_listI_F_i.frm, .int .i64 d_listI_F_i.to, .int .i64 (amt - v)] from rfl]
                refine wl_nil ?_
                refine pe_block _ ?_
                refine pe_seq ?_
                refine wc_region ?_
                refine wl_ex (ex_move rfl) rfl rfl ?_
                refine wl_ex (ex_add rfl rfl (by omega) (by omega)) rfl rfl ?_
                refine wl_ex (ex_assign rfl) rfl rfl ?_
                refine wl_nil ?_
                refine pe_again ⟨k + 1, amt - v⟩ (Sub.cons rfl rfl (Sub.cons rfl rfl (Sub.cons rfl rfl (Sub.cons rfl rfl (Sub.cons rfl rfl (Sub.cons rfl rfl (Sub.cons rfl rfl (Sub.nil _)))))))) (.cons (.head _ _) (by first | rfl | simp) (.cons (.head _ _) rfl (.cons (.head _ _) rfl (.cons (.head _ _) rfl (.nil _))))) ?_ ?_
                · show 0 ≤ (k + 1) ∧ (k + 1) ≤ (c.length : Int) ∧ (amt - v) = subTo F c v (k + 1).toNat d_listI_F_i.frm d_listI_F_i.to
                  have hi : (k + 1).toNat = k.toNat + 1 := by omega
                  have he := edge_of (by omega) (hd_c_k (by omega) (by omega)) (hd_c__k_1_c_length_Int (by omega) (by omega))
                  refine ⟨by omega, by omega, ?_⟩
                  rw [hi, subTo_step hcy.nodup v (by omega), he, ← h9]
                  first | (rw [if_pos (by rw [c83.1, c83.2])]; done) | (rw [if_neg (fun e => c83 ⟨(congrArg Prod.fst e).symm, (congrArg Prod.snd e).symm⟩)]; done)
                · first | omega | (simp only []; omega)
              · refine wc_skip ?_
                refine pe_block _ ?_
                refine pe_seq ?_
                refine wc_region ?_
                refine wl_ex (ex_move rfl) rfl rfl ?_
                refine wl_ex (ex_add rfl rfl (by omega) (by omega)) rfl rfl ?_
                refine wl_ex (ex_assign rfl) rfl rfl ?_
                refine wl_nil ?_
                refine pe_again ⟨k + 1, amt⟩ (Sub.cons rfl rfl (Sub.cons rfl rfl (Sub.cons rfl rfl (Sub.cons rfl rfl (Sub.cons rfl rfl (Sub.cons rfl rfl (Sub.cons rfl rfl (Sub.nil _)))))))) (.cons (.head _ _) rfl (.cons (.head _ _) rfl (.cons (.head _ _) rfl (.cons (.head _ _) rfl (.nil _))))) ?_ ?_
                · show 0 ≤ (k + 1) ∧ (k + 1) ≤ (c.length : Int) ∧ amt = subTo F c v (k + 1).toNat d_listI_F_i.frm d_listI_F_i.to
                  have hi : (k + 1).toNat = k.toNat + 1 := by omega
                  have he := edge_of (by omega) (hd_c_k (by omega) (by omega)) (hd_c__k_1_c_length_Int (by omega) (by omega))
                  refine ⟨by omega, by omega, ?_⟩
                  rw [hi, subTo_step hcy.nodup v (by omega), he, ← h9]
                  first | (rw [if_pos (by rw [c83.1, c83.2])]; done) | (rw [if_neg (fun e => c83 ⟨(congrArg Prod.fst e).symm, (congrArg Prod.snd e).symm⟩)]; done)
                · first | omega | (simp only []; omega)
          · refine wc_exit ?_
            refine pe_seq_exit ?_
            refine pe_loop_exit ?_
            refine pe_block_exit ?_
            refine pe_seq ?_
            refine wc_seq ?_
            refine wc_region ?_
            refine wl_ex (ex_fieldAddr (off' := 2) rfl Try.underlying47 rfl sz_3 rfl rfl) rfl rfl ?_
            refine wl_ex (ex_load rfl ag_3 (rd_row1 (.head _ _) rfl)) rfl rfl ?_
            refine wl_ex (ex_gtr rfl rfl) rfl rfl ?_
            refine wl_nil ?_
            refine pe_seq ?_
            refine wc_ite rfl (fun c91 => ?_) (fun c91 => ?_)
            · refine wc_region ?_
              refine wl_ex (ex_move rfl) rfl rfl ?_
              refine wl_ex (ex_loadS rfl ag_47 sz_47 rfl (rd_rowAll (.head _ _))) rfl rfl ?_
              refine wl_buildSlice [.tmp 93] rfl rfl Try.underlying24 sz_47 ze_47 rfl (by simp [Value.cells]) (by omega) (by omega) rfl fun r7 => ?_
              rw [show List.flatMap (fun x => x.cells.toList) [(.agg #[.int .i64 d_listI_F_i.frm, .int .i64 d_listI_F_i.to, .int .i64 amt] : Value)] = encs encD [⟨d_listI_F_i.frm, d_listI_F_i.to, amt⟩] from rfl]
              refine wl_appendE encD_len encD_one rfl rfl Try.underlying24 sz_47 ze_47 rfl by_47 rfl (.tail (.tail (.head _ _))) (sl_own (.head _ _)) (by rfl) (by first | rfl | simp) (by first | omega | (simp; omega)) (by first | omega | (simp; omega)) rfl fun A8 c9 => ?_
              refine wl_ex (ex_assign rfl) rfl rfl ?_
              refine wl_nil ?_
              refine pe_block _ ?_
              refine pe_seq ?_
              refine wc_region ?_
              refine wl_ex (ex_move rfl) rfl rfl ?_
              refine wl_ex (ex_add rfl rfl (by omega) (by omega)) rfl rfl ?_
              refine wl_ex (ex_assign rfl) rfl rfl ?_
              refine wl_nil ?_
              refine pe_again ⟨i + 1, n ++ ([⟨d_listI_F_i.frm, d_listI_F_i.to, amt⟩]), A8, c9⟩ (Sub.cons rfl (by first | rfl | simp) (Sub.cons rfl rfl (Sub.cons rfl rfl (Sub.cons rfl rfl (Sub.cons rfl rfl (Sub.nil _)))))) (.cons (.head _ _) (by first | rfl | simp) (.cons (.tail (.tail (.head _ _))) rfl (.cons (.tail (.tail (.head _ _))) rfl (.nil _)))) ?_ ?_
              · show 0 ≤ (i + 1) ∧ (i + 1) ≤ ((listI F).length : Int) ∧ (n ++ ([⟨d_listI_F_i.frm, d_listI_F_i.to, amt⟩])) = ((listI F).take (i + 1).toNat).filterMap (keepD (subS F c))
                have hi : (i + 1).toNat = i.toNat + 1 := by omega
                have ham : amt = subS F c d_listI_F_i.frm d_listI_F_i.to := by rw [h9, show k.toNat = c.length by omega, hv]; rfl
                refine ⟨by omega, by omega, ?_⟩
                rw [hi, filt_take (hd_listI_F_i (by omega) (by omega)), ← h6]
                unfold keepD
                rw [← ham]
                first | (rw [if_pos c91]; rfl) | (rw [if_neg c91]; simp)
              · first | omega | (simp only []; omega)
            · refine wc_skip ?_
              refine pe_block _ ?_
              refine pe_seq ?_
              refine wc_region ?_
              refine wl_ex (ex_move rfl) rfl rfl ?_
              refine wl_ex (ex_add rfl rfl (by omega) (by omega)) rfl rfl ?_
              refine wl_ex (ex_assign rfl) rfl rfl ?_
              refine wl_nil ?_
              refine pe_again ⟨i + 1, n, A2, c2⟩ (Sub.cons rfl rfl (Sub.cons rfl rfl (Sub.cons rfl rfl (Sub.cons rfl rfl (Sub.cons rfl rfl (Sub.nil _)))))) (.cons (.tail (.head _ _)) rfl (.cons (.tail (.head _ _)) rfl (.cons (.tail (.head _ _)) rfl (.nil _)))) ?_ ?_
              · show 0 ≤ (i + 1) ∧ (i + 1) ≤ ((listI F).length : Int) ∧ n = ((listI F).take (i + 1).toNat).filterMap (keepD (subS F c))
                have hi : (i + 1).toNat = i.toNat + 1 := by omega
                have ham : amt = subS F c d_listI_F_i.frm d_listI_F_i.to := by rw [h9, show k.toNat = c.length by omega, hv]; rfl
                refine ⟨by omega, by omega, ?_⟩
                rw [hi, filt_take (hd_listI_F_i (by omega) (by omega)), ← h6]
                unfold keepD
                rw [← ham]
                first | (rw [if_pos c91]; rfl) | (rw [if_neg c91]; simp)
              · first | omega | (simp only []; omega)
        · refine wc_exit ?_
          refine pe_seq_exit ?_
          refine pe_loop_exit ?_
          refine pe_block_exit ?_
          refine pe_seq ?_
          refine wc_region ?_
          refine wl_ex (ex_move rfl) rfl rfl ?_
          refine wl_ex (ex_assign rfl) rfl rfl ?_
          refine wl_nil ?_
          refine pe_block _ ?_
          have hless := round_less hF hcy
          have hmm : n = listI (subS F c) := by rw [h6, List.take_of_length_le (by omega)]; exact keep_list (fun a b hp => by have := sub_le hcy a b; omega)
          subst hmm
          refine pe_again ⟨subS F c, _, _⟩ (Sub.cons rfl (by first | rfl | simp) (Sub.nil _)) (.cons (.head _ _) (by first | rfl | simp) (.nil _)) ?_ ?_
          · show Norm (subS F c) ∧ ∃ m, (listI (subS F c)).length ≤ m ∧ roundS 64 (bookOf l) = roundS m (subS F c)
            exact ⟨norm_sub hF hcy, m - 1, by omega, by rw [hm2, round_step hc (by omega)]⟩
          · exact hless

end Go.Proofs.Ytolfgdkdghhidaa
