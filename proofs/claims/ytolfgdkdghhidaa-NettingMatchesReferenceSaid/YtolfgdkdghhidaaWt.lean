/- Walks. -/
import Derived.Test.YtolfgdkdghhidaaWs
import Derived.Test.YtolfgdkdghhidaaE11
set_option linter.unusedVariables false
set_option linter.unusedSimpArgs false
namespace Go.Proofs.Ytolfgdkdghhidaa
open Go Go.RowKit

theorem sz_23 : szT Try.prog 23 = some 3 := by kernel_rfl
theorem ok_36 : callOK Try.prog 36 = true := by kernel_rfl

theorem c_Made (Ax : Option Addr) (cx : Nat) (x : List Tri) (w : World) (hx : Sl w Ax (encs encT x)) (hxk : ∀ t ∈ x, t.ok) :
    Cl Try.prog 12 [.slice Ax x.length cx] w (IsS ((madeI x).length) 47 3 (encs encD (madeI x)) w) := by
  refine cl_of Try.func12 rfl Try.ntmps12 rfl (Mem.refl w) ?_
  refine wc_seq ?_
  refine wc_region ?_
  refine wl_ex (ex_assign rfl) rfl rfl ?_
  refine wl_nil ?_
  refine pe_seq ?_
  refine wc_seq ?_
  refine wc_region ?_
  refine wl_ex (ex_assign rfl) rfl rfl ?_
  refine wl_nil ?_
  refine pe_seq ?_
  refine wc_seq ?_
  refine wc_seq ?_
  refine wc_region ?_
  refine wl_ex (ex_assign rfl) rfl rfl ?_
  refine wl_nil ?_
  refine pe_seq ?_
  refine wc_block ?_
  refine wc_nilOwn 47 3 ?_
  refine wc_loop (σ := Int × (List Debt) × (Option Addr) × Nat) (fun s => [(3, .slice s.2.2.1 s.2.1.length s.2.2.2), (4, .int .i64 s.1), (0, .slice Ax x.length cx)]) (fun s => [.own s.2.2.1 s.2.1.length s.2.2.2 47 3 (encs encD s.2.1)]) (fun s => (0 ≤ s.1 ∧ s.1 ≤ (x.length : Int) ∧ s.1 ≤ 20) ∧ s.2.1 = (x.take s.1.toNat).map madeD) (fun s => (20 - s.1).toNat) ((0 : Int), ([] : List Debt), none, 0) (Sub.cons rfl rfl (Sub.cons rfl rfl (Sub.cons rfl rfl (Sub.nil _)))) (.cons (.head _ _) (by first | rfl | simp) (.nil _)) (by first | (simp; done) | (simp; omega)) ?_
  rintro ⟨i, m, A1, c1⟩ hG
  show WC _ _ _ [(3, .slice A1 m.length c1), (4, .int .i64 i), (0, .slice Ax x.length cx)] [.own A1 m.length c1 47 3 (encs encD m)]
  replace hG : (0 ≤ i ∧ i ≤ (x.length : Int) ∧ i ≤ 20) ∧ m = (x.take i.toNat).map madeD := hG
  obtain ⟨h1, h2⟩ := hG
  have hml : m.length ≤ 20 := by rw [h2]; simp; omega
  refine wc_seq ?_
  refine wc_cut (σ := Unit) (fun _ => [(0, .slice Ax x.length cx), (3, .slice A1 m.length c1), (4, .int .i64 i), (13, .bool (decide ((i < (x.length : Int)) ∧ (i < 20))))]) (fun _ => [.own A1 m.length c1 47 3 (encs encD m)]) (fun _ => True) ?_ ?_
  · refine wc_region ?_
    refine wl_ex (ex_move rfl) rfl rfl ?_
    refine wl_ex (ex_move rfl) rfl rfl ?_
    refine wl_ex (ex_len Try.underlying22 rfl) rfl rfl ?_
    refine wl_ex (ex_lss rfl rfl) rfl rfl ?_
    refine wl_ex (ex_move rfl) rfl rfl ?_
    by_cases g1 : i < (x.length : Int)
    · refine wl_pass rfl rfl rfl (decide_eq_true g1) ?_
      refine wl_ex (ex_move rfl) rfl rfl ?_
      refine wl_pass rfl rfl rfl (decide_eq_true g1) ?_
      refine wl_ex (ex_lss rfl rfl) rfl rfl ?_
      refine wl_ex (ex_pickt rfl (decide_eq_true g1) rfl) rfl rfl ?_
      refine wl_nil ?_
      refine pe_cut () (Sub.cons rfl rfl (Sub.cons rfl rfl (Sub.cons rfl rfl (Sub.cons rfl (congrArg Value.bool (by first | (simp [g1]; done) | grind)) (Sub.nil _))))) (.cons (.head _ _) rfl (.nil _)) trivial
    · refine wl_skip rfl rfl rfl (fun h => g1 (of_decide_eq_true (Value.bool.inj h))) rfl rfl ?_
      refine wl_skip rfl rfl rfl (fun h => g1 (of_decide_eq_true (Value.bool.inj h))) rfl rfl ?_
      refine wl_ex (ex_pickf rfl (decide_eq_false g1) rfl) rfl rfl ?_
      refine wl_nil ?_
      refine pe_cut () (Sub.cons rfl rfl (Sub.cons rfl rfl (Sub.cons rfl rfl (Sub.cons rfl (congrArg Value.bool (by first | (simp [g1]; done) | grind)) (Sub.nil _))))) (.cons (.head _ _) rfl (.nil _)) trivial
  · rintro _ _
    show WC _ _ _ [(0, .slice Ax x.length cx), (3, .slice A1 m.length c1), (4, .int .i64 i), (13, .bool (decide ((i < (x.length : Int)) ∧ (i < 20))))] [.own A1 m.length c1 47 3 (encs encD m)]
    refine wc_ite rfl (fun c13 => ?_) (fun c13 => ?_)
    · have hxo : ∀ t, x[i.toNat]? = some t → t.ok := fun t h => hxk t (mem_at h)
      refine wc_skip ?_
      refine pe_seq ?_
      refine wc_seq ?_
      refine wc_block ?_
      refine wc_seq ?_
      obtain ⟨d_x_i, hd_x_i⟩ := get_if x i
      refine wc_mix [.own A1 m.length c1 47 3 (encs encD m)] [.own A1 m.length c1 47 3 (encs encD m)] (fun i => match i with | 5 => ⟨21, Unit, fun _ => True, fun _ => .int .i64 (pickI d_x_i.a 8), fun _ => []⟩ | 11 => ⟨27, Unit, fun _ => True, fun _ => .int .i64 (pickI d_x_i.c 12), fun _ => []⟩ | 14 => ⟨5, Nat, fun _ => True, fun r => .pointer (some ⟨r, 0, none⟩), fun r => [.row r 47 [.int .i64 0, .int .i64 0, .int .i64 0]]⟩ | _ => ⟨0, Unit, fun _ => True, fun _ => undef, fun _ => []⟩) [(0, true), (1, true), (2, true), (3, true), (4, true), (6, true), (7, true), (8, true), (9, true), (10, true), (5, false), (11, false), (12, true), (13, true), (14, false)] [(15, false)] mixed (by kernel_rfl) (.cons (.head _ _) rfl (.nil _)) (.cons (.head _ _) rfl (.nil _)) ?_
      refine cm_ex rfl (ex_move rfl) rfl rfl ?_
      refine cm_ex rfl (ex_move rfl) rfl rfl ?_
      refine cm_ex rfl (ex_indexAddr rfl rfl Try.underlying22 sz_23 (sl_arg hx rfl) (by omega) (by omega) (enc_pos encT_len (by omega))) rfl rfl ?_
      refine cm_ex rfl (ex_indexAddrA (off' := oOf Ax + (i).toNat * 3 + 0) rfl rfl Try.underlying23 sz_3 (by omega) (by omega) (by simp)) rfl rfl ?_
      refine cm_ex rfl (ex_load rfl ag_3 (rd_enc (j := 0) encT_len (sl_arg hx rfl) (hd_x_i (by omega) (by omega)) rfl)) rfl rfl ?_
      refine cm_ex rfl (ex_move rfl) rfl rfl ?_
      refine cm_ex rfl (ex_move rfl) rfl rfl ?_
      refine cm_ex rfl (ex_indexAddr rfl rfl Try.underlying22 sz_23 (sl_arg hx rfl) (by omega) (by omega) (enc_pos encT_len (by omega))) rfl rfl ?_
      refine cm_ex rfl (ex_indexAddrA (off' := oOf Ax + (i).toNat * 3 + 2) rfl rfl Try.underlying23 sz_3 (by omega) (by omega) (by simp)) rfl rfl ?_
      refine cm_ex rfl (ex_load rfl ag_3 (rd_enc (j := 2) encT_len (sl_arg hx rfl) (hd_x_i (by omega) (by omega)) rfl)) rfl rfl ?_
      have hto := hxo _ (hd_x_i (by omega) (by omega))
      unfold Tri.ok i64 at hto
      refine cm_callV [.tmp 20, .const (.int .i64 8)] rfl rfl rfl ok_36 rfl (fun w hm => c_pickR d_x_i.a 8 w   (by omega) (by omega)) rfl ?_
      refine cm_callV [.tmp 26, .const (.int .i64 12)] rfl rfl rfl ok_36 rfl (fun w hm => c_pickR d_x_i.c 12 w   (by omega) (by omega)) rfl ?_
      have hp1 := pick_bd d_x_i.c 12 (by omega)
      refine cm_ex rfl (ex_add rfl rfl (by omega) (by omega)) rfl rfl ?_
      refine cm_ex rfl (ex_build (cells := #[.int .i64 (pickI d_x_i.a 8), .int .i64 0, .int .i64 (1 + (pickI d_x_i.c 12))]) [0, 2] [.tmp 21, .tmp 28] rfl rfl Try.underlying47 ze_47 pl_47 rfl) rfl rfl ?_
      refine cm_alloc rfl rfl ze_47 rfl rfl fun r4 => ?_
      refine cm_nil ?_
      refine cn_tail rfl ?_
      refine wl_storeS (vs := [.int .i64 (pickI d_x_i.a 8), .int .i64 0, .int .i64 (1 + (pickI d_x_i.c 12))]) rfl rfl (by simp [Value.oneCell']) sz_47 rfl (.head _ _) (by simp) ?_
      rw [show ovr [.int .i64 0, .int .i64 0, .int .i64 0] 0 [.int .i64 (pickI d_x_i.a 8), .int .i64 0, .int .i64 (1 + (pickI d_x_i.c 12))] = [.int .i64 (pickI d_x_i.a 8), .int .i64 0, .int .i64 (1 + (pickI d_x_i.c 12))] from rfl]
      refine cn_back (.cons (.tail (.head _ _)) rfl (.nil _)) ?_
      refine cn_nil ?_
      refine pe_seq ?_
      refine wc_seq ?_
      refine wc_mix [.row r4 47 [.int .i64 (pickI d_x_i.a 8), .int .i64 0, .int .i64 (1 + (pickI d_x_i.c 12))], .own A1 m.length c1 47 3 (encs encD m)] [.own A1 m.length c1 47 3 (encs encD m)] (fun i => match i with | 8 => ⟨38, Unit, fun _ => True, fun _ => .int .i64 (pickI d_x_i.b 7), fun _ => []⟩ | _ => ⟨0, Unit, fun _ => True, fun _ => undef, fun _ => []⟩) [(0, true), (1, true), (2, true), (3, true), (4, true), (5, true), (6, true), (7, true), (8, false), (9, true), (10, true), (11, true)] [(12, false)] mixed (by kernel_rfl) (.cons (.head _ _) rfl (.cons (.head _ _) rfl (.nil _))) (.cons (.tail (.head _ _)) rfl (.nil _)) ?_
      refine cm_ex rfl (ex_fieldAddr (off' := 0) rfl Try.underlying47 rfl sz_3 rfl rfl) rfl rfl ?_
      refine cm_ex rfl (ex_load rfl ag_3 (rd_row1 (.head _ _) rfl)) rfl rfl ?_
      have hp2 := pick_bd d_x_i.a 8 (by omega)
      refine cm_ex rfl (ex_add rfl rfl (by omega) (by omega)) rfl rfl ?_
      refine cm_ex rfl (ex_move rfl) rfl rfl ?_
      refine cm_ex rfl (ex_move rfl) rfl rfl ?_
      refine cm_ex rfl (ex_indexAddr rfl rfl Try.underlying22 sz_23 (sl_arg hx rfl) (by omega) (by omega) (enc_pos encT_len (by omega))) rfl rfl ?_
      refine cm_ex rfl (ex_indexAddrA (off' := oOf Ax + (i).toNat * 3 + 1) rfl rfl Try.underlying23 sz_3 (by omega) (by omega) (by simp)) rfl rfl ?_
      refine cm_ex rfl (ex_load rfl ag_3 (rd_enc (j := 1) encT_len (sl_arg hx rfl) (hd_x_i (by omega) (by omega)) rfl)) rfl rfl ?_
      refine cm_callV [.tmp 37, .const (.int .i64 7)] rfl rfl rfl ok_36 rfl (fun w hm => c_pickR d_x_i.b 7 w   (by omega) (by omega)) rfl ?_
      have hp3 := pick_bd d_x_i.b 7 (by omega)
      refine cm_ex rfl (ex_add rfl rfl (by omega) (by omega)) rfl rfl ?_
      refine cm_ex rfl (ex_rem rfl rfl (by omega) (by omega)) rfl rfl ?_
      refine cm_ex rfl (ex_fieldAddr (off' := 1) rfl Try.underlying47 rfl sz_3 rfl rfl) rfl rfl ?_
      refine cm_nil ?_
      refine cn_tail rfl ?_
      refine wl_store rfl rfl rfl sz_3 (.head _ _) (by simp) ?_
      rw [show List.set ([.int .i64 (pickI d_x_i.a 8), .int .i64 0, .int .i64 (1 + (pickI d_x_i.c 12))] : List Value) 1 (.int .i64 ((((pickI d_x_i.a 8) + 1) + (pickI d_x_i.b 7)) % 8)) = [.int .i64 (pickI d_x_i.a 8), .int .i64 ((((pickI d_x_i.a 8) + 1) + (pickI d_x_i.b 7)) % 8), .int .i64 (1 + (pickI d_x_i.c 12))] from rfl]
      refine cn_back (.cons (.tail (.head _ _)) rfl (.nil _)) ?_
      refine cn_nil ?_
      refine pe_seq ?_
      refine wc_seq ?_
      refine wc_seq ?_
      refine wc_region ?_
      refine wl_ex (ex_move rfl) rfl rfl ?_
      refine wl_ex (ex_move rfl) rfl rfl ?_
      refine wl_ex (ex_indexAddr rfl rfl Try.underlying22 sz_23 (sl_arg hx rfl) (by omega) (by omega) (enc_pos encT_len (by omega))) rfl rfl ?_
      refine wl_ex (ex_indexAddrA (off' := oOf Ax + (i).toNat * 3 + 2) rfl rfl Try.underlying23 sz_3 (by omega) (by omega) (by simp)) rfl rfl ?_
      refine wl_ex (ex_load rfl ag_3 (rd_enc (j := 2) encT_len (sl_arg hx rfl) (hd_x_i (by omega) (by omega)) rfl)) rfl rfl ?_
      refine wl_callV [.tmp 46, .const (.int .i64 16)] rfl ok_36 rfl (fun w hm => c_pickR d_x_i.c 16 w   (by omega) (by omega)) rfl ?_
      refine wl_ex (ex_eql rfl rfl) rfl rfl ?_
      refine wl_nil ?_
      refine pe_seq ?_
      refine wc_ite rfl (fun c48 => ?_) (fun c48 => ?_)
      · refine wc_region ?_
        refine wl_ex (ex_move rfl) rfl rfl ?_
        refine wl_ex (ex_move rfl) rfl rfl ?_
        refine wl_ex (ex_indexAddr rfl rfl Try.underlying22 sz_23 (sl_arg hx rfl) (by omega) (by omega) (enc_pos encT_len (by omega))) rfl rfl ?_
        refine wl_ex (ex_indexAddrA (off' := oOf Ax + (i).toNat * 3 + 2) rfl rfl Try.underlying23 sz_3 (by omega) (by omega) (by simp)) rfl rfl ?_
        refine wl_ex (ex_load rfl ag_3 (rd_enc (j := 2) encT_len (sl_arg hx rfl) (hd_x_i (by omega) (by omega)) rfl)) rfl rfl ?_
        refine wl_callV [.tmp 53, .const (.int .i64 1000000000)] rfl ok_36 rfl (fun w hm => c_pickR d_x_i.c 1000000000 w   (by omega) (by omega)) rfl ?_
        have hp4 := pick_bd d_x_i.c 1000000000 (by omega)
        refine wl_ex (ex_add rfl rfl (by omega) (by omega)) rfl rfl ?_
        refine wl_ex (ex_fieldAddr (off' := 2) rfl Try.underlying47 rfl sz_3 rfl rfl) rfl rfl ?_
        refine wl_store rfl rfl rfl sz_3 (.head _ _) (by simp) ?_
        rw [show List.set ([.int .i64 (pickI d_x_i.a 8), .int .i64 ((((pickI d_x_i.a 8) + 1) + (pickI d_x_i.b 7)) % 8), .int .i64 (1 + (pickI d_x_i.c 12))] : List Value) 2 (.int .i64 (1 + (pickI d_x_i.c 1000000000))) = [.int .i64 (pickI d_x_i.a 8), .int .i64 ((((pickI d_x_i.a 8) + 1) + (pickI d_x_i.b 7)) % 8), .int .i64 (1 + (pickI d_x_i.c 1000000000))] from rfl]
        refine wl_nil ?_
        refine pe_seq ?_
        refine wc_region ?_
        refine wl_ex (ex_move rfl) rfl rfl ?_
        refine wl_ex (ex_loadS rfl ag_47 sz_47 rfl (rd_rowAll (.head _ _))) rfl rfl ?_
        refine wl_buildSlice [.tmp 58] rfl rfl Try.underlying24 sz_47 ze_47 rfl (by simp [Value.cells]) (by omega) (by omega) rfl fun r5 => ?_
        rw [show List.flatMap (fun x => x.cells.toList) [(.agg #[.int .i64 (pickI d_x_i.a 8), .int .i64 ((((pickI d_x_i.a 8) + 1) + (pickI d_x_i.b 7)) % 8), .int .i64 (1 + (pickI d_x_i.c 1000000000))] : Value)] = encs encD [⟨pickI d_x_i.a 8, (((pickI d_x_i.a 8) + 1) + (pickI d_x_i.b 7)) % 8, 1 + (pickI d_x_i.c 1000000000)⟩] from rfl]
        refine wl_appendE encD_len encD_one rfl rfl Try.underlying24 sz_47 ze_47 rfl by_47 rfl (.tail (.tail (.head _ _))) (sl_own (.head _ _)) (by rfl) (by first | rfl | simp) (by first | omega | (simp; omega)) (by first | omega | (simp; omega)) rfl fun A6 c7 => ?_
        refine wl_ex (ex_assign rfl) rfl rfl ?_
        refine wl_nil ?_
        refine pe_block _ ?_
        refine pe_seq ?_
        refine wc_region ?_
        refine wl_ex (ex_move rfl) rfl rfl ?_
        refine wl_ex (ex_add rfl rfl (by omega) (by omega)) rfl rfl ?_
        refine wl_ex (ex_assign rfl) rfl rfl ?_
        refine wl_nil ?_
        refine pe_again ⟨i + 1, m ++ ([⟨pickI d_x_i.a 8, (((pickI d_x_i.a 8) + 1) + (pickI d_x_i.b 7)) % 8, 1 + (pickI d_x_i.c 1000000000)⟩]), A6, c7⟩ (Sub.cons rfl (by first | rfl | simp) (Sub.cons rfl rfl (Sub.cons rfl rfl (Sub.nil _)))) (.cons (.head _ _) (by first | rfl | simp) (.nil _)) ?_ ?_
        · show (0 ≤ (i + 1) ∧ (i + 1) ≤ (x.length : Int) ∧ (i + 1) ≤ 20) ∧ (m ++ ([⟨pickI d_x_i.a 8, (((pickI d_x_i.a 8) + 1) + (pickI d_x_i.b 7)) % 8, 1 + (pickI d_x_i.c 1000000000)⟩])) = (x.take (i + 1).toNat).map madeD
          have hi : (i + 1).toNat = i.toNat + 1 := by omega
          refine ⟨by omega, ?_⟩
          rw [hi, map_take1 madeD (hd_x_i (by omega) (by omega)), ← h2]
          unfold madeD
          first | rw [if_pos c48] | rw [if_neg c48]
        · first | omega | (simp only []; omega)
      · refine wc_skip ?_
        refine pe_seq ?_
        refine wc_region ?_
        refine wl_ex (ex_move rfl) rfl rfl ?_
        refine wl_ex (ex_loadS rfl ag_47 sz_47 rfl (rd_rowAll (.head _ _))) rfl rfl ?_
        refine wl_buildSlice [.tmp 58] rfl rfl Try.underlying24 sz_47 ze_47 rfl (by simp [Value.cells]) (by omega) (by omega) rfl fun r8 => ?_
        rw [show List.flatMap (fun x => x.cells.toList) [(.agg #[.int .i64 (pickI d_x_i.a 8), .int .i64 ((((pickI d_x_i.a 8) + 1) + (pickI d_x_i.b 7)) % 8), .int .i64 (1 + (pickI d_x_i.c 12))] : Value)] = encs encD [⟨pickI d_x_i.a 8, (((pickI d_x_i.a 8) + 1) + (pickI d_x_i.b 7)) % 8, 1 + (pickI d_x_i.c 12)⟩] from rfl]
        refine wl_appendE encD_len encD_one rfl rfl Try.underlying24 sz_47 ze_47 rfl by_47 rfl (.tail (.tail (.head _ _))) (sl_own (.head _ _)) (by rfl) (by first | rfl | simp) (by first | omega | (simp; omega)) (by first | omega | (simp; omega)) rfl fun A9 c10 => ?_
        refine wl_ex (ex_assign rfl) rfl rfl ?_
        refine wl_nil ?_
        refine pe_block _ ?_
        refine pe_seq ?_
        refine wc_region ?_
        refine wl_ex (ex_move rfl) rfl rfl ?_
        refine wl_ex (ex_add rfl rfl (by omega) (by omega)) rfl rfl ?_
        refine wl_ex (ex_assign rfl) rfl rfl ?_
        refine wl_nil ?_
        refine pe_again ⟨i + 1, m ++ ([⟨pickI d_x_i.a 8, (((pickI d_x_i.a 8) + 1) + (pickI d_x_i.b 7)) % 8, 1 + (pickI d_x_i.c 12)⟩]), A9, c10⟩ (Sub.cons rfl (by first | rfl | simp) (Sub.cons rfl rfl (Sub.cons rfl rfl (Sub.nil _)))) (.cons (.head _ _) (by first | rfl | simp) (.nil _)) ?_ ?_
        · show (0 ≤ (i + 1) ∧ (i + 1) ≤ (x.length : Int) ∧ (i + 1) ≤ 20) ∧ (m ++ ([⟨pickI d_x_i.a 8, (((pickI d_x_i.a 8) + 1) + (pickI d_x_i.b 7)) % 8, 1 + (pickI d_x_i.c 12)⟩])) = (x.take (i + 1).toNat).map madeD
          have hi : (i + 1).toNat = i.toNat + 1 := by omega
          refine ⟨by omega, ?_⟩
          rw [hi, map_take1 madeD (hd_x_i (by omega) (by omega)), ← h2]
          unfold madeD
          first | rw [if_pos c48] | rw [if_neg c48]
        · first | omega | (simp only []; omega)
    · refine wc_exit ?_
      refine pe_seq_exit ?_
      refine pe_loop_exit ?_
      refine pe_block_exit ?_
      refine pe_seq ?_
      refine wc_seq ?_
      refine wc_region ?_
      refine wl_ex (ex_move rfl) rfl rfl ?_
      refine wl_ex (ex_assign rfl) rfl rfl ?_
      refine wl_nil ?_
      refine pe_seq ?_
      refine wc_ret ?_
      have htk : x.take i.toNat = x.take 20 := by
        by_cases h20 : i = 20
        · rw [h20]; rfl
        · rw [List.take_of_length_le (by omega), List.take_of_length_le (by omega)]
      refine pe_ret1 rfl rfl rfl (fun w' hm => isS_mk hm (.head _ _) ?_ ?_)
      · rw [h2, htk]; rfl
      · rw [h2, htk]; rfl

end Go.Proofs.Ytolfgdkdghhidaa
