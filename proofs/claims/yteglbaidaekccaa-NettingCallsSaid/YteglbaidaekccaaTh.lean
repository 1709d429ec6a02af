/- Walks. -/
import Derived.Test.YteglbaidaekccaaTg
set_option linter.unusedVariables false
set_option linter.unusedSimpArgs false
set_option maxRecDepth 10000
namespace Go.Proofs.Yteglbaidaekccaa
open Go Go.RowKit
theorem mades_take {x : List Quad} {k : Nat} {d : Quad} (h : x[k]? = some d) : (x.take (k + 1)).map madeR = (x.take k).map madeR ++ [madeR d] := by
  rw [List.take_add_one, h, List.map_append]; rfl
theorem ag_31 : isAggT Try.prog 31 = some true := by kernel_rfl
theorem by_56 : byT Try.prog 56 = some 32 := by kernel_rfl
theorem pl_26 : (match Try.prog.underlying 26 with | some (.struct fs) => placesT Try.prog fs | _ => none) = some [(0, 1), (1, 1)] := by kernel_rfl
theorem pl_56 : (match Try.prog.underlying 56 with | some (.struct fs) => placesT Try.prog fs | _ => none) = some [(0, 1), (1, 1), (2, 1), (3, 1)] := by kernel_rfl
theorem sz_31 : szT Try.prog 31 = some 4 := by kernel_rfl
theorem ze_26 : zeT Try.prog 26 = some (.agg #[.slice none 0 0, .int .i64 0]) := by kernel_rfl
theorem ze_31 : zeT Try.prog 31 = some (.agg #[.int .i64 0, .int .i64 0, .int .i64 0, .int .i64 0]) := by kernel_rfl

theorem c_Made37 (c : Int) (Ax : Option Addr) (cx : Nat) (x : List Quad) (w : World) (bc : -9223372036854775808 ≤ c ∧ c < 9223372036854775808) (hx : Sl w Ax (encs encQ x)) (hxk : ∀ t ∈ x, t.ok) :
    Cl Try.prog 5 [.int .i64 c, .slice Ax x.length cx] w (IsR (γ := Option Addr × Nat) (fun _ => True) (fun s => .agg #[.slice s.1 (madesR x).length s.2, .int .i64 (pickI c 1000)]) (fun s => [.own s.1 (madesR x).length s.2 56 4 (encs encR (madesR x))]) w) := by
  refine cl_of Try.func5 rfl Try.ntmps5 rfl (Mem.refl w) ?_
  refine wc_seq ?_
  refine wc_region ?_
  refine wl_alloc ze_26 rfl rfl fun r1 => ?_
  refine wl_nil ?_
  refine pe_seq ?_
  refine wc_seq ?_
  refine wc_region ?_
  refine wl_ex (ex_move rfl) rfl rfl ?_
  refine wl_callV [.tmp 9, .const (.int .i64 1000)] rfl ok_20 rfl (fun w hm => c_pick37 c 1000 w   (by first | omega | (unfold Quad.ok i64q at *; omega)) (by omega)) rfl ?_
  refine wl_ex (ex_build (cells := #[.slice none 0 0, .int .i64 (pickI c 1000)]) [1] [.tmp 10] rfl rfl Try.underlying26 ze_26 pl_26 rfl) rfl rfl ?_
  refine wl_alloc ze_26 rfl rfl fun r2 => ?_
  refine wl_storeS (vs := [.slice none 0 0, .int .i64 (pickI c 1000)]) rfl rfl (by simp [Value.oneCell']) sz_26 rfl (.head _ _) (by simp) ?_
  rw [show ovr [.slice none 0 0, .int .i64 0] 0 [.slice none 0 0, .int .i64 (pickI c 1000)] = [.slice none 0 0, .int .i64 (pickI c 1000)] from rfl]
  refine wl_nil ?_
  refine pe_seq ?_
  refine wc_seq ?_
  refine wc_seq ?_
  refine wc_region ?_
  refine wl_ex (ex_assign rfl) rfl rfl ?_
  refine wl_nil ?_
  refine pe_seq ?_
  refine wc_block ?_
  refine wc_nilOwn 56 4 ?_
  refine wc_loop (σ := Int × (List Rate) × (Option Addr) × Nat) (fun s => [(6, .int .i64 s.1), (1, .slice Ax x.length cx), (4, .pointer (some ⟨r1, 0, none⟩)), (5, .pointer (some ⟨r2, 0, none⟩))]) (fun s => [.own s.2.2.1 s.2.1.length s.2.2.2 56 4 (encs encR s.2.1), .row r2 26 [.slice s.2.2.1 s.2.1.length s.2.2.2, .int .i64 (pickI c 1000)], .row r1 26 [.slice none 0 0, .int .i64 0]]) (fun s => (0 ≤ s.1 ∧ s.1 ≤ (x.length : Int) ∧ s.1 ≤ 6) ∧ s.2.1 = (x.take s.1.toNat).map madeR) (fun s => (6 - s.1).toNat) ((0 : Int), ([] : List Rate), none, 0) (Sub.cons rfl rfl (Sub.cons rfl rfl (Sub.cons rfl rfl (Sub.cons rfl rfl (Sub.nil _))))) (.cons (.head _ _) (by first | rfl | simp) (.cons (.head _ _) (by first | rfl | simp) (.cons (.head _ _) rfl (.nil _)))) (by first | (simp; done) | (simp; omega)) ?_
  rintro ⟨i, m, A1, c1⟩ hG
  show WC _ _ _ [(6, .int .i64 i), (1, .slice Ax x.length cx), (4, .pointer (some ⟨r1, 0, none⟩)), (5, .pointer (some ⟨r2, 0, none⟩))] [.own A1 m.length c1 56 4 (encs encR m), .row r2 26 [.slice A1 m.length c1, .int .i64 (pickI c 1000)], .row r1 26 [.slice none 0 0, .int .i64 0]]
  replace hG : (0 ≤ i ∧ i ≤ (x.length : Int) ∧ i ≤ 6) ∧ m = (x.take i.toNat).map madeR := hG
  obtain ⟨h1, h2⟩ := hG
  have hml : m.length ≤ 6 := by rw [h2]; simp; omega
  refine wc_seq ?_
  refine wc_seq ?_
  refine wc_region ?_
  refine wl_ex (ex_move rfl) rfl rfl ?_
  refine wl_ex (ex_move rfl) rfl rfl ?_
  refine wl_ex (ex_len Try.underlying22 rfl) rfl rfl ?_
  refine wl_ex (ex_lss rfl rfl) rfl rfl ?_
  refine wl_ex (ex_move rfl) rfl rfl ?_
  by_cases g3 : i < (x.length : Int)
  · refine wl_pass rfl rfl rfl (decide_eq_true g3) ?_
    refine wl_ex (ex_move rfl) rfl rfl ?_
    refine wl_pass rfl rfl rfl (decide_eq_true g3) ?_
    refine wl_ex (ex_lss rfl rfl) rfl rfl ?_
    refine wl_ex (ex_pickt rfl (decide_eq_true g3) rfl) rfl rfl ?_
    refine wl_nil ?_
    refine pe_seq ?_
    refine wc_ite rfl (fun c19 => ?_) (fun c19 => ?_)
    · refine wc_skip ?_
      refine pe_seq ?_
      refine wc_seq ?_
      refine wc_block ?_
      refine wc_seq ?_
      refine wc_region ?_
      have hxo : ∀ t, x[i.toNat]? = some t → t.ok := fun t h => hxk t (mem_at h)
      refine wl_ex (ex_move rfl) rfl rfl ?_
      refine wl_ex (ex_move rfl) rfl rfl ?_
      refine wl_ex (ex_indexAddr rfl rfl Try.underlying22 sz_31 (sl_arg hx rfl) (by omega) (by omega) (enc_pos encQ_len (by omega))) rfl rfl ?_
      obtain ⟨d_x_i, hd_x_i⟩ := get_if x i
      refine wl_ex (ex_loadS rfl ag_31 sz_31 (encQ_len _) (rd_encs encQ_len (sl_arg hx rfl) (hd_x_i (by omega) (by omega)))) rfl rfl ?_
      have hqo := hxo _ (hd_x_i (by omega) (by omega))
      unfold Quad.ok i64q at hqo
      have p1 := pick_bd d_x_i.a 127 (by omega)
      have p2 := pick_bd d_x_i.b 24 (by omega)
      have p3 := pick_bd d_x_i.b 86400 (by omega)
      have p4 := pick_bd d_x_i.c 24 (by omega)
      have p5 := pick_bd d_x_i.c (86400 - pickI d_x_i.b 86400) (by omega)
      have p6 := pick_bd d_x_i.d 1000 (by omega)
      have p7 := tdiv_bd hqo.2.1 (n := 24) (by omega)
      refine wl_alloc ze_31 rfl rfl fun r4 => ?_
      refine wl_storeS (vs := [.int .i64 d_x_i.a, .int .i64 d_x_i.b, .int .i64 d_x_i.c, .int .i64 d_x_i.d]) rfl rfl (by simp [Value.oneCell']) sz_31 rfl (.head _ _) (by simp) ?_
      rw [show ovr [.int .i64 0, .int .i64 0, .int .i64 0, .int .i64 0] 0 [.int .i64 d_x_i.a, .int .i64 d_x_i.b, .int .i64 d_x_i.c, .int .i64 d_x_i.d] = [.int .i64 d_x_i.a, .int .i64 d_x_i.b, .int .i64 d_x_i.c, .int .i64 d_x_i.d] from rfl]
      refine wl_nil ?_
      refine pe_seq ?_
      refine wc_seq ?_
      refine wc_mix [.row r4 31 [.int .i64 d_x_i.a, .int .i64 d_x_i.b, .int .i64 d_x_i.c, .int .i64 d_x_i.d], .own A1 m.length c1 56 4 (encs encR m), .row r2 26 [.slice A1 m.length c1, .int .i64 (pickI c 1000)], .row r1 26 [.slice none 0 0, .int .i64 0]] [.row r4 31 [.int .i64 d_x_i.a, .int .i64 d_x_i.b, .int .i64 d_x_i.c, .int .i64 d_x_i.d], .own A1 m.length c1 56 4 (encs encR m), .row r2 26 [.slice A1 m.length c1, .int .i64 (pickI c 1000)], .row r1 26 [.slice none 0 0, .int .i64 0]] (fun i => match i with | 2 => ⟨28, Unit, fun _ => True, fun _ => .int .i64 (pickI d_x_i.a 127), fun _ => []⟩ | 6 => ⟨32, Unit, fun _ => True, fun _ => .int .i64 (pickI d_x_i.b 24), fun _ => []⟩ | 10 => ⟨36, Unit, fun _ => True, fun _ => .int .i64 (pickI d_x_i.d 1000), fun _ => []⟩ | 12 => ⟨8, Nat, fun _ => True, fun r => .pointer (some ⟨r, 0, none⟩), fun r => [.row r 56 [.int .i64 0, .int .i64 0, .int .i64 0, .int .i64 0]]⟩ | _ => ⟨0, Unit, fun _ => True, fun _ => undef, fun _ => []⟩) [(0, true), (1, true), (4, true), (5, true), (8, true), (9, true), (2, false), (3, true), (6, false), (7, true), (10, false), (11, true), (12, false)] [(13, false)] mixed (by kernel_rfl) (.cons (.head _ _) rfl (.cons (.head _ _) rfl (.cons (.head _ _) rfl (.cons (.head _ _) rfl (.nil _))))) (.cons (.head _ _) rfl (.cons (.head _ _) rfl (.cons (.head _ _) rfl (.cons (.head _ _) rfl (.nil _))))) ?_
      refine cm_ex rfl (ex_indexAddrA (off' := 0) rfl rfl Try.underlying31 sz_3 (by omega) (by omega) (by simp)) rfl rfl ?_
      refine cm_ex rfl (ex_load rfl ag_3 (rd_row1 (.head _ _) rfl)) rfl rfl ?_
      refine cm_ex rfl (ex_indexAddrA (off' := 1) rfl rfl Try.underlying31 sz_3 (by omega) (by omega) (by simp)) rfl rfl ?_
      refine cm_ex rfl (ex_load rfl ag_3 (rd_row1 (.head _ _) rfl)) rfl rfl ?_
      refine cm_ex rfl (ex_indexAddrA (off' := 3) rfl rfl Try.underlying31 sz_3 (by omega) (by omega) (by simp)) rfl rfl ?_
      refine cm_ex rfl (ex_load rfl ag_3 (rd_row1 (.head _ _) rfl)) rfl rfl ?_
      refine cm_callV [.tmp 27, .const (.int .i64 127)] rfl rfl rfl ok_20 rfl (fun w hm => c_pick37 d_x_i.a 127 w   (by first | omega | (unfold Quad.ok i64q at *; omega)) (by omega)) rfl ?_
      refine cm_ex rfl (ex_add rfl rfl (by omega) (by omega)) rfl rfl ?_
      refine cm_callV [.tmp 31, .const (.int .i64 24)] rfl rfl rfl ok_20 rfl (fun w hm => c_pick37 d_x_i.b 24 w   (by first | omega | (unfold Quad.ok i64q at *; omega)) (by omega)) rfl ?_
      refine cm_ex rfl (ex_mul rfl rfl (by omega) (by omega)) rfl rfl ?_
      refine cm_callV [.tmp 35, .const (.int .i64 1000)] rfl rfl rfl ok_20 rfl (fun w hm => c_pick37 d_x_i.d 1000 w   (by first | omega | (unfold Quad.ok i64q at *; omega)) (by omega)) rfl ?_
      refine cm_ex rfl (ex_build (cells := #[.int .i64 (1 + (pickI d_x_i.a 127)), .int .i64 (3600 * (pickI d_x_i.b 24)), .int .i64 0, .int .i64 (pickI d_x_i.d 1000)]) [0, 1, 3] [.tmp 29, .tmp 33, .tmp 36] rfl rfl Try.underlying56 ze_56 pl_56 rfl) rfl rfl ?_
      refine cm_alloc rfl rfl ze_56 rfl rfl fun r7 => ?_
      refine cm_nil ?_
      refine cn_tail rfl ?_
      refine wl_storeS (vs := [.int .i64 (1 + (pickI d_x_i.a 127)), .int .i64 (3600 * (pickI d_x_i.b 24)), .int .i64 0, .int .i64 (pickI d_x_i.d 1000)]) rfl rfl (by simp [Value.oneCell']) sz_56 rfl (.head _ _) (by simp) ?_
      rw [show ovr [.int .i64 0, .int .i64 0, .int .i64 0, .int .i64 0] 0 [.int .i64 (1 + (pickI d_x_i.a 127)), .int .i64 (3600 * (pickI d_x_i.b 24)), .int .i64 0, .int .i64 (pickI d_x_i.d 1000)] = [.int .i64 (1 + (pickI d_x_i.a 127)), .int .i64 (3600 * (pickI d_x_i.b 24)), .int .i64 0, .int .i64 (pickI d_x_i.d 1000)] from rfl]
      refine cn_back (.cons (.tail (.head _ _)) rfl (.cons (.tail (.head _ _)) rfl (.cons (.tail (.head _ _)) rfl (.cons (.tail (.head _ _)) rfl (.nil _))))) ?_
      refine cn_nil ?_
      refine pe_seq ?_
      refine wc_seq ?_
      refine wc_mix [.row r7 56 [.int .i64 (1 + (pickI d_x_i.a 127)), .int .i64 (3600 * (pickI d_x_i.b 24)), .int .i64 0, .int .i64 (pickI d_x_i.d 1000)], .row r4 31 [.int .i64 d_x_i.a, .int .i64 d_x_i.b, .int .i64 d_x_i.c, .int .i64 d_x_i.d], .own A1 m.length c1 56 4 (encs encR m), .row r2 26 [.slice A1 m.length c1, .int .i64 (pickI c 1000)], .row r1 26 [.slice none 0 0, .int .i64 0]] [.row r4 31 [.int .i64 d_x_i.a, .int .i64 d_x_i.b, .int .i64 d_x_i.c, .int .i64 d_x_i.d], .own A1 m.length c1 56 4 (encs encR m), .row r2 26 [.slice A1 m.length c1, .int .i64 (pickI c 1000)], .row r1 26 [.slice none 0 0, .int .i64 0]] (fun i => match i with | 4 => ⟨42, Unit, fun _ => True, fun _ => .int .i64 (pickI d_x_i.c 24), fun _ => []⟩ | _ => ⟨0, Unit, fun _ => True, fun _ => undef, fun _ => []⟩) [(0, true), (1, true), (2, true), (3, true), (4, false), (5, true), (6, true), (7, true), (8, true), (9, true)] [(10, false)] mixed (by kernel_rfl) (.cons (.head _ _) rfl (.cons (.head _ _) rfl (.cons (.head _ _) rfl (.cons (.head _ _) rfl (.cons (.head _ _) rfl (.nil _)))))) (.cons (.tail (.head _ _)) rfl (.cons (.tail (.head _ _)) rfl (.cons (.tail (.head _ _)) rfl (.cons (.tail (.head _ _)) rfl (.nil _))))) ?_
      refine cm_ex rfl (ex_fieldAddr (off' := 1) rfl Try.underlying56 rfl sz_3 rfl rfl) rfl rfl ?_
      refine cm_ex rfl (ex_load rfl ag_3 (rd_row1 (.head _ _) rfl)) rfl rfl ?_
      refine cm_ex rfl (ex_indexAddrA (off' := 2) rfl rfl Try.underlying31 sz_3 (by omega) (by omega) (by simp)) rfl rfl ?_
      refine cm_ex rfl (ex_load rfl ag_3 (rd_row1 (.tail (.head _ _)) rfl)) rfl rfl ?_
      refine cm_callV [.tmp 41, .const (.int .i64 24)] rfl rfl rfl ok_20 rfl (fun w hm => c_pick37 d_x_i.c 24 w   (by first | omega | (unfold Quad.ok i64q at *; omega)) (by omega)) rfl ?_
      refine cm_ex rfl (ex_add rfl rfl (by omega) (by omega)) rfl rfl ?_
      refine cm_ex rfl (ex_mul rfl rfl (by omega) (by omega)) rfl rfl ?_
      refine cm_ex rfl (ex_add rfl rfl (by omega) (by omega)) rfl rfl ?_
      refine cm_ex rfl (ex_min rfl rfl) rfl rfl ?_
      refine cm_ex rfl (ex_fieldAddr (off' := 2) rfl Try.underlying56 rfl sz_3 rfl rfl) rfl rfl ?_
      refine cm_nil ?_
      refine cn_tail rfl ?_
      refine wl_store rfl rfl rfl sz_3 (.head _ _) (by simp) ?_
      rw [show List.set ([.int .i64 (1 + (pickI d_x_i.a 127)), .int .i64 (3600 * (pickI d_x_i.b 24)), .int .i64 0, .int .i64 (pickI d_x_i.d 1000)] : List Value) 2 (.int .i64 (min ((3600 * (pickI d_x_i.b 24)) + (3600 * (1 + (pickI d_x_i.c 24)))) 86400)) = [.int .i64 (1 + (pickI d_x_i.a 127)), .int .i64 (3600 * (pickI d_x_i.b 24)), .int .i64 (min ((3600 * (pickI d_x_i.b 24)) + (3600 * (1 + (pickI d_x_i.c 24)))) 86400), .int .i64 (pickI d_x_i.d 1000)] from rfl]
      refine cn_back (.cons (.tail (.head _ _)) rfl (.cons (.tail (.head _ _)) rfl (.cons (.tail (.head _ _)) rfl (.cons (.tail (.head _ _)) rfl (.nil _))))) ?_
      refine cn_nil ?_
      refine pe_seq ?_
      refine wc_seq ?_
      refine wc_seq ?_
      refine wc_region ?_
      refine wl_ex (ex_indexAddrA (off' := 1) rfl rfl Try.underlying31 sz_3 (by omega) (by omega) (by simp)) rfl rfl ?_
      refine wl_ex (ex_load rfl ag_3 (rd_row1 (.tail (.head _ _)) rfl)) rfl rfl ?_
      refine wl_ex (ex_quot rfl rfl (by omega) (by omega)) rfl rfl ?_
      refine wl_callV [.tmp 50, .const (.int .i64 4)] rfl ok_20 rfl (fun w hm => c_pick37 ((d_x_i.b).tdiv 24) 4 w   (by first | omega | (unfold Quad.ok i64q at *; omega)) (by omega)) rfl ?_
      refine wl_ex (ex_eql rfl rfl) rfl rfl ?_
      refine wl_nil ?_
      refine pe_seq ?_
      refine wc_ite rfl (fun c52 => ?_) (fun c52 => ?_)
      · refine wc_seq ?_
        refine wc_region ?_
        refine wl_ex (ex_indexAddrA (off' := 1) rfl rfl Try.underlying31 sz_3 (by omega) (by omega) (by simp)) rfl rfl ?_
        refine wl_ex (ex_load rfl ag_3 (rd_row1 (.tail (.head _ _)) rfl)) rfl rfl ?_
        refine wl_callV [.tmp 54, .const (.int .i64 86400)] rfl ok_20 rfl (fun w hm => c_pick37 d_x_i.b 86400 w   (by first | omega | (unfold Quad.ok i64q at *; omega)) (by omega)) rfl ?_
        refine wl_ex (ex_fieldAddr (off' := 1) rfl Try.underlying56 rfl sz_3 rfl rfl) rfl rfl ?_
        refine wl_store rfl rfl rfl sz_3 (.head _ _) (by simp) ?_
        rw [show List.set ([.int .i64 (1 + (pickI d_x_i.a 127)), .int .i64 (3600 * (pickI d_x_i.b 24)), .int .i64 (min ((3600 * (pickI d_x_i.b 24)) + (3600 * (1 + (pickI d_x_i.c 24)))) 86400), .int .i64 (pickI d_x_i.d 1000)] : List Value) 1 (.int .i64 (pickI d_x_i.b 86400)) = [.int .i64 (1 + (pickI d_x_i.a 127)), .int .i64 (pickI d_x_i.b 86400), .int .i64 (min ((3600 * (pickI d_x_i.b 24)) + (3600 * (1 + (pickI d_x_i.c 24)))) 86400), .int .i64 (pickI d_x_i.d 1000)] from rfl]
        refine wl_nil ?_
        refine pe_seq ?_
        refine wc_mix [.row r7 56 [.int .i64 (1 + (pickI d_x_i.a 127)), .int .i64 (pickI d_x_i.b 86400), .int .i64 (min ((3600 * (pickI d_x_i.b 24)) + (3600 * (1 + (pickI d_x_i.c 24)))) 86400), .int .i64 (pickI d_x_i.d 1000)], .row r4 31 [.int .i64 d_x_i.a, .int .i64 d_x_i.b, .int .i64 d_x_i.c, .int .i64 d_x_i.d], .own A1 m.length c1 56 4 (encs encR m), .row r2 26 [.slice A1 m.length c1, .int .i64 (pickI c 1000)], .row r1 26 [.slice none 0 0, .int .i64 0]] [.row r4 31 [.int .i64 d_x_i.a, .int .i64 d_x_i.b, .int .i64 d_x_i.c, .int .i64 d_x_i.d], .own A1 m.length c1 56 4 (encs encR m), .row r2 26 [.slice A1 m.length c1, .int .i64 (pickI c 1000)], .row r1 26 [.slice none 0 0, .int .i64 0]] (fun i => match i with | 8 => ⟨65, Unit, fun _ => True, fun _ => .int .i64 (pickI d_x_i.c (86400 - (pickI d_x_i.b 86400))), fun _ => []⟩ | _ => ⟨0, Unit, fun _ => True, fun _ => undef, fun _ => []⟩) [(0, true), (1, true), (2, true), (3, true), (4, true), (5, true), (6, true), (7, true), (8, false), (9, true), (10, true)] [(11, false)] mixed (by kernel_rfl) (.cons (.head _ _) rfl (.cons (.head _ _) rfl (.cons (.head _ _) rfl (.cons (.head _ _) rfl (.cons (.head _ _) rfl (.nil _)))))) (.cons (.tail (.head _ _)) rfl (.cons (.tail (.head _ _)) rfl (.cons (.tail (.head _ _)) rfl (.cons (.tail (.head _ _)) rfl (.nil _))))) ?_
        refine cm_ex rfl (ex_fieldAddr (off' := 1) rfl Try.underlying56 rfl sz_3 rfl rfl) rfl rfl ?_
        refine cm_ex rfl (ex_load rfl ag_3 (rd_row1 (.head _ _) rfl)) rfl rfl ?_
        refine cm_ex rfl (ex_add rfl rfl (by omega) (by omega)) rfl rfl ?_
        refine cm_ex rfl (ex_indexAddrA (off' := 2) rfl rfl Try.underlying31 sz_3 (by omega) (by omega) (by simp)) rfl rfl ?_
        refine cm_ex rfl (ex_load rfl ag_3 (rd_row1 (.tail (.head _ _)) rfl)) rfl rfl ?_
        refine cm_ex rfl (ex_fieldAddr (off' := 1) rfl Try.underlying56 rfl sz_3 rfl rfl) rfl rfl ?_
        refine cm_ex rfl (ex_load rfl ag_3 (rd_row1 (.head _ _) rfl)) rfl rfl ?_
        refine cm_ex rfl (ex_sub rfl rfl (by omega) (by omega)) rfl rfl ?_
        refine cm_callV [.tmp 61, .tmp 64] rfl rfl rfl ok_20 rfl (fun w hm => c_pick37 d_x_i.c (86400 - (pickI d_x_i.b 86400)) w   (by first | omega | (unfold Quad.ok i64q at *; omega)) (by omega)) rfl ?_
        refine cm_ex rfl (ex_add rfl rfl (by omega) (by omega)) rfl rfl ?_
        refine cm_ex rfl (ex_fieldAddr (off' := 2) rfl Try.underlying56 rfl sz_3 rfl rfl) rfl rfl ?_
        refine cm_nil ?_
        refine cn_tail rfl ?_
        refine wl_store rfl rfl rfl sz_3 (.head _ _) (by simp) ?_
        rw [show List.set ([.int .i64 (1 + (pickI d_x_i.a 127)), .int .i64 (pickI d_x_i.b 86400), .int .i64 (min ((3600 * (pickI d_x_i.b 24)) + (3600 * (1 + (pickI d_x_i.c 24)))) 86400), .int .i64 (pickI d_x_i.d 1000)] : List Value) 2 (.int .i64 (((pickI d_x_i.b 86400) + 1) + (pickI d_x_i.c (86400 - (pickI d_x_i.b 86400))))) = [.int .i64 (1 + (pickI d_x_i.a 127)), .int .i64 (pickI d_x_i.b 86400), .int .i64 (((pickI d_x_i.b 86400) + 1) + (pickI d_x_i.c (86400 - (pickI d_x_i.b 86400)))), .int .i64 (pickI d_x_i.d 1000)] from rfl]
        refine cn_back (.cons (.tail (.head _ _)) rfl (.cons (.tail (.head _ _)) rfl (.cons (.tail (.head _ _)) rfl (.cons (.tail (.head _ _)) rfl (.nil _))))) ?_
        refine cn_nil ?_
        refine pe_seq ?_
        refine wc_region ?_
        refine wl_ex (ex_fieldAddr (off' := 0) rfl Try.underlying26 rfl sz_24 rfl rfl) rfl rfl ?_
        refine wl_ex (ex_load rfl ag_24 (rd_row1 (.tail (.tail (.tail (.head _ _)))) rfl)) rfl rfl ?_
        refine wl_ex (ex_loadS rfl ag_56 sz_56 rfl (rd_rowAll (.head _ _))) rfl rfl ?_
        refine wl_buildSlice [.tmp 70] rfl rfl Try.underlying24 sz_56 ze_56 rfl (by simp [Value.cells]) (by omega) (by omega) rfl fun r8 => ?_
        rw [show List.flatMap (fun x => x.cells.toList) ([(.agg #[.int .i64 (1 + (pickI d_x_i.a 127)), .int .i64 (pickI d_x_i.b 86400), .int .i64 (((pickI d_x_i.b 86400) + 1) + (pickI d_x_i.c (86400 - (pickI d_x_i.b 86400)))), .int .i64 (pickI d_x_i.d 1000)] : Value)] : List Value) = encs encR [(⟨1 + (pickI d_x_i.a 127), pickI d_x_i.b 86400, ((pickI d_x_i.b 86400) + 1) + (pickI d_x_i.c (86400 - (pickI d_x_i.b 86400))), pickI d_x_i.d 1000⟩ : Rate)] from rfl]
        refine wl_appendE encR_len encR_one rfl rfl Try.underlying24 sz_56 ze_56 rfl by_56 rfl (.tail (.tail (.tail (.head _ _)))) (sl_own (.head _ _)) (by rfl) (by first | rfl | simp) (by first | omega | (simp; omega)) (by first | omega | (simp; omega)) rfl fun A9 c10 => ?_
        refine wl_ex (ex_fieldAddr (off' := 0) rfl Try.underlying26 rfl sz_24 rfl rfl) rfl rfl ?_
        refine wl_store rfl rfl rfl sz_24 (.tail (.tail (.tail (.tail (.head _ _))))) (by simp) ?_
        rw [show List.set ([.slice A1 m.length c1, .int .i64 (pickI c 1000)] : List Value) 0 (.slice A9 ((m ++ ([(⟨1 + (pickI d_x_i.a 127), pickI d_x_i.b 86400, ((pickI d_x_i.b 86400) + 1) + (pickI d_x_i.c (86400 - (pickI d_x_i.b 86400))), pickI d_x_i.d 1000⟩ : Rate)])).length) c10) = [.slice A9 ((m ++ ([(⟨1 + (pickI d_x_i.a 127), pickI d_x_i.b 86400, ((pickI d_x_i.b 86400) + 1) + (pickI d_x_i.c (86400 - (pickI d_x_i.b 86400))), pickI d_x_i.d 1000⟩ : Rate)])).length) c10, .int .i64 (pickI c 1000)] from rfl]
        refine wl_nil ?_
        refine pe_block _ ?_
        refine pe_seq ?_
        refine wc_region ?_
        refine wl_ex (ex_move rfl) rfl rfl ?_
        refine wl_ex (ex_add rfl rfl (by omega) (by omega)) rfl rfl ?_
        refine wl_ex (ex_assign rfl) rfl rfl ?_
        refine wl_nil ?_
        refine pe_again ⟨i + 1, m ++ ([(⟨1 + (pickI d_x_i.a 127), pickI d_x_i.b 86400, ((pickI d_x_i.b 86400) + 1) + (pickI d_x_i.c (86400 - (pickI d_x_i.b 86400))), pickI d_x_i.d 1000⟩ : Rate)]), A9, c10⟩ (Sub.cons rfl rfl (Sub.cons rfl rfl (Sub.cons rfl rfl (Sub.cons rfl rfl (Sub.nil _))))) (.cons (.tail (.head _ _)) (by first | rfl | simp) (.cons (.head _ _) (by first | rfl | simp) (.cons (.tail (.tail (.tail (.head _ _)))) rfl (.nil _)))) ?_ ?_
        · show (0 ≤ (i + 1) ∧ (i + 1) ≤ (x.length : Int) ∧ (i + 1) ≤ 6) ∧ (m ++ ([(⟨1 + (pickI d_x_i.a 127), pickI d_x_i.b 86400, ((pickI d_x_i.b 86400) + 1) + (pickI d_x_i.c (86400 - (pickI d_x_i.b 86400))), pickI d_x_i.d 1000⟩ : Rate)])) = (x.take (i + 1).toNat).map madeR
          have hi : (i + 1).toNat = i.toNat + 1 := by omega
          refine ⟨by omega, ?_⟩
          rw [hi, mades_take (hd_x_i (by omega) (by omega)), ← h2]
          unfold madeR
          first | rw [if_pos c52] | rw [if_neg c52]
        · first | omega | (simp only []; omega)
      · refine wc_skip ?_
        refine pe_seq ?_
        refine wc_region ?_
        refine wl_ex (ex_fieldAddr (off' := 0) rfl Try.underlying26 rfl sz_24 rfl rfl) rfl rfl ?_
        refine wl_ex (ex_load rfl ag_24 (rd_row1 (.tail (.tail (.tail (.head _ _)))) rfl)) rfl rfl ?_
        refine wl_ex (ex_loadS rfl ag_56 sz_56 rfl (rd_rowAll (.head _ _))) rfl rfl ?_
        refine wl_buildSlice [.tmp 70] rfl rfl Try.underlying24 sz_56 ze_56 rfl (by simp [Value.cells]) (by omega) (by omega) rfl fun r11 => ?_
        rw [show List.flatMap (fun x => x.cells.toList) ([(.agg #[.int .i64 (1 + (pickI d_x_i.a 127)), .int .i64 (3600 * (pickI d_x_i.b 24)), .int .i64 (min ((3600 * (pickI d_x_i.b 24)) + (3600 * (1 + (pickI d_x_i.c 24)))) 86400), .int .i64 (pickI d_x_i.d 1000)] : Value)] : List Value) = encs encR [(⟨1 + (pickI d_x_i.a 127), 3600 * (pickI d_x_i.b 24), min ((3600 * (pickI d_x_i.b 24)) + (3600 * (1 + (pickI d_x_i.c 24)))) 86400, pickI d_x_i.d 1000⟩ : Rate)] from rfl]
        refine wl_appendE encR_len encR_one rfl rfl Try.underlying24 sz_56 ze_56 rfl by_56 rfl (.tail (.tail (.tail (.head _ _)))) (sl_own (.head _ _)) (by rfl) (by first | rfl | simp) (by first | omega | (simp; omega)) (by first | omega | (simp; omega)) rfl fun A12 c13 => ?_
        refine wl_ex (ex_fieldAddr (off' := 0) rfl Try.underlying26 rfl sz_24 rfl rfl) rfl rfl ?_
        refine wl_store rfl rfl rfl sz_24 (.tail (.tail (.tail (.tail (.head _ _))))) (by simp) ?_
        rw [show List.set ([.slice A1 m.length c1, .int .i64 (pickI c 1000)] : List Value) 0 (.slice A12 ((m ++ ([(⟨1 + (pickI d_x_i.a 127), 3600 * (pickI d_x_i.b 24), min ((3600 * (pickI d_x_i.b 24)) + (3600 * (1 + (pickI d_x_i.c 24)))) 86400, pickI d_x_i.d 1000⟩ : Rate)])).length) c13) = [.slice A12 ((m ++ ([(⟨1 + (pickI d_x_i.a 127), 3600 * (pickI d_x_i.b 24), min ((3600 * (pickI d_x_i.b 24)) + (3600 * (1 + (pickI d_x_i.c 24)))) 86400, pickI d_x_i.d 1000⟩ : Rate)])).length) c13, .int .i64 (pickI c 1000)] from rfl]
        refine wl_nil ?_
        refine pe_block _ ?_
        refine pe_seq ?_
        refine wc_region ?_
        refine wl_ex (ex_move rfl) rfl rfl ?_
        refine wl_ex (ex_add rfl rfl (by omega) (by omega)) rfl rfl ?_
        refine wl_ex (ex_assign rfl) rfl rfl ?_
        refine wl_nil ?_
        refine pe_again ⟨i + 1, m ++ ([(⟨1 + (pickI d_x_i.a 127), 3600 * (pickI d_x_i.b 24), min ((3600 * (pickI d_x_i.b 24)) + (3600 * (1 + (pickI d_x_i.c 24)))) 86400, pickI d_x_i.d 1000⟩ : Rate)]), A12, c13⟩ (Sub.cons rfl rfl (Sub.cons rfl rfl (Sub.cons rfl rfl (Sub.cons rfl rfl (Sub.nil _))))) (.cons (.tail (.head _ _)) (by first | rfl | simp) (.cons (.head _ _) (by first | rfl | simp) (.cons (.tail (.tail (.tail (.head _ _)))) rfl (.nil _)))) ?_ ?_
        · show (0 ≤ (i + 1) ∧ (i + 1) ≤ (x.length : Int) ∧ (i + 1) ≤ 6) ∧ (m ++ ([(⟨1 + (pickI d_x_i.a 127), 3600 * (pickI d_x_i.b 24), min ((3600 * (pickI d_x_i.b 24)) + (3600 * (1 + (pickI d_x_i.c 24)))) 86400, pickI d_x_i.d 1000⟩ : Rate)])) = (x.take (i + 1).toNat).map madeR
          have hi : (i + 1).toNat = i.toNat + 1 := by omega
          refine ⟨by omega, ?_⟩
          rw [hi, mades_take (hd_x_i (by omega) (by omega)), ← h2]
          unfold madeR
          first | rw [if_pos c52] | rw [if_neg c52]
        · first | omega | (simp only []; omega)
    · refine wc_exit ?_
      refine pe_seq_exit ?_
      refine pe_loop_exit ?_
      refine pe_block_exit ?_
      refine pe_seq ?_
      refine wc_seq ?_
      refine wc_region ?_
      refine wl_ex (ex_loadS rfl ag_26 sz_26 rfl (rd_rowAll (.tail (.head _ _)))) rfl rfl ?_
      refine wl_storeS (vs := [.slice A1 m.length c1, .int .i64 (pickI c 1000)]) rfl rfl (by simp [Value.oneCell']) sz_26 rfl (.tail (.tail (.head _ _))) (by simp) ?_
      rw [show ovr [.slice none 0 0, .int .i64 0] 0 [.slice A1 m.length c1, .int .i64 (pickI c 1000)] = [.slice A1 m.length c1, .int .i64 (pickI c 1000)] from rfl]
      refine wl_nil ?_
      refine pe_seq ?_
      refine wc_ret ?_
      have hm6 : m = madesR x := by
        rw [h2]; unfold madesR; congr 1
        by_cases h6 : i = 6
        · rw [h6]; rfl
        · rw [List.take_of_length_le (by omega), List.take_of_length_le (by omega)]
      refine pe_retC rfl rfl rfl ag_26 sz_26 rfl (rd_rowAll (.head _ _)) (fun w' hm => ⟨(A1, c1), trivial, ?_, ?_⟩)
      · rw [hm6]
      · rw [← hm6]; exact hm.ent (.cons (.tail (.head _ _)) rfl (.nil _))
  · refine wl_skip rfl rfl rfl (fun h => g3 (of_decide_eq_true (Value.bool.inj h))) rfl rfl ?_
    refine wl_skip rfl rfl rfl (fun h => g3 (of_decide_eq_true (Value.bool.inj h))) rfl rfl ?_
    refine wl_ex (ex_pickf rfl (decide_eq_false g3) rfl) rfl rfl ?_
    refine wl_nil ?_
    refine pe_seq ?_
    refine wc_iff rfl ?_
    refine wc_exit ?_
    refine pe_seq_exit ?_
    refine pe_loop_exit ?_
    refine pe_block_exit ?_
    refine pe_seq ?_
    refine wc_seq ?_
    refine wc_region ?_
    refine wl_ex (ex_loadS rfl ag_26 sz_26 rfl (rd_rowAll (.tail (.head _ _)))) rfl rfl ?_
    refine wl_storeS (vs := [.slice A1 m.length c1, .int .i64 (pickI c 1000)]) rfl rfl (by simp [Value.oneCell']) sz_26 rfl (.tail (.tail (.head _ _))) (by simp) ?_
    rw [show ovr [.slice none 0 0, .int .i64 0] 0 [.slice A1 m.length c1, .int .i64 (pickI c 1000)] = [.slice A1 m.length c1, .int .i64 (pickI c 1000)] from rfl]
    refine wl_nil ?_
    refine pe_seq ?_
    refine wc_ret ?_
    have hm6 : m = madesR x := by
      rw [h2]; unfold madesR; congr 1
      by_cases h6 : i = 6
      · rw [h6]; rfl
      · rw [List.take_of_length_le (by omega), List.take_of_length_le (by omega)]
    refine pe_retC rfl rfl rfl ag_26 sz_26 rfl (rd_rowAll (.head _ _)) (fun w' hm => ⟨(A1, c1), trivial, ?_, ?_⟩)
    · rw [hm6]
    · rw [← hm6]; exact hm.ent (.cons (.tail (.head _ _)) rfl (.nil _))

end Go.Proofs.Yteglbaidaekccaa
