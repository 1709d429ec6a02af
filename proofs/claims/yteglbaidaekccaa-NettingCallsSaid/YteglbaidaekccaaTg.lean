/- Walks. -/
import Derived.Test.YteglbaidaekccaaTf
import Derived.Test.YteglbaidaekccaaE11
import Derived.Test.YteglbaidaekccaaP39
set_option linter.unusedVariables false
set_option linter.unusedSimpArgs false
set_option maxRecDepth 10000
namespace Go.Proofs.Yteglbaidaekccaa
open Go Go.RowKit
structure Quad where
  a : Int
  b : Int
  c : Int
  d : Int
instance : Inhabited Quad := ⟨⟨0, 0, 0, 0⟩⟩
def i64q (n : Int) : Prop := -9223372036854775808 ≤ n ∧ n < 9223372036854775808
def Quad.ok (t : Quad) : Prop := i64q t.a ∧ i64q t.b ∧ i64q t.c ∧ i64q t.d
def encQ (t : Quad) : List Value := [.int .i64 t.a, .int .i64 t.b, .int .i64 t.c, .int .i64 t.d]
theorem encQ_len (t : Quad) : (encQ t).length = 4 := rfl
theorem encQ_one1 (t : Quad) : ∀ v ∈ encQ t, v.oneCell' = true := by simp [encQ, Value.oneCell']
theorem tdiv_bd {m n : Int} (hm : -9223372036854775808 ≤ m ∧ m < 9223372036854775808) (hn : 0 < n) : -9223372036854775808 ≤ m.tdiv n ∧ m.tdiv n < 9223372036854775808 := by
  rcases Int.le_total 0 m with h0 | h0
  · rw [Int.tdiv_eq_ediv_of_nonneg h0]
    have := Int.ediv_le_self n h0
    have := Int.ediv_nonneg h0 (show 0 ≤ n by omega)
    omega
  · have h2 : m = -(-m) := by omega
    have h3 : 0 ≤ -m := by omega
    rw [h2, Int.neg_tdiv, Int.tdiv_eq_ediv_of_nonneg h3]
    have := Int.ediv_le_self n h3
    have := Int.ediv_nonneg h3 (show 0 ≤ n by omega)
    omega
def zoneI (c : Int) : Int := if pickI c 8 = 7 then pickI (c.tdiv 8) 100801 - 50400 else 1800 * (pickI c 57 - 28)
theorem zone_ok {c : Int} (h : -9223372036854775808 ≤ c ∧ c < 9223372036854775808) : zoneOK (zoneI c) := by
  have h1 := pick_bd (c.tdiv 8) 100801 (by omega)
  have h2 := pick_bd c 57 (by omega)
  unfold zoneI zoneOK
  split <;> omega
def fromI (c : Int) : Int := max (1800 * pickI c 1000 + pickI (c.tdiv 1000) 3 - 1) 0
def lastI (d : Int) : Int := if pickI d 4 = 3 then pickI (d.tdiv 4) 345600 else pickI (d.tdiv 4) 5000
theorem during_ok {c d : Int} (hc : -9223372036854775808 ≤ c ∧ c < 9223372036854775808) (hd : -9223372036854775808 ≤ d ∧ d < 9223372036854775808) : (0 ≤ fromI c ∧ fromI c ≤ 1800001) ∧ 0 ≤ lastI d ∧ lastI d < 345600 := by
  have h1 := pick_bd c 1000 (by omega)
  have h2 := pick_bd (c.tdiv 1000) 3 (by omega)
  have h3 := pick_bd (d.tdiv 4) 345600 (by omega)
  have h4 := pick_bd (d.tdiv 4) 5000 (by omega)
  unfold fromI lastI
  refine ⟨by omega, ?_⟩
  split <;> omega
def madeR (t : Quad) : Rate :=
  if pickI (t.b.tdiv 24) 4 = 3 then ⟨1 + pickI t.a 127, pickI t.b 86400, pickI t.b 86400 + 1 + pickI t.c (86400 - pickI t.b 86400), pickI t.d 1000⟩
  else ⟨1 + pickI t.a 127, 3600 * pickI t.b 24, min (3600 * pickI t.b 24 + 3600 * (1 + pickI t.c 24)) 86400, pickI t.d 1000⟩
def madesR (x : List Quad) : List Rate := (x.take 6).map madeR
theorem madeR_ok {t : Quad} (h : t.ok) : okR (madeR t) := by
  obtain ⟨h1, h2, h3, h4⟩ := h
  unfold i64q at *
  have p1 := pick_bd t.a 127 (by omega)
  have p2 := pick_bd t.b 24 (by omega)
  have p3 := pick_bd t.b 86400 (by omega)
  have p4 := pick_bd t.c 24 (by omega)
  have p5 := pick_bd t.c (86400 - pickI t.b 86400) (by omega)
  have p6 := pick_bd t.d 1000 (by omega)
  unfold madeR okR
  split <;> (simp only []; omega)
theorem tar_ok (c : Int) {x : List Quad} (hx : ∀ t ∈ x, t.ok) : tarOK (pickI c 1000) (madesR x) := by
  have := pick_bd c 1000 (by omega)
  refine ⟨by omega, by simp [madesR]; omega, fun r hr => ?_⟩
  obtain ⟨t, ht, rfl⟩ := List.mem_map.1 hr
  exact madeR_ok (hx t (List.mem_of_mem_take ht))
theorem ok_20 : callOK Try.prog 20 = true := by kernel_rfl

theorem c_pick37 (c n : Int) (w : World) (b1 : -9223372036854775808 ≤ c ∧ c < 9223372036854775808) (b3 : 0 < n) :
    Cl Try.prog 20 [.int .i64 c, .int .i64 n] w (IsV (.int .i64 (pickI c n)) w) := by
  refine cl_of Try.func20 rfl Try.ntmps20 rfl (Mem.refl w) ?_
  refine wc_seq ?_
  refine wc_region ?_
  refine wl_ex (ex_assign rfl) rfl rfl ?_
  refine wl_nil ?_
  refine pe_seq ?_
  refine wc_seq ?_
  refine wc_seq ?_
  refine wc_region ?_
  refine wl_ex (ex_move rfl) rfl rfl ?_
  refine wl_ex (ex_lss rfl rfl) rfl rfl ?_
  refine wl_nil ?_
  refine pe_seq ?_
  refine wc_ite rfl (fun c6 => ?_) (fun c6 => ?_)
  · refine wc_region ?_
    refine wl_ex (ex_move rfl) rfl rfl ?_
    refine wl_ex (ex_add rfl rfl (by omega) (by omega)) rfl rfl ?_
    refine wl_ex (ex_neg rfl (by omega) (by omega)) rfl rfl ?_
    refine wl_ex (ex_assign rfl) rfl rfl ?_
    refine wl_nil ?_
    refine pe_seq ?_
    refine wc_seq ?_
    refine wc_region ?_
    refine wl_ex (ex_move rfl) rfl rfl ?_
    refine wl_ex (ex_move rfl) rfl rfl ?_
    refine wl_ex (ex_rem rfl rfl (by omega) (by omega)) rfl rfl ?_
    refine wl_ex (ex_assign rfl) rfl rfl ?_
    refine wl_nil ?_
    refine pe_seq ?_
    refine wc_ret ?_
    refine pe_ret1 rfl rfl rfl (fun w' hm => ⟨?_, hm.ent (.nil _)⟩)
    simp only [pickI]; simp [*]
  · refine wc_skip ?_
    refine pe_seq ?_
    refine wc_seq ?_
    refine wc_region ?_
    refine wl_ex (ex_move rfl) rfl rfl ?_
    refine wl_ex (ex_move rfl) rfl rfl ?_
    refine wl_ex (ex_rem rfl rfl (by omega) (by omega)) rfl rfl ?_
    refine wl_ex (ex_assign rfl) rfl rfl ?_
    refine wl_nil ?_
    refine pe_seq ?_
    refine wc_ret ?_
    refine pe_ret1 rfl rfl rfl (fun w' hm => ⟨?_, hm.ent (.nil _)⟩)
    simp only [pickI]; simp [*]

theorem c_Zoned (c : Int) (w : World) (bc : -9223372036854775808 ≤ c ∧ c < 9223372036854775808) :
    Cl Try.prog 6 [.int .i64 c] w (IsV (.int .i64 (zoneI c)) w) := by
  refine cl_of Try.func6 rfl Try.ntmps6 rfl (Mem.refl w) ?_
  refine wc_seq ?_
  refine wc_region ?_
  refine wl_ex (ex_assign rfl) rfl rfl ?_
  refine wl_nil ?_
  refine pe_seq ?_
  refine wc_seq ?_
  refine wc_seq ?_
  refine wc_region ?_
  refine wl_ex (ex_move rfl) rfl rfl ?_
  refine wl_callV [.tmp 3, .const (.int .i64 8)] rfl ok_20 rfl (fun w hm => c_pick37 c 8 w   (by first | omega | (unfold Quad.ok i64q at *; omega)) (by omega)) rfl ?_
  refine wl_ex (ex_eql rfl rfl) rfl rfl ?_
  refine wl_nil ?_
  refine pe_seq ?_
  refine wc_ite rfl (fun c5 => ?_) (fun c5 => ?_)
  · refine wc_seq ?_
    refine wc_region ?_
    refine wl_ex (ex_move rfl) rfl rfl ?_
    refine wl_ex (ex_quot rfl rfl (by omega) (by omega)) rfl rfl ?_
    have hd8 := tdiv_bd bc (n := 8) (by omega)
    refine wl_callV [.tmp 7, .const (.int .i64 100801)] rfl ok_20 rfl (fun w hm => c_pick37 ((c).tdiv 8) 100801 w   (by first | omega | (unfold Quad.ok i64q at *; omega)) (by omega)) rfl ?_
    have hp1 := pick_bd (c.tdiv 8) 100801 (by omega)
    refine wl_ex (ex_sub rfl rfl (by omega) (by omega)) rfl rfl ?_
    refine wl_ex (ex_assign rfl) rfl rfl ?_
    refine wl_nil ?_
    refine pe_seq ?_
    refine wc_ret ?_
    refine pe_seq_ret ?_
    refine pe_ret1 rfl rfl rfl (fun w' hm => ⟨?_, hm.ent (.nil _)⟩)
    unfold zoneI; rw [if_pos c5]
  · refine wc_skip ?_
    refine pe_seq ?_
    refine wc_seq ?_
    refine wc_region ?_
    refine wl_ex (ex_move rfl) rfl rfl ?_
    refine wl_callV [.tmp 10, .const (.int .i64 57)] rfl ok_20 rfl (fun w hm => c_pick37 c 57 w   (by first | omega | (unfold Quad.ok i64q at *; omega)) (by omega)) rfl ?_
    have hp2 := pick_bd c 57 (by omega)
    refine wl_ex (ex_sub rfl rfl (by omega) (by omega)) rfl rfl ?_
    refine wl_ex (ex_mul rfl rfl (by omega) (by omega)) rfl rfl ?_
    refine wl_ex (ex_assign rfl) rfl rfl ?_
    refine wl_nil ?_
    refine pe_seq ?_
    refine wc_ret ?_
    refine pe_ret1 rfl rfl rfl (fun w' hm => ⟨?_, hm.ent (.nil _)⟩)
    unfold zoneI; rw [if_neg c5]

theorem c_During (c d : Int) (w : World) (bc : -9223372036854775808 ≤ c ∧ c < 9223372036854775808) (bd : -9223372036854775808 ≤ d ∧ d < 9223372036854775808) :
    Cl Try.prog 8 [.int .i64 c, .int .i64 d] w (IsV (.agg #[.int .i64 (fromI c), .int .i64 (fromI c + lastI d)]) w) := by
  refine cl_of Try.func8 rfl Try.ntmps8 rfl (Mem.refl w) ?_
  have hdc := tdiv_bd bc (n := 1000) (by omega)
  have hdd := tdiv_bd bd (n := 4) (by omega)
  have h1 := pick_bd c 1000 (by omega)
  have h2 := pick_bd (c.tdiv 1000) 3 (by omega)
  have h3 := pick_bd (d.tdiv 4) 345600 (by omega)
  have h4 := pick_bd (d.tdiv 4) 5000 (by omega)
  refine wc_seq ?_
  refine wc_region ?_
  refine wl_alloc ze_33 rfl rfl fun r1 => ?_
  refine wl_nil ?_
  refine pe_seq ?_
  refine wc_seq ?_
  refine wc_region ?_
  refine wl_ex (ex_move rfl) rfl rfl ?_
  refine wl_callV [.tmp 6, .const (.int .i64 1000)] rfl ok_20 rfl (fun w hm => c_pick37 c 1000 w   (by first | omega | (unfold Quad.ok i64q at *; omega)) (by omega)) rfl ?_
  refine wl_ex (ex_mul rfl rfl (by omega) (by omega)) rfl rfl ?_
  refine wl_ex (ex_move rfl) rfl rfl ?_
  refine wl_ex (ex_quot rfl rfl (by omega) (by omega)) rfl rfl ?_
  refine wl_callV [.tmp 10, .const (.int .i64 3)] rfl ok_20 rfl (fun w hm => c_pick37 ((c).tdiv 1000) 3 w   (by first | omega | (unfold Quad.ok i64q at *; omega)) (by omega)) rfl ?_
  refine wl_ex (ex_add rfl rfl (by omega) (by omega)) rfl rfl ?_
  refine wl_ex (ex_sub rfl rfl (by omega) (by omega)) rfl rfl ?_
  refine wl_ex (ex_max rfl rfl) rfl rfl ?_
  refine wl_ex (ex_build (cells := #[.int .i64 (max (((1800 * (pickI c 1000)) + (pickI ((c).tdiv 1000) 3)) - 1) 0), .int .i64 0]) [0] [.tmp 14] rfl rfl Try.underlying33 ze_33 pl_33 rfl) rfl rfl ?_
  refine wl_alloc ze_33 rfl rfl fun r2 => ?_
  refine wl_storeS (vs := [.int .i64 (max (((1800 * (pickI c 1000)) + (pickI ((c).tdiv 1000) 3)) - 1) 0), .int .i64 0]) rfl rfl (by simp [Value.oneCell']) sz_33 rfl (.head _ _) (by simp) ?_
  rw [show ovr [.int .i64 0, .int .i64 0] 0 [.int .i64 (max (((1800 * (pickI c 1000)) + (pickI ((c).tdiv 1000) 3)) - 1) 0), .int .i64 0] = [.int .i64 (max (((1800 * (pickI c 1000)) + (pickI ((c).tdiv 1000) 3)) - 1) 0), .int .i64 0] from rfl]
  refine wl_nil ?_
  refine pe_seq ?_
  refine wc_seq ?_
  refine wc_seq ?_
  refine wc_region ?_
  refine wl_ex (ex_move rfl) rfl rfl ?_
  refine wl_callV [.tmp 16, .const (.int .i64 4)] rfl ok_20 rfl (fun w hm => c_pick37 d 4 w   (by first | omega | (unfold Quad.ok i64q at *; omega)) (by omega)) rfl ?_
  refine wl_ex (ex_eql rfl rfl) rfl rfl ?_
  refine wl_nil ?_
  refine pe_seq ?_
  refine wc_ite rfl (fun c18 => ?_) (fun c18 => ?_)
  · refine wc_mix [.row r2 33 [.int .i64 (max (((1800 * (pickI c 1000)) + (pickI ((c).tdiv 1000) 3)) - 1) 0), .int .i64 0], .row r1 33 [.int .i64 0, .int .i64 0]] [.row r1 33 [.int .i64 0, .int .i64 0]] (fun i => match i with | 4 => ⟨23, Unit, fun _ => True, fun _ => .int .i64 (pickI ((d).tdiv 4) 345600), fun _ => []⟩ | _ => ⟨0, Unit, fun _ => True, fun _ => undef, fun _ => []⟩) [(0, true), (1, true), (2, true), (3, true), (4, false), (5, true), (6, true)] [(7, false)] mixed (by kernel_rfl) (.cons (.head _ _) rfl (.cons (.head _ _) rfl (.nil _))) (.cons (.tail (.head _ _)) rfl (.nil _)) ?_
    refine cm_ex rfl (ex_fieldAddr (off' := 0) rfl Try.underlying33 rfl sz_3 rfl rfl) rfl rfl ?_
    refine cm_ex rfl (ex_load rfl ag_3 (rd_row1 (.head _ _) rfl)) rfl rfl ?_
    refine cm_ex rfl (ex_move rfl) rfl rfl ?_
    refine cm_ex rfl (ex_quot rfl rfl (by omega) (by omega)) rfl rfl ?_
    refine cm_callV [.tmp 22, .const (.int .i64 345600)] rfl rfl rfl ok_20 rfl (fun w hm => c_pick37 ((d).tdiv 4) 345600 w   (by first | omega | (unfold Quad.ok i64q at *; omega)) (by omega)) rfl ?_
    refine cm_ex rfl (ex_add rfl rfl (by omega) (by omega)) rfl rfl ?_
    refine cm_ex rfl (ex_fieldAddr (off' := 1) rfl Try.underlying33 rfl sz_3 rfl rfl) rfl rfl ?_
    refine cm_nil ?_
    refine cn_tail rfl ?_
    refine wl_store rfl rfl rfl sz_3 (.head _ _) (by simp) ?_
    rw [show List.set ([.int .i64 (max (((1800 * (pickI c 1000)) + (pickI ((c).tdiv 1000) 3)) - 1) 0), .int .i64 0] : List Value) 1 (.int .i64 ((max (((1800 * (pickI c 1000)) + (pickI ((c).tdiv 1000) 3)) - 1) 0) + (pickI ((d).tdiv 4) 345600))) = [.int .i64 (max (((1800 * (pickI c 1000)) + (pickI ((c).tdiv 1000) 3)) - 1) 0), .int .i64 ((max (((1800 * (pickI c 1000)) + (pickI ((c).tdiv 1000) 3)) - 1) 0) + (pickI ((d).tdiv 4) 345600))] from rfl]
    refine cn_back (.cons (.tail (.head _ _)) rfl (.nil _)) ?_
    refine cn_nil ?_
    refine pe_seq ?_
    refine wc_seq ?_
    refine wc_region ?_
    refine wl_ex (ex_loadS rfl ag_33 sz_33 rfl (rd_rowAll (.head _ _))) rfl rfl ?_
    refine wl_storeS (vs := [.int .i64 (max (((1800 * (pickI c 1000)) + (pickI ((c).tdiv 1000) 3)) - 1) 0), .int .i64 ((max (((1800 * (pickI c 1000)) + (pickI ((c).tdiv 1000) 3)) - 1) 0) + (pickI ((d).tdiv 4) 345600))]) rfl rfl (by simp [Value.oneCell']) sz_33 rfl (.tail (.head _ _)) (by simp) ?_
    rw [show ovr [.int .i64 0, .int .i64 0] 0 [.int .i64 (max (((1800 * (pickI c 1000)) + (pickI ((c).tdiv 1000) 3)) - 1) 0), .int .i64 ((max (((1800 * (pickI c 1000)) + (pickI ((c).tdiv 1000) 3)) - 1) 0) + (pickI ((d).tdiv 4) 345600))] = [.int .i64 (max (((1800 * (pickI c 1000)) + (pickI ((c).tdiv 1000) 3)) - 1) 0), .int .i64 ((max (((1800 * (pickI c 1000)) + (pickI ((c).tdiv 1000) 3)) - 1) 0) + (pickI ((d).tdiv 4) 345600))] from rfl]
    refine wl_nil ?_
    refine pe_seq ?_
    refine wc_ret ?_
    refine pe_retC rfl rfl rfl ag_33 sz_33 rfl (rd_rowAll (.head _ _)) (fun w' hm => ⟨?_, hm.ent (.nil _)⟩)
    unfold lastI fromI
    rw [if_pos c18]
  · refine wc_mix [.row r2 33 [.int .i64 (max (((1800 * (pickI c 1000)) + (pickI ((c).tdiv 1000) 3)) - 1) 0), .int .i64 0], .row r1 33 [.int .i64 0, .int .i64 0]] [.row r1 33 [.int .i64 0, .int .i64 0]] (fun i => match i with | 4 => ⟨30, Unit, fun _ => True, fun _ => .int .i64 (pickI ((d).tdiv 4) 5000), fun _ => []⟩ | _ => ⟨0, Unit, fun _ => True, fun _ => undef, fun _ => []⟩) [(0, true), (1, true), (2, true), (3, true), (4, false), (5, true), (6, true)] [(7, false)] mixed (by kernel_rfl) (.cons (.head _ _) rfl (.cons (.head _ _) rfl (.nil _))) (.cons (.tail (.head _ _)) rfl (.nil _)) ?_
    refine cm_ex rfl (ex_fieldAddr (off' := 0) rfl Try.underlying33 rfl sz_3 rfl rfl) rfl rfl ?_
    refine cm_ex rfl (ex_load rfl ag_3 (rd_row1 (.head _ _) rfl)) rfl rfl ?_
    refine cm_ex rfl (ex_move rfl) rfl rfl ?_
    refine cm_ex rfl (ex_quot rfl rfl (by omega) (by omega)) rfl rfl ?_
    refine cm_callV [.tmp 29, .const (.int .i64 5000)] rfl rfl rfl ok_20 rfl (fun w hm => c_pick37 ((d).tdiv 4) 5000 w   (by first | omega | (unfold Quad.ok i64q at *; omega)) (by omega)) rfl ?_
    refine cm_ex rfl (ex_add rfl rfl (by omega) (by omega)) rfl rfl ?_
    refine cm_ex rfl (ex_fieldAddr (off' := 1) rfl Try.underlying33 rfl sz_3 rfl rfl) rfl rfl ?_
    refine cm_nil ?_
    refine cn_tail rfl ?_
    refine wl_store rfl rfl rfl sz_3 (.head _ _) (by simp) ?_
    rw [show List.set ([.int .i64 (max (((1800 * (pickI c 1000)) + (pickI ((c).tdiv 1000) 3)) - 1) 0), .int .i64 0] : List Value) 1 (.int .i64 ((max (((1800 * (pickI c 1000)) + (pickI ((c).tdiv 1000) 3)) - 1) 0) + (pickI ((d).tdiv 4) 5000))) = [.int .i64 (max (((1800 * (pickI c 1000)) + (pickI ((c).tdiv 1000) 3)) - 1) 0), .int .i64 ((max (((1800 * (pickI c 1000)) + (pickI ((c).tdiv 1000) 3)) - 1) 0) + (pickI ((d).tdiv 4) 5000))] from rfl]
    refine cn_back (.cons (.tail (.head _ _)) rfl (.nil _)) ?_
    refine cn_nil ?_
    refine pe_seq ?_
    refine wc_seq ?_
    refine wc_region ?_
    refine wl_ex (ex_loadS rfl ag_33 sz_33 rfl (rd_rowAll (.head _ _))) rfl rfl ?_
    refine wl_storeS (vs := [.int .i64 (max (((1800 * (pickI c 1000)) + (pickI ((c).tdiv 1000) 3)) - 1) 0), .int .i64 ((max (((1800 * (pickI c 1000)) + (pickI ((c).tdiv 1000) 3)) - 1) 0) + (pickI ((d).tdiv 4) 5000))]) rfl rfl (by simp [Value.oneCell']) sz_33 rfl (.tail (.head _ _)) (by simp) ?_
    rw [show ovr [.int .i64 0, .int .i64 0] 0 [.int .i64 (max (((1800 * (pickI c 1000)) + (pickI ((c).tdiv 1000) 3)) - 1) 0), .int .i64 ((max (((1800 * (pickI c 1000)) + (pickI ((c).tdiv 1000) 3)) - 1) 0) + (pickI ((d).tdiv 4) 5000))] = [.int .i64 (max (((1800 * (pickI c 1000)) + (pickI ((c).tdiv 1000) 3)) - 1) 0), .int .i64 ((max (((1800 * (pickI c 1000)) + (pickI ((c).tdiv 1000) 3)) - 1) 0) + (pickI ((d).tdiv 4) 5000))] from rfl]
    refine wl_nil ?_
    refine pe_seq ?_
    refine wc_ret ?_
    refine pe_retC rfl rfl rfl ag_33 sz_33 rfl (rd_rowAll (.head _ _)) (fun w' hm => ⟨?_, hm.ent (.nil _)⟩)
    unfold lastI fromI
    rw [if_neg c18]

end Go.Proofs.Yteglbaidaekccaa
