/- Walks. -/
import Derived.Test.YteglbaidaekccaaTh
set_option linter.unusedVariables false
set_option linter.unusedSimpArgs false
set_option maxRecDepth 10000
namespace Go.Proofs.Yteglbaidaekccaa
open Go Go.RowKit
structure Sp where
  f : Int
  t : Int
instance : Inhabited Sp := ⟨⟨0, 0⟩⟩
def encP (s : Sp) : List Value := [.int .i64 s.f, .int .i64 s.t]
theorem encP_len (s : Sp) : (encP s).length = 2 := rfl
theorem encP_one1 (s : Sp) : ∀ v ∈ encP s, v.oneCell' = true := by simp [encP, Value.oneCell']
theorem owes1_add (a b f t x y : Int) : owes1 a b ⟨f, t, x + y⟩ = owes1 a b ⟨f, t, x⟩ + owes1 a b ⟨f, t, y⟩ := by
  unfold owes1
  simp only []
  repeat' split
  all_goals omega
theorem owes1_zero (a b f t : Int) : owes1 a b ⟨f, t, 0⟩ = 0 := by unfold owes1; simp
theorem owes_snoc (a b : Int) (l : List Debt) (d : Debt) : owesI a b (l ++ [d]) = owesI a b l + owes1 a b d := by simp [owesI]
/-- one more debt, or none where its amount is 0 -/
structure Put (W W2 : List Debt) (f t x : Int) : Prop where
  len : (W2.length : Int) ≤ W.length + 1
  ok : ∀ d ∈ W2, okD 1000000000 d
  owes : ∀ a b, owesI a b W2 = owesI a b W + owes1 a b ⟨f, t, x⟩
theorem put_pos {W : List Debt} {f t x : Int} (hx : 0 < x ∧ x ≤ 1000000000) (hf : 0 ≤ f ∧ f ≤ 7) (ht : 0 ≤ t ∧ t ≤ 7) (hne : f ≠ t) (hW : ∀ d ∈ W, okD 1000000000 d) : Put W (W ++ [⟨f, t, x⟩]) f t x where
  len := by simp
  ok := fun d hd => by
    rcases List.mem_append.1 hd with h | h
    · exact hW d h
    · rw [List.mem_singleton] at h; subst h; exact ⟨hf, ht, hne, by simp only []; omega⟩
  owes := fun a b => owes_snoc a b W _
theorem put_zero {W : List Debt} {f t x : Int} (hx : 0 ≤ x) (h0 : ¬ 0 < x) (hW : ∀ d ∈ W, okD 1000000000 d) : Put W W f t x where
  len := by omega
  ok := hW
  owes := fun a b => by rw [show x = 0 by omega, owes1_zero, Int.add_zero]
theorem rate_lo {b : Int} {l : List Rate} (hb : 0 ≤ b ∧ b < 1000) (h : ∀ r ∈ l, 0 ≤ r.price ∧ r.price < 1000) (s : Int) : 0 ≤ rateI b l s ∧ rateI b l s < 1000 := by
  unfold rateI
  split
  · exact hb
  · rcases idxI_spec (hitR s) l with ⟨e, _⟩ | ⟨k, d, e, hk, _, _⟩
    · omega
    · rw [e, Int.toNat_natCast, List.getD_eq_getElem?_getD, hk]
      exact h d (List.mem_of_getElem? hk)
theorem sumP_lo {b : Int} {l : List Rate} (hb : 0 ≤ b ∧ b < 1000) (h : ∀ r ∈ l, 0 ≤ r.price ∧ r.price < 1000) (o : Int) {m : Nat} : ∀ n, m ≤ n → sumP b l o m ≤ sumP b l o n ∧ sumP b l o n ≤ sumP b l o m + 1000 * ((n : Int) - m)
  | 0, hm => by have : m = 0 := by omega
                subst this; simp
  | n + 1, hm => by
    by_cases e : m = n + 1
    · subst e; simp
    · have ih := sumP_lo hb h o (m := m) n (by omega)
      have := rate_lo hb h (locI o n)
      rw [sumP_succ]
      unfold priceT
      omega
theorem made_lo (t : Quad) : 0 ≤ (madeR t).price ∧ (madeR t).price < 1000 := by
  have := pick_bd t.d 1000 (by omega)
  unfold madeR
  split <;> exact this
theorem amt_lo (c : Int) (x : List Quad) (o : Int) {q e : Int} (hs : 0 ≤ q ∧ q ≤ e ∧ e ≤ q + 345600) : 0 ≤ amtI (pickI c 1000) (madesR x) o q e ∧ amtI (pickI c 1000) (madesR x) o q e ≤ 1000000000 := by
  have := sumP_lo (pick_bd c 1000 (by omega)) (l := madesR x) (fun r hr => by obtain ⟨t, _, rfl⟩ := List.mem_map.1 hr; exact made_lo t) o (m := q.toNat) e.toNat (by omega)
  unfold amtI minI
  omega
/-- what the parts have cost so far -/
def parI (b : Int) (l : List Rate) (o q u e j : Int) : Int := if j = 0 then 0 else amtI b l o q (if j = 1 then u else e)
theorem par_step (b : Int) (l : List Rate) (o q u e : Int) {j f t : Int} (hj : 0 ≤ j ∧ j < 2) (hf : f = if j = 0 then q else u) (ht : t = if j = 0 then u else e) : parI b l o q u e j + amtI b l o f t = parI b l o q u e (j + 1) := by
  unfold parI
  rcases (show j = 0 ∨ j = 1 by omega) with rfl | rfl
  · rw [hf, ht]; simp
  · rw [hf, ht]
    simp only [if_neg (show ¬ (1 : Int) = 0 by omega), if_pos, if_neg (show ¬ (1 + 1 : Int) = 0 by omega), if_neg (show ¬ (1 + 1 : Int) = 1 by omega)]
    exact amt_add _ _ _ _ _ _
theorem same_book {W Z : List Debt} (h : ∀ a b, owesI a b W = owesI a b Z) : bookOf W = bookOf Z := by
  funext a b
  unfold bookOf
  rw [h]
theorem same_bal {W Z : List Debt} (hW : DebtsOK 1000000000 W) (hZ : DebtsOK 1000000000 Z) (h : ∀ a b, owesI a b W = owesI a b Z) : balR W = balR Z := by
  unfold balR
  rw [if_pos hW, if_pos hZ]
  apply List.ext_getElem?
  intro c
  by_cases hc : c < 8
  · have e : (balI W).getD c 0 = (balI Z).getD c 0 := by
      rw [balI_getD W hW.1, balI_getD Z hZ.1, ← inB_book hW c hc, ← inB_book hZ c hc, same_book h]
    rw [List.getD_eq_getElem?_getD, List.getD_eq_getElem?_getD] at e
    have h1 : c < (balI W).length := by rw [balI_length]; exact hc
    have h2 : c < (balI Z).length := by rw [balI_length]; exact hc
    rw [List.getElem?_eq_getElem h1, List.getElem?_eq_getElem h2] at *
    simpa using e
  · rw [List.getElem?_eq_none (by rw [balI_length]; omega), List.getElem?_eq_none (by rw [balI_length]; omega)]
theorem same_rnd {W Z : List Debt} (hW : DebtsOK 1000000000 W) (hZ : DebtsOK 1000000000 Z) (h : ∀ a b, owesI a b W = owesI a b Z) : rndR W = rndR Z := by
  unfold rndR
  rw [if_pos hW, if_pos hZ]
  unfold roundI
  rw [same_book h]
theorem ok_4 : callOK Try.prog 4 = true := by kernel_rfl
theorem ok_5 : callOK Try.prog 5 = true := by kernel_rfl
theorem ok_6 : callOK Try.prog 6 = true := by kernel_rfl
theorem ok_7 : callOK Try.prog 7 = true := by kernel_rfl
theorem ok_8 : callOK Try.prog 8 = true := by kernel_rfl
theorem ok_9 : callOK Try.prog 9 = true := by kernel_rfl

theorem c_Calls (c : Int) (Ax : Option Addr) (cx : Nat) (x : List Quad) (o : Int) (Ay : Option Addr) (cy : Nat) (y : List Quad) (wh at_ : Int) (w : World) (hx : Sl w Ax (encs encQ x)) (hy : Sl w Ay (encs encQ y)) (bc : i64 c) (hxk : ∀ t ∈ x, t.ok) (bo : i64 o) (hyk : ∀ t ∈ y, t.ok) (bw : i64 wh) (ba : i64 at_) :
    Cl Try.prog 3 [.int .i64 c, .slice Ax x.length cx, .int .i64 o, .slice Ay y.length cy, .int .i64 wh, .int .i64 at_] w (IsV (.bool true) w) := by
  refine cl_of Try.func3 rfl Try.ntmps3 rfl (Mem.refl w) ?_
  unfold i64 at bc bo bw ba
  have hT := tar_ok c hxk
  have ho := zone_ok bo
  refine wc_seq ?_
  refine wc_region ?_
  refine wl_ex (ex_assign rfl) rfl rfl ?_
  refine wl_nil ?_
  refine pe_seq ?_
  refine wc_seq ?_
  refine wc_seq ?_
  refine wc_region ?_
  refine wl_callV [] rfl ok_4 rfl (fun w hm => c_sane  w   ) rfl ?_
  refine wl_ex (ex_notb rfl) rfl rfl ?_
  refine wl_nil ?_
  refine pe_seq ?_
  refine wc_iff rfl ?_
  refine wc_skip ?_
  refine pe_seq ?_
  refine wc_seq ?_
  refine wc_region ?_
  refine wl_ex (ex_move rfl) rfl rfl ?_
  refine wl_ex (ex_move rfl) rfl rfl ?_
  refine wl_callR [.tmp 39, .tmp 40] rfl ok_5 rfl (fun w hm => c_Made37 c Ax cx x w (by omega) (((sl_arg hx rfl)).at hm) hxk) rfl ?_
  rintro ⟨A1, c2⟩ _
  show WL _ _ _ _ ((41, .agg #[.slice A1 ((madesR x).length) c2, .int .i64 (pickI c 1000)]) :: _) [.own A1 ((madesR x).length) c2 56 4 (encs encR (madesR x))]
  refine wl_alloc ze_26 rfl rfl fun r3 => ?_
  refine wl_storeS (vs := [.slice A1 ((madesR x).length) c2, .int .i64 (pickI c 1000)]) rfl rfl (by simp [Value.oneCell']) sz_26 rfl (.head _ _) (by simp) ?_
  rw [show ovr [.slice none 0 0, .int .i64 0] 0 [.slice A1 ((madesR x).length) c2, .int .i64 (pickI c 1000)] = [.slice A1 ((madesR x).length) c2, .int .i64 (pickI c 1000)] from rfl]
  refine wl_nil ?_
  refine pe_seq ?_
  refine wc_seq ?_
  refine wc_region ?_
  refine wl_ex (ex_move rfl) rfl rfl ?_
  refine wl_callV [.tmp 42] rfl ok_6 rfl (fun w hm => c_Zoned o w   (by omega)) rfl ?_
  refine wl_ex (ex_assign rfl) rfl rfl ?_
  refine wl_nil ?_
  refine pe_seq ?_
  refine wc_seq ?_
  refine wc_region ?_
  refine wl_ex (ex_assign rfl) rfl rfl ?_
  refine wl_nil ?_
  refine pe_seq ?_
  refine wc_seq ?_
  refine wc_region ?_
  refine wl_ex (ex_assign rfl) rfl rfl ?_
  refine wl_nil ?_
  refine pe_seq ?_
  refine wc_seq ?_
  refine wc_region ?_
  refine wl_ex (ex_move rfl) rfl rfl ?_
  refine wl_ex (ex_len Try.underlying22 rfl) rfl rfl ?_
  refine wl_ex (ex_min rfl rfl) rfl rfl ?_
  refine wl_ex (ex_assign rfl) rfl rfl ?_
  refine wl_nil ?_
  refine pe_seq ?_
  refine wc_seq ?_
  refine wc_seq ?_
  refine wc_region ?_
  refine wl_ex (ex_assign rfl) rfl rfl ?_
  refine wl_nil ?_
  refine pe_seq ?_
  refine wc_block ?_
  refine wc_nilOwn 39 3 ?_
  refine wc_nilOwn 39 3 ?_
  refine wc_loop (σ := Int × (List Debt) × (Option Addr) × Nat × (List Debt) × (Option Addr) × Nat) (fun s => [(15, .slice s.2.2.1 s.2.1.length s.2.2.2.1), (16, .slice s.2.2.2.2.2.1 s.2.2.2.2.1.length s.2.2.2.2.2.2), (18, .int .i64 s.1), (3, .slice Ay y.length cy), (4, .int .i64 wh), (5, .int .i64 at_), (13, .pointer (some ⟨r3, 0, none⟩)), (14, .int .i64 (zoneI o)), (17, .int .i64 (min (y.length : Int) 10))]) (fun s => [.own s.2.2.1 s.2.1.length s.2.2.2.1 39 3 (encs encD s.2.1), .own s.2.2.2.2.2.1 s.2.2.2.2.1.length s.2.2.2.2.2.2 39 3 (encs encD s.2.2.2.2.1), .row r3 26 [.slice A1 ((madesR x).length) c2, .int .i64 (pickI c 1000)], .own A1 ((madesR x).length) c2 56 4 (encs encR (madesR x))]) (fun s => (0 ≤ s.1 ∧ s.1 ≤ min (y.length : Int) 10) ∧ ((s.2.1.length : Int) ≤ s.1 ∧ (s.2.2.2.2.1.length : Int) ≤ 2 * s.1) ∧ (∀ d ∈ s.2.1, okD 1000000000 d) ∧ (∀ d ∈ s.2.2.2.2.1, okD 1000000000 d) ∧ ∀ a b, owesI a b s.2.1 = owesI a b s.2.2.2.2.1) (fun s => (min (y.length : Int) 10 - s.1).toNat) ((0 : Int), ([] : List Debt), none, 0, ([] : List Debt), none, 0) (Sub.cons rfl rfl (Sub.cons rfl rfl (Sub.cons rfl rfl (Sub.cons rfl rfl (Sub.cons rfl rfl (Sub.cons rfl rfl (Sub.cons rfl rfl (Sub.cons rfl rfl (Sub.cons rfl rfl (Sub.nil _)))))))))) (.cons (.head _ _) (by first | rfl | simp) (.cons (.head _ _) (by first | rfl | simp) (.cons (.head _ _) rfl (.cons (.head _ _) rfl (.nil _))))) (by exact ⟨by omega, by simp, by simp, by simp, fun _ _ => rfl⟩) ?_
  rintro ⟨i, W, AW, cW, Z, AZ, cZ⟩ hG
  show WC _ _ _ [(15, .slice AW W.length cW), (16, .slice AZ Z.length cZ), (18, .int .i64 i), (3, .slice Ay y.length cy), (4, .int .i64 wh), (5, .int .i64 at_), (13, .pointer (some ⟨r3, 0, none⟩)), (14, .int .i64 (zoneI o)), (17, .int .i64 (min (y.length : Int) 10))] [.own AW W.length cW 39 3 (encs encD W), .own AZ Z.length cZ 39 3 (encs encD Z), .row r3 26 [.slice A1 ((madesR x).length) c2, .int .i64 (pickI c 1000)], .own A1 ((madesR x).length) c2 56 4 (encs encR (madesR x))]
  replace hG : (0 ≤ i ∧ i ≤ min (y.length : Int) 10) ∧ ((W.length : Int) ≤ i ∧ (Z.length : Int) ≤ 2 * i) ∧ (∀ d ∈ W, okD 1000000000 d) ∧ (∀ d ∈ Z, okD 1000000000 d) ∧ ∀ a b, owesI a b W = owesI a b Z := hG
  obtain ⟨h1, h2, hWk, hZk, hWZ⟩ := hG
  refine wc_seq ?_
  refine wc_seq ?_
  refine wc_region ?_
  refine wl_ex (ex_move rfl) rfl rfl ?_
  refine wl_ex (ex_move rfl) rfl rfl ?_
  refine wl_ex (ex_lss rfl rfl) rfl rfl ?_
  refine wl_nil ?_
  refine pe_seq ?_
  refine wc_ite rfl (fun c49 => ?_) (fun c49 => ?_)
  · refine wc_skip ?_
    refine pe_seq ?_
    refine wc_seq ?_
    refine wc_block ?_
    refine wc_seq ?_
    refine wc_region ?_
    refine wl_ex (ex_move rfl) rfl rfl ?_
    refine wl_ex (ex_move rfl) rfl rfl ?_
    refine wl_ex (ex_indexAddr rfl rfl Try.underlying22 sz_31 (sl_arg hy rfl) (by omega) (by omega) (enc_pos encQ_len (by omega))) rfl rfl ?_
    refine wl_ex (ex_indexAddrA (off' := oOf Ay + (i).toNat * 4 + 0) rfl rfl Try.underlying31 sz_3 (by omega) (by omega) (by simp)) rfl rfl ?_
    obtain ⟨d_y_i, hd_y_i⟩ := get_if y i
    refine wl_ex (ex_load rfl ag_3 (rd_enc (j := 0) encQ_len (sl_arg hy rfl) (hd_y_i (by omega) (by omega)) rfl)) rfl rfl ?_
    have hiy : 0 ≤ i ∧ i < (y.length : Int) := by omega
    have hqo := hyk _ (mem_at (hd_y_i (by omega) (by omega)))
    unfold Quad.ok i64q at hqo
    have p1 := pick_bd d_y_i.a 8 (by omega)
    have p2 := pick_bd d_y_i.b 7 (by omega)
    have hdu := during_ok hqo.2.2.1 hqo.2.2.2
    have hne : pickI d_y_i.a 8 ≠ (pickI d_y_i.a 8 + 1 + pickI d_y_i.b 7) % 8 := by omega
    have hto : 0 ≤ (pickI d_y_i.a 8 + 1 + pickI d_y_i.b 7) % 8 ∧ (pickI d_y_i.a 8 + 1 + pickI d_y_i.b 7) % 8 ≤ 7 := by omega
    have hal := amt_lo c x (zoneI o) (q := fromI d_y_i.c) (e := fromI d_y_i.c + lastI d_y_i.d) (by omega)
    refine wl_callV [.tmp 56, .const (.int .i64 8)] rfl ok_7 rfl (fun w hm => c_pickL d_y_i.a 8 w   (by omega) (by omega)) rfl ?_
    refine wl_ex (ex_assign rfl) rfl rfl ?_
    refine wl_nil ?_
    refine pe_seq ?_
    refine wc_seq ?_
    refine wc_region ?_
    refine wl_ex (ex_move rfl) rfl rfl ?_
    refine wl_ex (ex_add rfl rfl (by omega) (by omega)) rfl rfl ?_
    refine wl_ex (ex_move rfl) rfl rfl ?_
    refine wl_ex (ex_move rfl) rfl rfl ?_
    refine wl_ex (ex_indexAddr rfl rfl Try.underlying22 sz_31 (sl_arg hy rfl) (by omega) (by omega) (enc_pos encQ_len (by omega))) rfl rfl ?_
    refine wl_ex (ex_indexAddrA (off' := oOf Ay + (i).toNat * 4 + 1) rfl rfl Try.underlying31 sz_3 (by omega) (by omega) (by simp)) rfl rfl ?_
    refine wl_ex (ex_load rfl ag_3 (rd_enc (j := 1) encQ_len (sl_arg hy rfl) (hd_y_i (by omega) (by omega)) rfl)) rfl rfl ?_
    refine wl_callV [.tmp 64, .const (.int .i64 7)] rfl ok_7 rfl (fun w hm => c_pickL d_y_i.b 7 w   (by omega) (by omega)) rfl ?_
    refine wl_ex (ex_add rfl rfl (by omega) (by omega)) rfl rfl ?_
    refine wl_ex (ex_rem rfl rfl (by omega) (by omega)) rfl rfl ?_
    refine wl_ex (ex_assign rfl) rfl rfl ?_
    refine wl_nil ?_
    refine pe_seq ?_
    refine wc_seq ?_
    refine wc_mix [.own AW W.length cW 39 3 (encs encD W), .own AZ Z.length cZ 39 3 (encs encD Z), .row r3 26 [.slice A1 ((madesR x).length) c2, .int .i64 (pickI c 1000)], .own A1 ((madesR x).length) c2 56 4 (encs encR (madesR x))] [.own AW W.length cW 39 3 (encs encD W), .own AZ Z.length cZ 39 3 (encs encD Z), .row r3 26 [.slice A1 ((madesR x).length) c2, .int .i64 (pickI c 1000)], .own A1 ((madesR x).length) c2 56 4 (encs encR (madesR x))] (fun i => match i with | 10 => ⟨78, Unit, fun _ => True, fun _ => .agg #[.int .i64 (fromI d_y_i.c), .int .i64 (fromI d_y_i.c + lastI d_y_i.d)], fun _ => []⟩ | 11 => ⟨21, Nat, fun _ => True, fun r => .pointer (some ⟨r, 0, none⟩), fun r => [.row r 33 [.int .i64 0, .int .i64 0]]⟩ | _ => ⟨0, Unit, fun _ => True, fun _ => undef, fun _ => []⟩) [(0, true), (1, true), (2, true), (3, true), (4, true), (5, true), (6, true), (7, true), (8, true), (9, true), (10, false), (11, false)] [(12, false)] mixed (by kernel_rfl) (.cons (.head _ _) rfl (.cons (.head _ _) rfl (.cons (.head _ _) rfl (.cons (.head _ _) rfl (.nil _))))) (.cons (.head _ _) rfl (.cons (.head _ _) rfl (.cons (.head _ _) rfl (.cons (.head _ _) rfl (.nil _))))) ?_
    refine cm_ex rfl (ex_move rfl) rfl rfl ?_
    refine cm_ex rfl (ex_move rfl) rfl rfl ?_
    refine cm_ex rfl (ex_indexAddr rfl rfl Try.underlying22 sz_31 (sl_arg hy rfl) (by omega) (by omega) (enc_pos encQ_len (by omega))) rfl rfl ?_
    refine cm_ex rfl (ex_indexAddrA (off' := oOf Ay + (i).toNat * 4 + 2) rfl rfl Try.underlying31 sz_3 (by omega) (by omega) (by simp)) rfl rfl ?_
    refine cm_ex rfl (ex_load rfl ag_3 (rd_enc (j := 2) encQ_len (sl_arg hy rfl) (hd_y_i (by omega) (by omega)) rfl)) rfl rfl ?_
    refine cm_ex rfl (ex_move rfl) rfl rfl ?_
    refine cm_ex rfl (ex_move rfl) rfl rfl ?_
    refine cm_ex rfl (ex_indexAddr rfl rfl Try.underlying22 sz_31 (sl_arg hy rfl) (by omega) (by omega) (enc_pos encQ_len (by omega))) rfl rfl ?_
    refine cm_ex rfl (ex_indexAddrA (off' := oOf Ay + (i).toNat * 4 + 3) rfl rfl Try.underlying31 sz_3 (by omega) (by omega) (by simp)) rfl rfl ?_
    refine cm_ex rfl (ex_load rfl ag_3 (rd_enc (j := 3) encQ_len (sl_arg hy rfl) (hd_y_i (by omega) (by omega)) rfl)) rfl rfl ?_
    refine cm_callV [.tmp 72, .tmp 77] rfl rfl rfl ok_8 rfl (fun w hm => c_During d_y_i.c d_y_i.d w   (by first | omega | (unfold Quad.ok i64q at *; omega)) (by first | omega | (unfold Quad.ok i64q at *; omega))) rfl ?_
    refine cm_alloc rfl rfl ze_33 rfl rfl fun r6 => ?_
    refine cm_nil ?_
    refine cn_tail rfl ?_
    refine wl_storeS (vs := [.int .i64 (fromI d_y_i.c), .int .i64 (fromI d_y_i.c + lastI d_y_i.d)]) rfl rfl (by simp [Value.oneCell']) sz_33 rfl (.head _ _) (by simp) ?_
    rw [show ovr [.int .i64 0, .int .i64 0] 0 [.int .i64 (fromI d_y_i.c), .int .i64 (fromI d_y_i.c + lastI d_y_i.d)] = [.int .i64 (fromI d_y_i.c), .int .i64 (fromI d_y_i.c + lastI d_y_i.d)] from rfl]
    refine cn_back (.cons (.tail (.head _ _)) rfl (.cons (.tail (.head _ _)) rfl (.cons (.tail (.head _ _)) rfl (.cons (.tail (.head _ _)) rfl (.nil _))))) ?_
    refine cn_nil ?_
    refine pe_seq ?_
    refine wc_seq ?_
    refine wc_region ?_
    refine wl_ex (ex_loadS rfl ag_26 sz_26 rfl (rd_rowAll (.tail (.tail (.tail (.head _ _)))))) rfl rfl ?_
    refine wl_ex (ex_move rfl) rfl rfl ?_
    refine wl_ex (ex_loadS rfl ag_33 sz_33 rfl (rd_rowAll (.head _ _))) rfl rfl ?_
    refine wl_callV [.tmp 80, .tmp 81, .tmp 82] rfl ok_9 rfl (fun w hm => c_Amount (pickI c 1000) A1 c2 (madesR x) (zoneI o) (fromI d_y_i.c) (fromI d_y_i.c + lastI d_y_i.d) w (((sl_own (.tail (.tail (.tail (.tail (.head _ _))))))).at hm)  (by assumption) (by assumption) (by omega)) rfl ?_
    refine wl_ex (ex_move rfl) rfl rfl ?_
    refine wl_ex (ex_extract rfl rfl) rfl rfl ?_
    refine wl_ex (ex_extract rfl rfl) rfl rfl ?_
    refine wl_ex (ex_assign rfl) rfl rfl ?_
    refine wl_ex (ex_assign rfl) rfl rfl ?_
    refine wl_nil ?_
    refine pe_seq ?_
    refine wc_seq ?_
    refine wc_seq ?_
    refine wc_region ?_
    refine wl_ex (ex_move rfl) rfl rfl ?_
    refine wl_ex (ex_neq rfl rfl) rfl rfl ?_
    refine wl_ex (ex_move rfl) rfl rfl ?_
    refine wl_pass rfl rfl rfl (decide_eq_false (fun e => e rfl)) ?_
    refine wl_ex (ex_move rfl) rfl rfl ?_
    refine wl_pass rfl rfl rfl (decide_eq_false (fun e => e rfl)) ?_
    refine wl_ex (ex_lss rfl rfl) rfl rfl ?_
    refine wl_ex (ex_pickf rfl (decide_eq_false (fun e => e rfl)) rfl) rfl rfl ?_
    refine wl_nil ?_
    refine pe_seq ?_
    refine wc_ite rfl (fun c91 => ?_) (fun c91 => ?_)
    · omega
    · refine wc_skip ?_
      refine pe_seq ?_
      refine wc_seq ?_
      refine wc_seq ?_
      refine wc_region ?_
      refine wl_ex (ex_move rfl) rfl rfl ?_
      refine wl_ex (ex_gtr rfl rfl) rfl rfl ?_
      refine wl_nil ?_
      refine pe_seq ?_
      refine wc_cutE (σ := (List Debt) × (Option Addr) × Nat) (fun s => [(15, .slice s.2.1 s.1.length s.2.2), (3, .slice Ay y.length cy), (4, .int .i64 wh), (5, .int .i64 at_), (13, .pointer (some ⟨r3, 0, none⟩)), (14, .int .i64 (zoneI o)), (16, .slice AZ Z.length cZ), (17, .int .i64 (min (y.length : Int) 10)), (18, .int .i64 i), (19, .int .i64 (pickI d_y_i.a 8)), (20, .int .i64 ((((pickI d_y_i.a 8) + 1) + (pickI d_y_i.b 7)) % 8)), (21, .pointer (some ⟨r6, 0, none⟩))]) (fun s => [.row r6 33 [.int .i64 (fromI d_y_i.c), .int .i64 (fromI d_y_i.c + lastI d_y_i.d)], .own s.2.1 s.1.length s.2.2 39 3 (encs encD s.1), .own AZ Z.length cZ 39 3 (encs encD Z), .row r3 26 [.slice A1 ((madesR x).length) c2, .int .i64 (pickI c 1000)], .own A1 ((madesR x).length) c2 56 4 (encs encR (madesR x))]) (fun s => Put W s.1 (pickI d_y_i.a 8) ((pickI d_y_i.a 8 + 1 + pickI d_y_i.b 7) % 8) (amtI (pickI c 1000) (madesR x) (zoneI o) (fromI d_y_i.c) (fromI d_y_i.c + lastI d_y_i.d))) ?_ ?_
      · refine wc_ite rfl (fun c93 => ?_) (fun c93 => ?_)
        · refine wc_region ?_
          refine wl_ex (ex_move rfl) rfl rfl ?_
          refine wl_ex (ex_move rfl) rfl rfl ?_
          refine wl_ex (ex_move rfl) rfl rfl ?_
          refine wl_ex (ex_move rfl) rfl rfl ?_
          refine wl_ex (ex_build (cells := #[.int .i64 (pickI d_y_i.a 8), .int .i64 ((((pickI d_y_i.a 8) + 1) + (pickI d_y_i.b 7)) % 8), .int .i64 (amtI (pickI c 1000) (madesR x) (zoneI o) (fromI d_y_i.c) (fromI d_y_i.c + lastI d_y_i.d))]) [0, 1, 2] [.tmp 95, .tmp 96, .tmp 97] rfl rfl Try.underlying39 ze_39 pl_39 rfl) rfl rfl ?_
          refine wl_buildSlice [.tmp 98] rfl rfl Try.underlying29 sz_39 ze_39 rfl (by simp [Value.cells]) (by omega) (by omega) rfl fun r7 => ?_
          rw [show List.flatMap (fun x => x.cells.toList) ([(.agg #[.int .i64 (pickI d_y_i.a 8), .int .i64 ((((pickI d_y_i.a 8) + 1) + (pickI d_y_i.b 7)) % 8), .int .i64 (amtI (pickI c 1000) (madesR x) (zoneI o) (fromI d_y_i.c) (fromI d_y_i.c + lastI d_y_i.d))] : Value)] : List Value) = encs encD [(⟨pickI d_y_i.a 8, (((pickI d_y_i.a 8) + 1) + (pickI d_y_i.b 7)) % 8, amtI (pickI c 1000) (madesR x) (zoneI o) (fromI d_y_i.c) (fromI d_y_i.c + lastI d_y_i.d)⟩ : Debt)] from rfl]
          refine wl_appendE encD_len encD_one rfl rfl Try.underlying29 sz_39 ze_39 rfl by_39 rfl (.tail (.tail (.head _ _))) (sl_own (.head _ _)) (by rfl) (by first | rfl | simp) (by first | omega | (simp; omega)) (by first | omega | (simp; omega)) rfl fun A8 c9 => ?_
          refine wl_ex (ex_assign rfl) rfl rfl ?_
          refine wl_nil ?_
          refine pe_cut ⟨_, _, _⟩ (Sub.cons rfl (by first | rfl | simp) (Sub.cons rfl rfl (Sub.cons rfl rfl (Sub.cons rfl rfl (Sub.cons rfl rfl (Sub.cons rfl rfl (Sub.cons rfl rfl (Sub.cons rfl rfl (Sub.cons rfl rfl (Sub.cons rfl rfl (Sub.cons rfl rfl (Sub.cons rfl rfl (Sub.nil _))))))))))))) (.cons (.tail (.tail (.head _ _))) rfl (.cons (.head _ _) (by first | rfl | simp) (.cons (.tail (.head _ _)) rfl (.cons (.tail (.head _ _)) rfl (.cons (.tail (.head _ _)) rfl (.nil _)))))) ?_
          first | exact put_pos (by omega) (by omega) (by omega) (by omega) (by assumption) | exact put_zero (by omega) (by omega) (by assumption)
        · refine wc_skip ?_
          refine pe_cut ⟨_, _, _⟩ (Sub.cons rfl (by first | rfl | simp) (Sub.cons rfl rfl (Sub.cons rfl rfl (Sub.cons rfl rfl (Sub.cons rfl rfl (Sub.cons rfl rfl (Sub.cons rfl rfl (Sub.cons rfl rfl (Sub.cons rfl rfl (Sub.cons rfl rfl (Sub.cons rfl rfl (Sub.cons rfl rfl (Sub.nil _))))))))))))) (.cons (.head _ _) rfl (.cons (.head _ _) (by first | rfl | simp) (.cons (.head _ _) rfl (.cons (.head _ _) rfl (.cons (.head _ _) rfl (.nil _)))))) ?_
          first | exact put_pos (by omega) (by omega) (by omega) (by omega) (by assumption) | exact put_zero (by omega) (by omega) (by assumption)
      · rintro ⟨W2, AW2, cW2⟩ hG
        show PE _ _ _ [(15, .slice AW2 W2.length cW2), (3, .slice Ay y.length cy), (4, .int .i64 wh), (5, .int .i64 at_), (13, .pointer (some ⟨r3, 0, none⟩)), (14, .int .i64 (zoneI o)), (16, .slice AZ Z.length cZ), (17, .int .i64 (min (y.length : Int) 10)), (18, .int .i64 i), (19, .int .i64 (pickI d_y_i.a 8)), (20, .int .i64 ((((pickI d_y_i.a 8) + 1) + (pickI d_y_i.b 7)) % 8)), (21, .pointer (some ⟨r6, 0, none⟩))] [.row r6 33 [.int .i64 (fromI d_y_i.c), .int .i64 (fromI d_y_i.c + lastI d_y_i.d)], .own AW2 W2.length cW2 39 3 (encs encD W2), .own AZ Z.length cZ 39 3 (encs encD Z), .row r3 26 [.slice A1 ((madesR x).length) c2, .int .i64 (pickI c 1000)], .own A1 ((madesR x).length) c2 56 4 (encs encR (madesR x))]
        replace hG : Put W W2 (pickI d_y_i.a 8) ((pickI d_y_i.a 8 + 1 + pickI d_y_i.b 7) % 8) (amtI (pickI c 1000) (madesR x) (zoneI o) (fromI d_y_i.c) (fromI d_y_i.c + lastI d_y_i.d)) := hG
        have hPW := hG
        refine pe_seq ?_
        refine wc_seq ?_
        refine wc_region ?_
        refine wl_ex (ex_fieldAddr (off' := 1) rfl Try.underlying33 rfl sz_3 rfl rfl) rfl rfl ?_
        refine wl_ex (ex_load rfl ag_3 (rd_row1 (.head _ _) rfl)) rfl rfl ?_
        refine wl_ex (ex_assign rfl) rfl rfl ?_
        refine wl_nil ?_
        refine pe_seq ?_
        refine wc_seq ?_
        refine wc_seq ?_
        refine wc_region ?_
        refine wl_ex (ex_move rfl) rfl rfl ?_
        refine wl_ex (ex_move rfl) rfl rfl ?_
        refine wl_ex (ex_move rfl) rfl rfl ?_
        refine wl_callV [.tmp 104, .tmp 105] rfl ok_7 rfl (fun w hm => c_pickL wh (min (y.length : Int) 10) w   (by omega) (by omega)) rfl ?_
        refine wl_ex (ex_eql rfl rfl) rfl rfl ?_
        refine wl_nil ?_
        refine pe_seq ?_
        refine wc_cutE (σ := Int) (fun s => [(24, .int .i64 s), (3, .slice Ay y.length cy), (4, .int .i64 wh), (5, .int .i64 at_), (13, .pointer (some ⟨r3, 0, none⟩)), (14, .int .i64 (zoneI o)), (15, .slice AW2 W2.length cW2), (16, .slice AZ Z.length cZ), (17, .int .i64 (min (y.length : Int) 10)), (18, .int .i64 i), (19, .int .i64 (pickI d_y_i.a 8)), (20, .int .i64 ((((pickI d_y_i.a 8) + 1) + (pickI d_y_i.b 7)) % 8)), (21, .pointer (some ⟨r6, 0, none⟩))]) (fun s => [.row r6 33 [.int .i64 (fromI d_y_i.c), .int .i64 (fromI d_y_i.c + lastI d_y_i.d)], .own AW2 W2.length cW2 39 3 (encs encD W2), .own AZ Z.length cZ 39 3 (encs encD Z), .row r3 26 [.slice A1 ((madesR x).length) c2, .int .i64 (pickI c 1000)], .own A1 ((madesR x).length) c2 56 4 (encs encR (madesR x))]) (fun s => fromI d_y_i.c ≤ s ∧ s ≤ fromI d_y_i.c + lastI d_y_i.d) ?_ ?_
        · refine wc_ite rfl (fun c107 => ?_) (fun c107 => ?_)
          · refine wc_draw [.row r6 33 [.int .i64 (fromI d_y_i.c), .int .i64 (fromI d_y_i.c + lastI d_y_i.d)], .own AW2 W2.length cW2 39 3 (encs encD W2), .own AZ Z.length cZ 39 3 (encs encD Z), .row r3 26 [.slice A1 ((madesR x).length) c2, .int .i64 (pickI c 1000)], .own A1 ((madesR x).length) c2 56 4 (encs encR (madesR x))] [(0, true), (1, true), (2, true), (3, true), (4, true), (5, true), (6, true), (7, true), (8, true), (9, false), (10, true), (11, true)] mixed (by kernel_rfl) (.cons (.head _ _) rfl (.cons (.head _ _) rfl (.cons (.head _ _) rfl (.cons (.head _ _) rfl (.cons (.head _ _) rfl (.nil _)))))) ?_
            refine cn_ex rfl (ex_fieldAddr (off' := 0) rfl Try.underlying33 rfl sz_3 rfl rfl) rfl rfl ?_
            refine cn_ex rfl (ex_load rfl ag_3 (rd_row1 (.head _ _) rfl)) rfl rfl ?_
            refine cn_ex rfl (ex_move rfl) rfl rfl ?_
            refine cn_ex rfl (ex_fieldAddr (off' := 1) rfl Try.underlying33 rfl sz_3 rfl rfl) rfl rfl ?_
            refine cn_ex rfl (ex_load rfl ag_3 (rd_row1 (.head _ _) rfl)) rfl rfl ?_
            refine cn_ex rfl (ex_fieldAddr (off' := 0) rfl Try.underlying33 rfl sz_3 rfl rfl) rfl rfl ?_
            refine cn_ex rfl (ex_load rfl ag_3 (rd_row1 (.head _ _) rfl)) rfl rfl ?_
            refine cn_ex rfl (ex_sub rfl rfl (by omega) (by omega)) rfl rfl ?_
            refine cn_ex rfl (ex_add rfl rfl (by omega) (by omega)) rfl rfl ?_
            refine cn_tail rfl ?_
            refine wl_callV [.tmp 110, .tmp 116] rfl ok_7 rfl (fun w hm => c_pickL at_ (((fromI d_y_i.c + lastI d_y_i.d) - (fromI d_y_i.c)) + 1) w   (by omega) (by omega)) rfl ?_
            refine cn_back (.cons (.head _ _) rfl (.cons (.head _ _) rfl (.cons (.head _ _) rfl (.cons (.head _ _) rfl (.cons (.head _ _) rfl (.nil _)))))) ?_
            have p3 := pick_bd at_ (fromI d_y_i.c + lastI d_y_i.d - (fromI d_y_i.c) + 1) (by omega)
            refine cn_ex rfl (ex_add rfl rfl (by omega) (by omega)) rfl rfl ?_
            refine cn_ex rfl (ex_assign rfl) rfl rfl ?_
            refine cn_nil ?_
            refine pe_cut ((fromI d_y_i.c) + (pickI at_ (((fromI d_y_i.c + lastI d_y_i.d) - (fromI d_y_i.c)) + 1))) (Sub.cons rfl rfl (Sub.cons rfl rfl (Sub.cons rfl rfl (Sub.cons rfl rfl (Sub.cons rfl rfl (Sub.cons rfl rfl (Sub.cons rfl rfl (Sub.cons rfl rfl (Sub.cons rfl rfl (Sub.cons rfl rfl (Sub.cons rfl rfl (Sub.cons rfl rfl (Sub.cons rfl rfl (Sub.nil _)))))))))))))) (.cons (.head _ _) rfl (.cons (.head _ _) rfl (.cons (.head _ _) rfl (.cons (.head _ _) rfl (.cons (.head _ _) rfl (.nil _)))))) ?_
            first | (constructor <;> omega) | omega
          · refine wc_skip ?_
            refine pe_cut (fromI d_y_i.c + lastI d_y_i.d) (Sub.cons rfl rfl (Sub.cons rfl rfl (Sub.cons rfl rfl (Sub.cons rfl rfl (Sub.cons rfl rfl (Sub.cons rfl rfl (Sub.cons rfl rfl (Sub.cons rfl rfl (Sub.cons rfl rfl (Sub.cons rfl rfl (Sub.cons rfl rfl (Sub.cons rfl rfl (Sub.cons rfl rfl (Sub.nil _)))))))))))))) (.cons (.head _ _) rfl (.cons (.head _ _) rfl (.cons (.head _ _) rfl (.cons (.head _ _) rfl (.cons (.head _ _) rfl (.nil _)))))) ?_
            first | (constructor <;> omega) | omega
        · rintro u hG
          show PE _ _ _ [(24, .int .i64 u), (3, .slice Ay y.length cy), (4, .int .i64 wh), (5, .int .i64 at_), (13, .pointer (some ⟨r3, 0, none⟩)), (14, .int .i64 (zoneI o)), (15, .slice AW2 W2.length cW2), (16, .slice AZ Z.length cZ), (17, .int .i64 (min (y.length : Int) 10)), (18, .int .i64 i), (19, .int .i64 (pickI d_y_i.a 8)), (20, .int .i64 ((((pickI d_y_i.a 8) + 1) + (pickI d_y_i.b 7)) % 8)), (21, .pointer (some ⟨r6, 0, none⟩))] [.row r6 33 [.int .i64 (fromI d_y_i.c), .int .i64 (fromI d_y_i.c + lastI d_y_i.d)], .own AW2 W2.length cW2 39 3 (encs encD W2), .own AZ Z.length cZ 39 3 (encs encD Z), .row r3 26 [.slice A1 ((madesR x).length) c2, .int .i64 (pickI c 1000)], .own A1 ((madesR x).length) c2 56 4 (encs encR (madesR x))]
          replace hG : fromI d_y_i.c ≤ u ∧ u ≤ fromI d_y_i.c + lastI d_y_i.d := hG
          have hu := hG
          refine pe_seq ?_
          refine wc_seq ?_
          refine wc_region ?_
          refine wl_ex (ex_fieldAddr (off' := 0) rfl Try.underlying33 rfl sz_3 rfl rfl) rfl rfl ?_
          refine wl_ex (ex_load rfl ag_3 (rd_row1 (.head _ _) rfl)) rfl rfl ?_
          refine wl_ex (ex_move rfl) rfl rfl ?_
          refine wl_ex (ex_build (cells := #[.int .i64 (fromI d_y_i.c), .int .i64 u]) [0, 1] [.tmp 120, .tmp 121] rfl rfl Try.underlying33 ze_33 pl_33 rfl) rfl rfl ?_
          refine wl_ex (ex_move rfl) rfl rfl ?_
          refine wl_ex (ex_fieldAddr (off' := 1) rfl Try.underlying33 rfl sz_3 rfl rfl) rfl rfl ?_
          refine wl_ex (ex_load rfl ag_3 (rd_row1 (.head _ _) rfl)) rfl rfl ?_
          refine wl_ex (ex_build (cells := #[.int .i64 u, .int .i64 (fromI d_y_i.c + lastI d_y_i.d)]) [0, 1] [.tmp 123, .tmp 125] rfl rfl Try.underlying33 ze_33 pl_33 rfl) rfl rfl ?_
          refine wl_buildSlice [.tmp 122, .tmp 126] rfl rfl Try.underlying40 sz_33 ze_33 rfl (by simp [Value.cells]) (by omega) (by omega) rfl fun r10 => ?_
          rw [show List.flatMap (fun x => x.cells.toList) ([(.agg #[.int .i64 (fromI d_y_i.c), .int .i64 u] : Value), (.agg #[.int .i64 u, .int .i64 (fromI d_y_i.c + lastI d_y_i.d)] : Value)] : List Value) = encs encP [(⟨fromI d_y_i.c, u⟩ : Sp), (⟨u, fromI d_y_i.c + lastI d_y_i.d⟩ : Sp)] from rfl]
          refine wl_ex (ex_len Try.underlying40 rfl) rfl rfl ?_
          refine wl_ex (ex_move rfl) rfl rfl ?_
          refine wl_nil ?_
          refine pe_seq ?_
          refine wc_block ?_
          refine wc_loop (σ := Int × (List Debt) × (Option Addr) × Nat) (fun s => [(16, .slice s.2.2.1 s.2.1.length s.2.2.2), (129, .int .i64 s.1), (3, .slice Ay y.length cy), (4, .int .i64 wh), (5, .int .i64 at_), (13, .pointer (some ⟨r3, 0, none⟩)), (14, .int .i64 (zoneI o)), (15, .slice AW2 W2.length cW2), (17, .int .i64 (min (y.length : Int) 10)), (18, .int .i64 i), (19, .int .i64 (pickI d_y_i.a 8)), (20, .int .i64 ((((pickI d_y_i.a 8) + 1) + (pickI d_y_i.b 7)) % 8)), (127, .slice (some ⟨r10, 0, none⟩) 2 2), (128, .int .i64 ((2 : Nat) : Int))]) (fun s => [.own (some ⟨r10, 0, none⟩) 2 2 33 2 (encs encP [(⟨fromI d_y_i.c, u⟩ : Sp), (⟨u, fromI d_y_i.c + lastI d_y_i.d⟩ : Sp)]), .row r6 33 [.int .i64 (fromI d_y_i.c), .int .i64 (fromI d_y_i.c + lastI d_y_i.d)], .own AW2 W2.length cW2 39 3 (encs encD W2), .own s.2.2.1 s.2.1.length s.2.2.2 39 3 (encs encD s.2.1), .row r3 26 [.slice A1 ((madesR x).length) c2, .int .i64 (pickI c 1000)], .own A1 ((madesR x).length) c2 56 4 (encs encR (madesR x))]) (fun s => (0 ≤ s.1 ∧ s.1 ≤ 2) ∧ ((s.2.1.length : Int) ≤ Z.length + s.1) ∧ (∀ d ∈ s.2.1, okD 1000000000 d) ∧ ∀ a b, owesI a b s.2.1 = owesI a b Z + owes1 a b ⟨pickI d_y_i.a 8, (pickI d_y_i.a 8 + 1 + pickI d_y_i.b 7) % 8, parI (pickI c 1000) (madesR x) (zoneI o) (fromI d_y_i.c) u (fromI d_y_i.c + lastI d_y_i.d) s.1⟩) (fun s => (2 - s.1).toNat) ((0 : Int), Z, _, _) (Sub.cons rfl rfl (Sub.cons rfl rfl (Sub.cons rfl rfl (Sub.cons rfl rfl (Sub.cons rfl rfl (Sub.cons rfl rfl (Sub.cons rfl rfl (Sub.cons rfl rfl (Sub.cons rfl rfl (Sub.cons rfl rfl (Sub.cons rfl rfl (Sub.cons rfl rfl (Sub.cons rfl rfl (Sub.cons rfl rfl (Sub.nil _))))))))))))))) (.cons (.head _ _) rfl (.cons (.head _ _) rfl (.cons (.head _ _) rfl (.cons (.head _ _) (by first | rfl | simp) (.cons (.head _ _) rfl (.cons (.head _ _) rfl (.nil _))))))) (by exact ⟨by omega, by simp, hZk, fun a b => by rw [show parI (pickI c 1000) (madesR x) (zoneI o) (fromI d_y_i.c) u (fromI d_y_i.c + lastI d_y_i.d) 0 = 0 from rfl, owes1_zero, Int.add_zero]⟩) ?_
          rintro ⟨j, Z2, AZ2, cZ2⟩ hG
          show WC _ _ _ [(16, .slice AZ2 Z2.length cZ2), (129, .int .i64 j), (3, .slice Ay y.length cy), (4, .int .i64 wh), (5, .int .i64 at_), (13, .pointer (some ⟨r3, 0, none⟩)), (14, .int .i64 (zoneI o)), (15, .slice AW2 W2.length cW2), (17, .int .i64 (min (y.length : Int) 10)), (18, .int .i64 i), (19, .int .i64 (pickI d_y_i.a 8)), (20, .int .i64 ((((pickI d_y_i.a 8) + 1) + (pickI d_y_i.b 7)) % 8)), (127, .slice (some ⟨r10, 0, none⟩) 2 2), (128, .int .i64 ((2 : Nat) : Int))] [.own (some ⟨r10, 0, none⟩) 2 2 33 2 (encs encP [(⟨fromI d_y_i.c, u⟩ : Sp), (⟨u, fromI d_y_i.c + lastI d_y_i.d⟩ : Sp)]), .row r6 33 [.int .i64 (fromI d_y_i.c), .int .i64 (fromI d_y_i.c + lastI d_y_i.d)], .own AW2 W2.length cW2 39 3 (encs encD W2), .own AZ2 Z2.length cZ2 39 3 (encs encD Z2), .row r3 26 [.slice A1 ((madesR x).length) c2, .int .i64 (pickI c 1000)], .own A1 ((madesR x).length) c2 56 4 (encs encR (madesR x))]
          replace hG : (0 ≤ j ∧ j ≤ 2) ∧ ((Z2.length : Int) ≤ Z.length + j) ∧ (∀ d ∈ Z2, okD 1000000000 d) ∧ ∀ a b, owesI a b Z2 = owesI a b Z + owes1 a b ⟨pickI d_y_i.a 8, (pickI d_y_i.a 8 + 1 + pickI d_y_i.b 7) % 8, parI (pickI c 1000) (madesR x) (zoneI o) (fromI d_y_i.c) u (fromI d_y_i.c + lastI d_y_i.d) j⟩ := hG
          obtain ⟨h3, h4, hZk2, hZo2⟩ := hG
          refine wc_seq ?_
          refine wc_region ?_
          refine wl_ex (ex_lss rfl rfl) rfl rfl ?_
          refine wl_nil ?_
          refine pe_seq ?_
          refine wc_seq ?_
          refine wc_ite rfl (fun c130 => ?_) (fun c130 => ?_)
          · refine wc_skip ?_
            refine pe_seq ?_
            refine wc_seq ?_
            refine wc_block ?_
            refine wc_seq ?_
            refine wc_region ?_
            refine wl_ex (ex_indexAddrN rfl rfl rfl Try.underlying40 sz_33 (by omega) (by omega)) rfl rfl ?_
            obtain ⟨d_fromI_d_y_i_c_u_Sp_u_fromI_d_y_i_c_lastI_d_y_i_d_Sp__j, hd_fromI_d_y_i_c_u_Sp_u_fromI_d_y_i_c_lastI_d_y_i_d_Sp__j⟩ := get_if ([(⟨fromI d_y_i.c, u⟩ : Sp), (⟨u, fromI d_y_i.c + lastI d_y_i.d⟩ : Sp)]) j
            refine wl_ex (ex_loadS rfl ag_33 sz_33 (encP_len _) (rd_encs encP_len (sl_own (.head _ _)) (hd_fromI_d_y_i_c_u_Sp_u_fromI_d_y_i_c_lastI_d_y_i_d_Sp__j (by omega) (by omega)))) rfl rfl ?_
            refine wl_alloc ze_33 rfl rfl fun r11 => ?_
            refine wl_storeS (vs := [.int .i64 d_fromI_d_y_i_c_u_Sp_u_fromI_d_y_i_c_lastI_d_y_i_d_Sp__j.f, .int .i64 d_fromI_d_y_i_c_u_Sp_u_fromI_d_y_i_c_lastI_d_y_i_d_Sp__j.t]) rfl rfl (by simp [Value.oneCell']) sz_33 rfl (.head _ _) (by simp) ?_
            rw [show ovr [.int .i64 0, .int .i64 0] 0 [.int .i64 d_fromI_d_y_i_c_u_Sp_u_fromI_d_y_i_c_lastI_d_y_i_d_Sp__j.f, .int .i64 d_fromI_d_y_i_c_u_Sp_u_fromI_d_y_i_c_lastI_d_y_i_d_Sp__j.t] = [.int .i64 d_fromI_d_y_i_c_u_Sp_u_fromI_d_y_i_c_lastI_d_y_i_d_Sp__j.f, .int .i64 d_fromI_d_y_i_c_u_Sp_u_fromI_d_y_i_c_lastI_d_y_i_d_Sp__j.t] from rfl]
            refine wl_nil ?_
            refine pe_seq ?_
            refine wc_seq ?_
            refine wc_region ?_
            have hsp : d_fromI_d_y_i_c_u_Sp_u_fromI_d_y_i_c_lastI_d_y_i_d_Sp__j.f = (if j = 0 then fromI d_y_i.c else u) ∧ d_fromI_d_y_i_c_u_Sp_u_fromI_d_y_i_c_lastI_d_y_i_d_Sp__j.t = (if j = 0 then u else fromI d_y_i.c + lastI d_y_i.d) := by
              have h0 := (hd_fromI_d_y_i_c_u_Sp_u_fromI_d_y_i_c_lastI_d_y_i_d_Sp__j (by omega) (by omega))
              rcases (show j = 0 ∨ j = 1 by omega) with rfl | rfl
              · have := Option.some.inj h0; subst this; simp
              · have := Option.some.inj h0; subst this; simp
            have hsp2 : 0 ≤ d_fromI_d_y_i_c_u_Sp_u_fromI_d_y_i_c_lastI_d_y_i_d_Sp__j.f ∧ d_fromI_d_y_i_c_u_Sp_u_fromI_d_y_i_c_lastI_d_y_i_d_Sp__j.f ≤ d_fromI_d_y_i_c_u_Sp_u_fromI_d_y_i_c_lastI_d_y_i_d_Sp__j.t ∧ d_fromI_d_y_i_c_u_Sp_u_fromI_d_y_i_c_lastI_d_y_i_d_Sp__j.t ≤ 10000000 ∧ d_fromI_d_y_i_c_u_Sp_u_fromI_d_y_i_c_lastI_d_y_i_d_Sp__j.t ≤ d_fromI_d_y_i_c_u_Sp_u_fromI_d_y_i_c_lastI_d_y_i_d_Sp__j.f + 345600 := by rw [hsp.1, hsp.2]; split <;> omega
            have hal2 := amt_lo c x (zoneI o) (q := d_fromI_d_y_i_c_u_Sp_u_fromI_d_y_i_c_lastI_d_y_i_d_Sp__j.f) (e := d_fromI_d_y_i_c_u_Sp_u_fromI_d_y_i_c_lastI_d_y_i_d_Sp__j.t) (by omega)
            have hps := par_step (pickI c 1000) (madesR x) (zoneI o) (fromI d_y_i.c) u (fromI d_y_i.c + lastI d_y_i.d) (j := j) (by omega) hsp.1 hsp.2
            refine wl_ex (ex_loadS rfl ag_26 sz_26 rfl (rd_rowAll (.tail (.tail (.tail (.tail (.tail (.head _ _)))))))) rfl rfl ?_
            refine wl_ex (ex_move rfl) rfl rfl ?_
            refine wl_ex (ex_loadS rfl ag_33 sz_33 rfl (rd_rowAll (.head _ _))) rfl rfl ?_
            refine wl_callV [.tmp 134, .tmp 135, .tmp 136] rfl ok_9 rfl (fun w hm => c_Amount (pickI c 1000) A1 c2 (madesR x) (zoneI o) d_fromI_d_y_i_c_u_Sp_u_fromI_d_y_i_c_lastI_d_y_i_d_Sp__j.f d_fromI_d_y_i_c_u_Sp_u_fromI_d_y_i_c_lastI_d_y_i_d_Sp__j.t w (((sl_own (.tail (.tail (.tail (.tail (.tail (.tail (.head _ _))))))))).at hm)  (by assumption) (by assumption) (by omega)) rfl ?_
            refine wl_ex (ex_move rfl) rfl rfl ?_
            refine wl_ex (ex_extract rfl rfl) rfl rfl ?_
            refine wl_ex (ex_extract rfl rfl) rfl rfl ?_
            refine wl_ex (ex_assign rfl) rfl rfl ?_
            refine wl_ex (ex_assign rfl) rfl rfl ?_
            refine wl_nil ?_
            refine pe_seq ?_
            refine wc_seq ?_
            refine wc_seq ?_
            refine wc_region ?_
            refine wl_ex (ex_move rfl) rfl rfl ?_
            refine wl_ex (ex_neq rfl rfl) rfl rfl ?_
            refine wl_ex (ex_move rfl) rfl rfl ?_
            refine wl_pass rfl rfl rfl (decide_eq_false (fun e => e rfl)) ?_
            refine wl_ex (ex_move rfl) rfl rfl ?_
            refine wl_pass rfl rfl rfl (decide_eq_false (fun e => e rfl)) ?_
            refine wl_ex (ex_lss rfl rfl) rfl rfl ?_
            refine wl_ex (ex_pickf rfl (decide_eq_false (fun e => e rfl)) rfl) rfl rfl ?_
            refine wl_nil ?_
            refine pe_seq ?_
            refine wc_ite rfl (fun c145 => ?_) (fun c145 => ?_)
            · omega
            · refine wc_skip ?_
              refine pe_seq ?_
              refine wc_seq ?_
              refine wc_region ?_
              refine wl_ex (ex_move rfl) rfl rfl ?_
              refine wl_ex (ex_gtr rfl rfl) rfl rfl ?_
              refine wl_nil ?_
              refine pe_seq ?_
              refine wc_ite rfl (fun c147 => ?_) (fun c147 => ?_)
              · refine wc_region ?_
                refine wl_ex (ex_move rfl) rfl rfl ?_
                refine wl_ex (ex_move rfl) rfl rfl ?_
                refine wl_ex (ex_move rfl) rfl rfl ?_
                refine wl_ex (ex_move rfl) rfl rfl ?_
                refine wl_ex (ex_build (cells := #[.int .i64 (pickI d_y_i.a 8), .int .i64 ((((pickI d_y_i.a 8) + 1) + (pickI d_y_i.b 7)) % 8), .int .i64 (amtI (pickI c 1000) (madesR x) (zoneI o) d_fromI_d_y_i_c_u_Sp_u_fromI_d_y_i_c_lastI_d_y_i_d_Sp__j.f d_fromI_d_y_i_c_u_Sp_u_fromI_d_y_i_c_lastI_d_y_i_d_Sp__j.t)]) [0, 1, 2] [.tmp 149, .tmp 150, .tmp 151] rfl rfl Try.underlying39 ze_39 pl_39 rfl) rfl rfl ?_
                refine wl_buildSlice [.tmp 152] rfl rfl Try.underlying29 sz_39 ze_39 rfl (by simp [Value.cells]) (by omega) (by omega) rfl fun r12 => ?_
                rw [show List.flatMap (fun x => x.cells.toList) ([(.agg #[.int .i64 (pickI d_y_i.a 8), .int .i64 ((((pickI d_y_i.a 8) + 1) + (pickI d_y_i.b 7)) % 8), .int .i64 (amtI (pickI c 1000) (madesR x) (zoneI o) d_fromI_d_y_i_c_u_Sp_u_fromI_d_y_i_c_lastI_d_y_i_d_Sp__j.f d_fromI_d_y_i_c_u_Sp_u_fromI_d_y_i_c_lastI_d_y_i_d_Sp__j.t)] : Value)] : List Value) = encs encD [(⟨pickI d_y_i.a 8, (((pickI d_y_i.a 8) + 1) + (pickI d_y_i.b 7)) % 8, amtI (pickI c 1000) (madesR x) (zoneI o) d_fromI_d_y_i_c_u_Sp_u_fromI_d_y_i_c_lastI_d_y_i_d_Sp__j.f d_fromI_d_y_i_c_u_Sp_u_fromI_d_y_i_c_lastI_d_y_i_d_Sp__j.t⟩ : Debt)] from rfl]
                refine wl_appendE encD_len encD_one rfl rfl Try.underlying29 sz_39 ze_39 rfl by_39 rfl (.tail (.tail (.tail (.tail (.tail (.head _ _)))))) (sl_own (.head _ _)) (by rfl) (by first | rfl | simp) (by first | omega | (simp; omega)) (by first | omega | (simp; omega)) rfl fun A13 c14 => ?_
                refine wl_ex (ex_assign rfl) rfl rfl ?_
                refine wl_nil ?_
                refine pe_block _ ?_
                refine pe_seq ?_
                refine wc_region ?_
                refine wl_ex (ex_add rfl rfl (by omega) (by omega)) rfl rfl ?_
                refine wl_ex (ex_move rfl) rfl rfl ?_
                refine wl_nil ?_
                refine pe_again ⟨j + 1, Z2 ++ ([(⟨pickI d_y_i.a 8, (((pickI d_y_i.a 8) + 1) + (pickI d_y_i.b 7)) % 8, amtI (pickI c 1000) (madesR x) (zoneI o) d_fromI_d_y_i_c_u_Sp_u_fromI_d_y_i_c_lastI_d_y_i_d_Sp__j.f d_fromI_d_y_i_c_u_Sp_u_fromI_d_y_i_c_lastI_d_y_i_d_Sp__j.t⟩ : Debt)]), A13, c14⟩ (Sub.cons rfl (by first | rfl | simp) (Sub.cons rfl rfl (Sub.cons rfl rfl (Sub.cons rfl rfl (Sub.cons rfl rfl (Sub.cons rfl rfl (Sub.cons rfl rfl (Sub.cons rfl rfl (Sub.cons rfl rfl (Sub.cons rfl rfl (Sub.cons rfl rfl (Sub.cons rfl rfl (Sub.cons rfl rfl (Sub.cons rfl rfl (Sub.nil _))))))))))))))) (.cons (.tail (.tail (.tail (.head _ _)))) rfl (.cons (.tail (.tail (.tail (.head _ _)))) rfl (.cons (.tail (.tail (.tail (.head _ _)))) rfl (.cons (.head _ _) (by first | rfl | simp) (.cons (.tail (.tail (.head _ _))) rfl (.cons (.tail (.tail (.head _ _))) rfl (.nil _))))))) ?_ ?_
                · show (0 ≤ (j + 1) ∧ (j + 1) ≤ 2) ∧ (((Z2 ++ ([(⟨pickI d_y_i.a 8, (((pickI d_y_i.a 8) + 1) + (pickI d_y_i.b 7)) % 8, amtI (pickI c 1000) (madesR x) (zoneI o) d_fromI_d_y_i_c_u_Sp_u_fromI_d_y_i_c_lastI_d_y_i_d_Sp__j.f d_fromI_d_y_i_c_u_Sp_u_fromI_d_y_i_c_lastI_d_y_i_d_Sp__j.t⟩ : Debt)])).length : Int) ≤ Z.length + (j + 1)) ∧ (∀ d ∈ (Z2 ++ ([(⟨pickI d_y_i.a 8, (((pickI d_y_i.a 8) + 1) + (pickI d_y_i.b 7)) % 8, amtI (pickI c 1000) (madesR x) (zoneI o) d_fromI_d_y_i_c_u_Sp_u_fromI_d_y_i_c_lastI_d_y_i_d_Sp__j.f d_fromI_d_y_i_c_u_Sp_u_fromI_d_y_i_c_lastI_d_y_i_d_Sp__j.t⟩ : Debt)])), okD 1000000000 d) ∧ ∀ a b, owesI a b (Z2 ++ ([(⟨pickI d_y_i.a 8, (((pickI d_y_i.a 8) + 1) + (pickI d_y_i.b 7)) % 8, amtI (pickI c 1000) (madesR x) (zoneI o) d_fromI_d_y_i_c_u_Sp_u_fromI_d_y_i_c_lastI_d_y_i_d_Sp__j.f d_fromI_d_y_i_c_u_Sp_u_fromI_d_y_i_c_lastI_d_y_i_d_Sp__j.t⟩ : Debt)])) = owesI a b Z + owes1 a b ⟨pickI d_y_i.a 8, (pickI d_y_i.a 8 + 1 + pickI d_y_i.b 7) % 8, parI (pickI c 1000) (madesR x) (zoneI o) (fromI d_y_i.c) u (fromI d_y_i.c + lastI d_y_i.d) (j + 1)⟩
                  have hP2 : Put Z2 (Z2 ++ ([(⟨pickI d_y_i.a 8, (((pickI d_y_i.a 8) + 1) + (pickI d_y_i.b 7)) % 8, amtI (pickI c 1000) (madesR x) (zoneI o) d_fromI_d_y_i_c_u_Sp_u_fromI_d_y_i_c_lastI_d_y_i_d_Sp__j.f d_fromI_d_y_i_c_u_Sp_u_fromI_d_y_i_c_lastI_d_y_i_d_Sp__j.t⟩ : Debt)])) (pickI d_y_i.a 8) ((pickI d_y_i.a 8 + 1 + pickI d_y_i.b 7) % 8) (amtI (pickI c 1000) (madesR x) (zoneI o) d_fromI_d_y_i_c_u_Sp_u_fromI_d_y_i_c_lastI_d_y_i_d_Sp__j.f d_fromI_d_y_i_c_u_Sp_u_fromI_d_y_i_c_lastI_d_y_i_d_Sp__j.t) := by
                    first | exact put_pos (by omega) (by omega) (by omega) (by omega) (by assumption) | exact put_zero (by omega) (by omega) (by assumption)
                  refine ⟨by omega, by have := hP2.len; omega, hP2.ok, fun a b => ?_⟩
                  rw [hP2.owes, hZo2, ← hps, owes1_add]; omega
                · first | omega | (simp only []; omega)
              · refine wc_skip ?_
                refine pe_block _ ?_
                refine pe_seq ?_
                refine wc_region ?_
                refine wl_ex (ex_add rfl rfl (by omega) (by omega)) rfl rfl ?_
                refine wl_ex (ex_move rfl) rfl rfl ?_
                refine wl_nil ?_
                refine pe_again ⟨j + 1, Z2, AZ2, cZ2⟩ (Sub.cons rfl rfl (Sub.cons rfl rfl (Sub.cons rfl rfl (Sub.cons rfl rfl (Sub.cons rfl rfl (Sub.cons rfl rfl (Sub.cons rfl rfl (Sub.cons rfl rfl (Sub.cons rfl rfl (Sub.cons rfl rfl (Sub.cons rfl rfl (Sub.cons rfl rfl (Sub.cons rfl rfl (Sub.cons rfl rfl (Sub.nil _))))))))))))))) (.cons (.tail (.head _ _)) rfl (.cons (.tail (.head _ _)) rfl (.cons (.tail (.head _ _)) rfl (.cons (.tail (.head _ _)) rfl (.cons (.tail (.head _ _)) rfl (.cons (.tail (.head _ _)) rfl (.nil _))))))) ?_ ?_
                · show (0 ≤ (j + 1) ∧ (j + 1) ≤ 2) ∧ ((Z2.length : Int) ≤ Z.length + (j + 1)) ∧ (∀ d ∈ Z2, okD 1000000000 d) ∧ ∀ a b, owesI a b Z2 = owesI a b Z + owes1 a b ⟨pickI d_y_i.a 8, (pickI d_y_i.a 8 + 1 + pickI d_y_i.b 7) % 8, parI (pickI c 1000) (madesR x) (zoneI o) (fromI d_y_i.c) u (fromI d_y_i.c + lastI d_y_i.d) (j + 1)⟩
                  have hP2 : Put Z2 Z2 (pickI d_y_i.a 8) ((pickI d_y_i.a 8 + 1 + pickI d_y_i.b 7) % 8) (amtI (pickI c 1000) (madesR x) (zoneI o) d_fromI_d_y_i_c_u_Sp_u_fromI_d_y_i_c_lastI_d_y_i_d_Sp__j.f d_fromI_d_y_i_c_u_Sp_u_fromI_d_y_i_c_lastI_d_y_i_d_Sp__j.t) := by
                    first | exact put_pos (by omega) (by omega) (by omega) (by omega) (by assumption) | exact put_zero (by omega) (by omega) (by assumption)
                  refine ⟨by omega, by have := hP2.len; omega, hP2.ok, fun a b => ?_⟩
                  rw [hP2.owes, hZo2, ← hps, owes1_add]; omega
                · first | omega | (simp only []; omega)
          · refine wc_exit ?_
            refine pe_seq_exit ?_
            refine pe_loop_exit ?_
            refine pe_block_exit ?_
            refine pe_block _ ?_
            refine pe_seq ?_
            refine wc_region ?_
            refine wl_ex (ex_move rfl) rfl rfl ?_
            refine wl_ex (ex_add rfl rfl (by omega) (by omega)) rfl rfl ?_
            refine wl_ex (ex_assign rfl) rfl rfl ?_
            refine wl_nil ?_
            refine pe_again ⟨i + 1, W2, AW2, cW2, Z2, AZ2, cZ2⟩ (Sub.cons rfl (by first | rfl | simp) (Sub.cons rfl (by first | rfl | simp) (Sub.cons rfl rfl (Sub.cons rfl rfl (Sub.cons rfl rfl (Sub.cons rfl rfl (Sub.cons rfl rfl (Sub.cons rfl rfl (Sub.cons rfl rfl (Sub.nil _)))))))))) (.cons (.tail (.tail (.head _ _))) (by first | rfl | simp) (.cons (.tail (.tail (.head _ _))) (by first | rfl | simp) (.cons (.tail (.tail (.head _ _))) rfl (.cons (.tail (.tail (.head _ _))) rfl (.nil _))))) ?_ ?_
            · show (0 ≤ (i + 1) ∧ (i + 1) ≤ min (y.length : Int) 10) ∧ ((W2.length : Int) ≤ (i + 1) ∧ (Z2.length : Int) ≤ 2 * (i + 1)) ∧ (∀ d ∈ W2, okD 1000000000 d) ∧ (∀ d ∈ Z2, okD 1000000000 d) ∧ ∀ a b, owesI a b W2 = owesI a b Z2
              refine ⟨by omega, by have := hPW.len; omega, hPW.ok, hZk2, fun a b => ?_⟩
              rw [hPW.owes, hZo2, hWZ]
              have hj2 : j = 2 := by omega
              subst hj2
              rfl
            · first | omega | (simp only []; omega)
  · have hWo : DebtsOK 1000000000 W := ⟨hWk, by omega⟩
    have hZo : DebtsOK 1000000000 Z := ⟨hZk, by omega⟩
    have hz1 : errN W = 0 := if_pos hWo
    have hz2 : errN Z = 0 := if_pos hZo
    have hq1 := same_bal hWo hZo hWZ
    have hq3 := same_rnd hWo hZo hWZ
    have hl1 : (balR W).length ≤ 1000 := by unfold balR; rw [if_pos hWo, balI_length]; omega
    have hl2 : (rndR W).length ≤ 1000 := by unfold rndR; rw [if_pos hWo]; exact Nat.le_trans (list_le (roundS 64 (bookOf W))) (by omega)
    refine wc_exit ?_
    refine pe_seq_exit ?_
    refine pe_loop_exit ?_
    refine pe_block_exit ?_
    refine pe_seq ?_
    refine wc_seq ?_
    refine wc_region ?_
    refine wl_ex (ex_move rfl) rfl rfl ?_
    refine wl_callS2 [.tmp 157] rfl ok_10 rfl (fun w hm => c_BalancesN AW cW W w (((sl_own (.head _ _))).at hm)  (by first | omega | assumption)) rfl fun A15 c16 => ?_
    refine wl_ex (ex_move rfl) rfl rfl ?_
    refine wl_ex (ex_extract rfl rfl) rfl rfl ?_
    refine wl_ex (ex_extract rfl rfl) rfl rfl ?_
    refine wl_ex (ex_assign rfl) rfl rfl ?_
    refine wl_ex (ex_assign rfl) rfl rfl ?_
    refine wl_nil ?_
    refine pe_seq ?_
    refine wc_seq ?_
    refine wc_region ?_
    refine wl_ex (ex_move rfl) rfl rfl ?_
    refine wl_callS2 [.tmp 162] rfl ok_10 rfl (fun w hm => c_BalancesN AZ cZ Z w (((sl_own (.tail (.tail (.head _ _))))).at hm)  (by first | omega | assumption)) rfl fun A17 c18 => ?_
    refine wl_ex (ex_move rfl) rfl rfl ?_
    refine wl_ex (ex_extract rfl rfl) rfl rfl ?_
    refine wl_ex (ex_extract rfl rfl) rfl rfl ?_
    refine wl_ex (ex_assign rfl) rfl rfl ?_
    refine wl_ex (ex_assign rfl) rfl rfl ?_
    refine wl_nil ?_
    refine pe_seq ?_
    refine wc_seq ?_
    refine wc_region ?_
    refine wl_ex (ex_move rfl) rfl rfl ?_
    refine wl_callS2 [.tmp 167] rfl ok_11 rfl (fun w hm => c_Round AW cW W w (((sl_own (.tail (.tail (.head _ _))))).at hm)  (by first | omega | assumption)) rfl fun A19 c20 => ?_
    refine wl_ex (ex_move rfl) rfl rfl ?_
    refine wl_ex (ex_extract rfl rfl) rfl rfl ?_
    refine wl_ex (ex_extract rfl rfl) rfl rfl ?_
    refine wl_ex (ex_assign rfl) rfl rfl ?_
    refine wl_ex (ex_assign rfl) rfl rfl ?_
    refine wl_nil ?_
    refine pe_seq ?_
    refine wc_seq ?_
    refine wc_region ?_
    refine wl_ex (ex_move rfl) rfl rfl ?_
    refine wl_callS2 [.tmp 172] rfl ok_11 rfl (fun w hm => c_Round AZ cZ Z w (((sl_own (.tail (.tail (.tail (.tail (.head _ _))))))).at hm)  (by first | omega | assumption)) rfl fun A21 c22 => ?_
    refine wl_ex (ex_move rfl) rfl rfl ?_
    refine wl_ex (ex_extract rfl rfl) rfl rfl ?_
    refine wl_ex (ex_extract rfl rfl) rfl rfl ?_
    refine wl_ex (ex_assign rfl) rfl rfl ?_
    refine wl_ex (ex_assign rfl) rfl rfl ?_
    refine wl_nil ?_
    refine pe_seq ?_
    refine wc_seq ?_
    refine wc_region ?_
    refine wl_ex (ex_move rfl) rfl rfl ?_
    refine wl_ex (ex_eql rfl rfl) rfl rfl ?_
    refine wl_ex (ex_move rfl) rfl rfl ?_
    refine wl_pass rfl rfl rfl (decide_eq_true hz1) ?_
    refine wl_ex (ex_move rfl) rfl rfl ?_
    refine wl_pass rfl rfl rfl (decide_eq_true hz1) ?_
    refine wl_ex (ex_eql rfl rfl) rfl rfl ?_
    refine wl_ex (ex_pickt rfl (decide_eq_true hz1) rfl) rfl rfl ?_
    refine wl_ex (ex_move rfl) rfl rfl ?_
    refine wl_pass rfl rfl rfl (decide_eq_true hz2) ?_
    refine wl_ex (ex_move rfl) rfl rfl ?_
    refine wl_pass rfl rfl rfl (decide_eq_true hz2) ?_
    refine wl_ex (ex_eql rfl rfl) rfl rfl ?_
    refine wl_ex (ex_pickt rfl (decide_eq_true hz2) rfl) rfl rfl ?_
    refine wl_ex (ex_move rfl) rfl rfl ?_
    refine wl_pass rfl rfl rfl (decide_eq_true hz1) ?_
    refine wl_ex (ex_move rfl) rfl rfl ?_
    refine wl_pass rfl rfl rfl (decide_eq_true hz1) ?_
    refine wl_ex (ex_eql rfl rfl) rfl rfl ?_
    refine wl_ex (ex_pickt rfl (decide_eq_true hz1) rfl) rfl rfl ?_
    refine wl_ex (ex_move rfl) rfl rfl ?_
    refine wl_pass rfl rfl rfl (decide_eq_true hz2) ?_
    refine wl_ex (ex_move rfl) rfl rfl ?_
    refine wl_pass rfl rfl rfl (decide_eq_true hz2) ?_
    refine wl_ex (ex_move rfl) rfl rfl ?_
    refine wl_pass rfl rfl rfl (decide_eq_true hz2) ?_
    refine wl_callV [.tmp 191, .tmp 192] rfl ok_12 rfl (fun w hm => c_Ints A15 c16 (balR W) A17 c18 (balR Z) w (((sl_own (.tail (.tail (.tail (.head _ _)))))).at hm) (((sl_own (.tail (.tail (.head _ _))))).at hm)  (by first | omega | assumption | (simp; omega))) rfl ?_
    refine wl_ex (ex_pickt rfl (decide_eq_true hz2) rfl) rfl rfl ?_
    refine wl_ex (ex_move rfl) rfl rfl ?_
    refine wl_pass rfl rfl rfl (decide_eq_true hq1) ?_
    refine wl_ex (ex_move rfl) rfl rfl ?_
    refine wl_pass rfl rfl rfl (decide_eq_true hq1) ?_
    refine wl_ex (ex_move rfl) rfl rfl ?_
    refine wl_pass rfl rfl rfl (decide_eq_true hq1) ?_
    refine wl_callV [.tmp 196, .tmp 197] rfl ok_13 rfl (fun w hm => c_Same A19 c20 (rndR W) A21 c22 (rndR Z) w (((sl_own (.tail (.head _ _)))).at hm) (((sl_own (.head _ _))).at hm)  (by first | omega | assumption | (simp; omega))) rfl ?_
    refine wl_ex (ex_pickt rfl (decide_eq_true hq1) rfl) rfl rfl ?_
    refine wl_ex (ex_assign rfl) rfl rfl ?_
    refine wl_nil ?_
    refine pe_seq ?_
    refine wc_ret ?_
    refine pe_ret1 rfl rfl rfl (fun w' hm => ⟨?_, hm.ent (.nil _)⟩)
    exact congrArg Value.bool (decide_eq_true hq3)

end Go.Proofs.Yteglbaidaekccaa
