/- Walks. -/
import Derived.Test.YteglbaidaekccaaTb
set_option linter.unusedVariables false
set_option linter.unusedSimpArgs false
set_option maxRecDepth 10000
namespace Go.Proofs.Yteglbaidaekccaa
open Go Go.RowKit
theorem own_addr {w : World} {A : Option Addr} {n cap T : Nat} {m : List Int} (h : (Hp.own A n cap T 1 (encs encI m)).Holds w) (hm : m ≠ []) : ∃ r, A = some ⟨r, 0, none⟩ ∧ r < w.heap.size ∧ n = m.length ∧ n ≤ cap := by
  obtain ⟨h1, h2, _, ⟨_, h4, _⟩ | ⟨r, e, rest, hr, _⟩⟩ := h
  · have hx : (encs encI m).length = m.length := by rw [encs_length encI_len, Nat.mul_one]
    have : m.length ≠ 0 := fun h => hm (List.eq_nil_of_length_eq_zero h)
    omega
  · refine ⟨r, e, (Array.getElem?_eq_some_iff.1 hr).1, ?_, h2⟩
    have hx : (encs encI m).length = m.length := by rw [encs_length encI_len, Nat.mul_one]
    omega
theorem grow_nil {w : World} : Sort.grow w #[] = w := by cases w; simp [Sort.grow]
theorem c_SortI (A : Option Addr) (n cap : Nat) (m : List Int) (w : World) (hK : Hold [.own A n cap 3 1 (encs encI m)] w) (hm : m ≠ []) (hl : m.length ≤ 1000) : Cl Try.prog 58 [.slice A n cap] w (IsT (γ := Unit) [.own A n cap 3 1 (encs encI m)] (fun _ => True) (fun _ => .tuple #[]) (fun _ => [.own A n cap 3 1 (encs encI (sortI m))]) w) := by
  have hh := hK.1 _ (List.mem_cons_self ..)
  obtain ⟨r, rfl, hr, rfl, _⟩ := own_addr hh hm
  refine Calls.mono (Try.slices_Sort_int r 0 cap m w (own_holds hh) hr (by omega)) ?_
  rintro e w' ⟨rfl, q, os, rfl⟩
  exact ⟨_, rfl, (), trivial, rfl, own_put hh (sortI_len m) q os⟩
theorem c_CompactI (A : Option Addr) (n cap : Nat) (m : List Int) (w : World) (hK : Hold [.own A n cap 3 1 (encs encI m)] w) (hm : m ≠ []) (hl : m.length ≤ 1000) : Cl Try.prog 59 [.slice A n cap] w (IsT (γ := Unit) [.own A n cap 3 1 (encs encI m)] (fun _ => True) (fun _ => .slice A (Lib.compact m).length cap) (fun _ => [.own A (Lib.compact m).length cap 3 1 (encs encI (Lib.compact m))]) w) := by
  have hh := hK.1 _ (List.mem_cons_self ..)
  obtain ⟨r, rfl, hr, rfl, hcap⟩ := own_addr hh hm
  have hcl := compact_len m
  refine Calls.mono (Try.slices_Compact_int r 0 cap m w (own_holds hh) (by omega) hcap) ?_
  rintro e w' ⟨rfl, q, rfl⟩
  have h1 := own_put hh (ys := Lib.compact m ++ List.replicate (m.length - (Lib.compact m).length) 0) (by simp; omega) q #[]
  rw [grow_nil] at h1
  have h2 := h1.takeOwn (Lib.compact m).length hcl
  refine ⟨_, rfl, (), trivial, rfl, ?_⟩
  have e : (encs encI (Lib.compact m ++ List.replicate (m.length - (Lib.compact m).length) 0)).take ((Lib.compact m).length * 1) = encs encI (Lib.compact m) := by
    have : (encs encI (Lib.compact m)).length = (Lib.compact m).length * 1 := encs_length encI_len _
    rw [encs, List.flatMap_append, ← encs, ← this]
    exact List.take_left
  rw [e] at h2
  exact h2
theorem upd_drew (w : World) (q : Nat) : Upd [] w (w.drewN q) := ⟨rfl, rfl, rfl, Nat.le_refl _, fun _ _ _ => rfl⟩
/-- how many lie below -/
def cntI (m : List Int) (x : Int) : Int := ((m.countP fun y => decide (y < x) : Nat) : Int)
theorem c_SearchI (A : Option Addr) (cap : Nat) (m : List Int) (x : Int) (w : World) (hA : Sl w A (encs encI m)) (hm : m ≠ []) (hl : m.length ≤ 1000) (hs : m.Pairwise (· ≤ ·)) : Cl Try.prog 52 [.slice A m.length cap, .int .i64 x] w (IsV (.tuple #[.int .i64 (cntI m x), .bool (m.contains x)]) w) := by
  have hx : (encs encI m).length = m.length := by rw [encs_length encI_len, Nat.mul_one]
  rcases hA with h | ⟨b, off, rfl, _, hc⟩
  · exact absurd (by rw [h] at hx; simpa using hx.symm) hm
  · refine Calls.mono (Try.slices_BinarySearch_int b off m.length cap m x w (Nat.le_refl _) (by omega) ?_ (by rw [List.take_length]; exact hs)) ?_
    · intro j hj
      refine hc j _ ?_
      have := encs_get (enc := encI) (sz := 1) (fun _ => rfl) (l := m) (i := j) (x := m.getD j 0) (by rw [List.getD_eq_getElem?_getD, List.getElem?_eq_getElem hj]; rfl) (j := 0) (v := .int .i64 (m.getD j 0)) rfl
      simpa using this
    · rintro e w' ⟨rfl, q, rfl⟩
      rw [List.take_length]
      exact ⟨_, rfl, rfl, upd_drew w q, by simp, by simp, by simp⟩
/-- where prices can change -/
def chgL (l : List Rate) : List Int := 0 :: l.flatMap fun r => [r.frm, r.to % 86400]
def chgC (l : List Rate) : List Int := Lib.compact (sortI (chgL l))
theorem chgL_len (l : List Rate) : (chgL l).length = 1 + 2 * l.length := by
  unfold chgL
  induction l with
  | nil => rfl
  | cons r l ih => simp only [List.flatMap_cons, List.length_cons, List.length_append, List.length_nil] at *; omega
theorem chgC_len (l : List Rate) : (chgC l).length ≤ 1 + 2 * l.length := by
  unfold chgC
  have := compact_len (sortI (chgL l))
  rw [sortI_len, chgL_len] at this
  exact this
theorem chgL_take {l : List Rate} {k : Nat} {d : Rate} (h : l[k]? = some d) : chgL (l.take (k + 1)) = chgL (l.take k) ++ [d.frm, d.to % 86400] := by
  unfold chgL
  rw [List.take_add_one, h, List.flatMap_append]
  simp
theorem chgC_ne (l : List Rate) : chgC l ≠ [] := List.ne_nil_of_mem (compact_mem (sortI_mem.2 (List.mem_cons_self ..)))
theorem chgC_ok {b : Int} {l : List Rate} (h : tarOK b l) : ChOK l (chgC l) where
  sorted := (sortI_sorted _).sublist (compact_sub _)
  bd := fun x hx => by
    have h1 := sortI_mem.1 ((compact_sub _).subset hx)
    unfold chgL at h1
    rcases List.mem_cons.1 h1 with rfl | h1
    · omega
    · obtain ⟨r, hr, hx⟩ := List.mem_flatMap.1 h1
      have := h.2.2 r hr
      unfold okR at this
      simp only [List.mem_cons, List.not_mem_nil, or_false] at hx
      omega
  has := fun r hr => by
    constructor
    · exact compact_mem (sortI_mem.2 (List.mem_cons_of_mem _ (List.mem_flatMap.2 ⟨r, hr, by simp⟩)))
    · exact compact_mem (sortI_mem.2 (List.mem_cons_of_mem _ (List.mem_flatMap.2 ⟨r, hr, by simp⟩)))
theorem ze_56 : zeT Try.prog 56 = some (.agg #[.int .i64 0, .int .i64 0, .int .i64 0, .int .i64 0]) := by kernel_rfl
theorem ok_58 : callOK Try.prog 58 = true := by kernel_rfl
theorem ok_59 : callOK Try.prog 59 = true := by kernel_rfl

theorem c_changes (b : Int) (Al : Option Addr) (cl : Nat) (l : List Rate) (w : World) (hl : Sl w Al (encs encR l)) (hT : tarOK b l) :
    Cl Try.prog 50 [.agg #[.slice Al l.length cl, .int .i64 b]] w (IsS ((chgC l).length) 3 1 (encs encI (chgC l)) w) := by
  refine cl_of Try.func50 rfl Try.ntmps50 rfl (Mem.refl w) ?_
  have hlen := hT.2.1
  refine wc_seq ?_
  refine wc_region ?_
  refine wl_box rfl rfl rfl fun r1 => ?_
  refine wl_ex (ex_assign rfl) rfl rfl ?_
  refine wl_nil ?_
  refine pe_seq ?_
  refine wc_seq ?_
  refine wc_region ?_
  refine wl_buildSlice [.const (.int .i64 0)] rfl rfl Try.underlying41 sz_3 ze_3 rfl (by simp [Value.cells]) (by omega) (by omega) rfl fun r2 => ?_
  rw [show List.flatMap (fun x => x.cells.toList) ([Value.int .i64 0] : List Value) = encs encI [0] from rfl]
  refine wl_ex (ex_assign rfl) rfl rfl ?_
  refine wl_nil ?_
  refine pe_seq ?_
  refine wc_seq ?_
  refine wc_seq ?_
  refine wc_region ?_
  refine wl_ex (ex_fieldAddr (off' := 0) rfl Try.underlying26 rfl sz_24 rfl rfl) rfl rfl ?_
  refine wl_ex (ex_load rfl ag_24 (rd_row1 (.tail (.head _ _)) rfl)) rfl rfl ?_
  refine wl_ex (ex_len Try.underlying24 rfl) rfl rfl ?_
  refine wl_ex (ex_move rfl) rfl rfl ?_
  refine wl_nil ?_
  refine pe_seq ?_
  refine wc_block ?_
  refine wc_loop (σ := Int × (List Int) × (Option Addr) × Nat) (fun s => [(3, .slice s.2.2.1 s.2.1.length s.2.2.2), (10, .int .i64 s.1), (8, .slice Al l.length cl), (9, .int .i64 (l.length : Int))]) (fun s => [.own s.2.2.1 s.2.1.length s.2.2.2 3 1 (encs encI s.2.1)]) (fun s => (0 ≤ s.1 ∧ s.1 ≤ (l.length : Int)) ∧ s.2.1 = chgL (l.take s.1.toNat)) (fun s => ((l.length : Int) - s.1).toNat) ((0 : Int), [0], _, _) (Sub.cons rfl rfl (Sub.cons rfl rfl (Sub.cons rfl rfl (Sub.cons rfl rfl (Sub.nil _))))) (.cons (.head _ _) (by first | rfl | simp) (.nil _)) (by exact ⟨by omega, rfl⟩) ?_
  rintro ⟨i, m, A1, c1⟩ hG
  show WC _ _ _ [(3, .slice A1 m.length c1), (10, .int .i64 i), (8, .slice Al l.length cl), (9, .int .i64 (l.length : Int))] [.own A1 m.length c1 3 1 (encs encI m)]
  replace hG : (0 ≤ i ∧ i ≤ (l.length : Int)) ∧ m = chgL (l.take i.toNat) := hG
  obtain ⟨h1, h2⟩ := hG
  have hml : m.length ≤ 21 := by rw [h2, chgL_len, List.length_take]; omega
  refine wc_seq ?_
  refine wc_region ?_
  refine wl_ex (ex_lss rfl rfl) rfl rfl ?_
  refine wl_nil ?_
  refine pe_seq ?_
  refine wc_seq ?_
  refine wc_ite rfl (fun c11 => ?_) (fun c11 => ?_)
  · refine wc_skip ?_
    refine pe_seq ?_
    refine wc_seq ?_
    refine wc_block ?_
    refine wc_seq ?_
    refine wc_region ?_
    refine wl_ex (ex_indexAddr rfl rfl Try.underlying24 sz_56 (sl_arg hl rfl) (by omega) (by omega) (enc_pos encR_len (by omega))) rfl rfl ?_
    obtain ⟨d_l_i, hd_l_i⟩ := get_if l i
    refine wl_ex (ex_loadS rfl ag_56 sz_56 (encR_len _) (rd_encs encR_len (sl_arg hl rfl) (hd_l_i (by omega) (by omega)))) rfl rfl ?_
    refine wl_alloc ze_56 rfl rfl fun r3 => ?_
    refine wl_storeS (vs := [.int .i64 d_l_i.days, .int .i64 d_l_i.frm, .int .i64 d_l_i.to, .int .i64 d_l_i.price]) rfl rfl (by simp [Value.oneCell']) sz_56 rfl (.head _ _) (by simp) ?_
    rw [show ovr [.int .i64 0, .int .i64 0, .int .i64 0, .int .i64 0] 0 [.int .i64 d_l_i.days, .int .i64 d_l_i.frm, .int .i64 d_l_i.to, .int .i64 d_l_i.price] = [.int .i64 d_l_i.days, .int .i64 d_l_i.frm, .int .i64 d_l_i.to, .int .i64 d_l_i.price] from rfl]
    refine wl_nil ?_
    refine pe_seq ?_
    refine wc_region ?_
    refine wl_ex (ex_move rfl) rfl rfl ?_
    refine wl_ex (ex_fieldAddr (off' := 1) rfl Try.underlying56 rfl sz_3 rfl rfl) rfl rfl ?_
    refine wl_ex (ex_load rfl ag_3 (rd_row1 (.head _ _) rfl)) rfl rfl ?_
    refine wl_ex (ex_fieldAddr (off' := 2) rfl Try.underlying56 rfl sz_3 rfl rfl) rfl rfl ?_
    refine wl_ex (ex_load rfl ag_3 (rd_row1 (.head _ _) rfl)) rfl rfl ?_
    have hdo := hT.2.2 _ (mem_at (hd_l_i (by omega) (by omega)))
    unfold okR at hdo
    refine wl_ex (ex_rem rfl rfl (by omega) (by omega)) rfl rfl ?_
    refine wl_buildSlice [.tmp 16, .tmp 19] rfl rfl Try.underlying41 sz_3 ze_3 rfl (by simp [Value.cells]) (by omega) (by omega) rfl fun r4 => ?_
    rw [show List.flatMap (fun x => x.cells.toList) ([Value.int .i64 d_l_i.frm, Value.int .i64 (d_l_i.to % 86400)] : List Value) = encs encI [d_l_i.frm, d_l_i.to % 86400] from rfl]
    refine wl_appendE encI_len encI_one rfl rfl Try.underlying41 sz_3 ze_3 rfl by_3 rfl (.tail (.tail (.head _ _))) (sl_own (.head _ _)) (by rfl) (by first | rfl | simp) (by first | omega | (simp; omega)) (by first | omega | (simp; omega)) rfl fun A5 c6 => ?_
    refine wl_ex (ex_assign rfl) rfl rfl ?_
    refine wl_nil ?_
    refine pe_block _ ?_
    refine pe_seq ?_
    refine wc_region ?_
    refine wl_ex (ex_add rfl rfl (by omega) (by omega)) rfl rfl ?_
    refine wl_ex (ex_move rfl) rfl rfl ?_
    refine wl_nil ?_
    refine pe_again ⟨i + 1, m ++ ([d_l_i.frm, d_l_i.to % 86400]), A5, c6⟩ (Sub.cons rfl (by first | rfl | simp) (Sub.cons rfl rfl (Sub.cons rfl rfl (Sub.cons rfl rfl (Sub.nil _))))) (.cons (.head _ _) (by first | rfl | simp) (.nil _)) ?_ ?_
    · show (0 ≤ (i + 1) ∧ (i + 1) ≤ (l.length : Int)) ∧ (m ++ ([d_l_i.frm, d_l_i.to % 86400])) = chgL (l.take (i + 1).toNat)
      have hi : (i + 1).toNat = i.toNat + 1 := by omega
      refine ⟨by omega, ?_⟩
      rw [hi, chgL_take (hd_l_i (by omega) (by omega)), ← h2]
    · first | omega | (simp only []; omega)
  · refine wc_exit ?_
    refine pe_seq_exit ?_
    refine pe_loop_exit ?_
    refine pe_block_exit ?_
    refine pe_seq ?_
    refine wc_seq ?_
    refine wc_region ?_
    refine wl_ex (ex_move rfl) rfl rfl ?_
    have hme : m = chgL l := by rw [h2, List.take_of_length_le (by omega)]
    have hmn : m ≠ [] := by rw [hme]; exact List.cons_ne_nil _ _
    have hsn : sortI m ≠ [] := fun e => hmn (List.eq_nil_of_length_eq_zero (by rw [← sortI_len, e]; rfl))
    have hsl : (sortI m).length ≤ 1000 := by rw [sortI_len]; omega
    refine wl_callT [.tmp 23] rfl ok_58 rfl (.cons (.head _ _) (.nil _)) (fun w hm => c_SortI A1 m.length c1 m w hm.hold  (by first | assumption | simp) (by first | assumption | omega | (simp; omega))) rfl ?_
    rintro ⟨⟩ hG7
    show WL _ _ _ _ ((24, .tuple #[]) :: _) [.own A1 m.length c1 3 1 (encs encI (sortI m))]
    refine wl_nil ?_
    refine pe_seq ?_
    refine wc_seq ?_
    refine wc_region ?_
    refine wl_ex (ex_move rfl) rfl rfl ?_
    refine wl_callT [.tmp 25] rfl ok_59 rfl (.cons (.head _ _) (.nil _)) (fun w hm => c_CompactI A1 m.length c1 (sortI m) w hm.hold  (by first | assumption | simp) (by first | assumption | omega | (simp; omega))) rfl ?_
    rintro ⟨⟩ hG8
    show WL _ _ _ _ ((26, .slice A1 ((Lib.compact (sortI m)).length) c1) :: _) [.own A1 ((Lib.compact (sortI m)).length) c1 3 1 (encs encI (Lib.compact (sortI m)))]
    refine wl_ex (ex_assign rfl) rfl rfl ?_
    refine wl_nil ?_
    refine pe_seq ?_
    refine wc_ret ?_
    refine pe_ret1 rfl rfl rfl (fun w' hm => isS_mk hm (.head _ _) ?_ ?_)
    · rw [hme]; rfl
    · rw [hme]; rfl

end Go.Proofs.Yteglbaidaekccaa
