/- Walks. -/
import Derived.Test.YteglbaidaekccaaTd
set_option linter.unusedVariables false
set_option linter.unusedSimpArgs false
set_option maxRecDepth 10000
namespace Go.Proofs.Yteglbaidaekccaa
open Go Go.RowKit
theorem upd_mono {S T : List Nat} {w w' : World} (u : Upd S w w') (h : ∀ r ∈ S, r ∈ T) : Upd T w w' := ⟨u.os, u.tape, u.output, u.size, fun k hk hn => u.block k hk fun hs => hn (h k hs)⟩
/-- the blocks of a sum over spells -/
def SpR (r5 r3 s1 s2 s3 : Nat) (Al : Option Addr) (n cl : Nat) (b o q e v : Int) : List Hp :=
  [.row r5 3 [.int .i64 v], .row s3 3 [.int .i64 o], .row s2 33 [.int .i64 q, .int .i64 e], .row s1 26 [.slice Al n cl, .int .i64 b], .row r3 33 [.int .i64 q, .int .i64 e]]
def SpI (rec : Loop) (bk r5 r3 s1 s2 s3 : Nat) (Al : Option Addr) (cl : Nat) (l : List Rate) (b o q e : Int) (w0 : World) (t : Int) (w : World) : Prop :=
  Mem w0 [] (.obj (bk + 1) (.loop rec) :: .obj bk (.deferred (some [])) :: SpR r5 r3 s1 s2 s3 Al l.length cl b o q e (sumP b l o t.toNat - sumP b l o q.toNat)) w
theorem sum_step {b o e t : Int} {l : List Rate} (hT : tarOK b l) (ho : zoneOK o) (h0 : 0 ≤ t) (h1 : t < e) : sumP b l o (nxtT o (chgC l) e t).toNat = sumP b l o t.toNat + rateI b l (locI o t) * (nxtT o (chgC l) e t - t) := by
  obtain ⟨n1, n2, n3⟩ := nxtT_spec hT ho (chgC_ok hT) h0 h1
  rw [sumP_seg (v := rateI b l (locI o t)) (m := t.toNat) (nxtT o (chgC l) e t).toNat (by omega) (fun u hu1 hu2 => n3 u (by omega) (by omega))]
  congr 2
  omega
theorem sum_bd {b : Int} {l : List Rate} (h : tarOK b l) (o : Int) {t : Int} (ht : 0 ≤ t ∧ t ≤ 10000000) : 0 ≤ sumP b l o t.toNat ∧ sumP b l o t.toNat ≤ 10000000000000 := by
  have := sumP_mono h o (m := 0) t.toNat (Nat.zero_le _)
  have e0 : sumP b l o 0 = 0 := rfl
  omega
theorem mul_bdP {a c : Int} (ha : 0 ≤ a ∧ a ≤ 1000000) (hc : 0 ≤ c ∧ c ≤ 10000000) : 0 ≤ a * c ∧ a * c ≤ 10000000000000 :=
  ⟨Int.mul_nonneg ha.1 hc.1, Int.le_trans (Int.mul_le_mul ha.2 hc.2 hc.1 (by omega)) (by omega)⟩
theorem sz_77 : szT Try.prog 77 = some 3 := by kernel_rfl
theorem ok_39 : callOK Try.prog 39 = true := by kernel_rfl
theorem ok_49 : callOK Try.prog 49 = true := by kernel_rfl

theorem c_spells (b : Int) (Al : Option Addr) (n cl : Nat) (o q e : Int) (w : World)  :
    Cl Try.prog 39 [.agg #[.slice Al n cl, .int .i64 b], .int .i64 o, .agg #[.int .i64 q, .int .i64 e]] w (IsR (γ := Nat × Nat × Nat) (fun _ => True) (fun s => .func (.func 49) [].toArray [.pointer (some ⟨s.1, 0, none⟩), .pointer (some ⟨s.2.1, 0, none⟩), .pointer (some ⟨s.2.2, 0, none⟩)].toArray) (fun s => [.row s.2.2 3 [.int .i64 o], .row s.2.1 33 [.int .i64 q, .int .i64 e], .row s.1 26 [.slice Al n cl, .int .i64 b]]) w) := by
  refine cl_of Try.func39 rfl Try.ntmps39 rfl (Mem.refl w) ?_
  refine wc_seq ?_
  refine wc_region ?_
  refine wl_box rfl rfl rfl fun r1 => ?_
  refine wl_box rfl rfl rfl fun r2 => ?_
  refine wl_box rfl rfl rfl fun r3 => ?_
  refine wl_ex (ex_assign rfl) rfl rfl ?_
  refine wl_nil ?_
  refine pe_seq ?_
  refine wc_seq ?_
  refine wc_region ?_
  refine wl_ex (ex_makeFunc (os := []) (cs := [.tmp 3, .tmp 5, .tmp 4]) rfl rfl) rfl rfl ?_
  refine wl_ex (ex_assign rfl) rfl rfl ?_
  refine wl_nil ?_
  refine pe_seq ?_
  refine wc_ret ?_
  refine pe_ret1 rfl rfl rfl (fun w' hm => ⟨(r1, r3, r2), trivial, rfl, hm.ent (.cons (.tail (.head _ _)) rfl (.cons (.head _ _) rfl (.cons (.head _ _) rfl (.nil _))))⟩)

theorem c_sum1 (b : Int) (Al : Option Addr) (cl : Nat) (l : List Rate) (o q e : Int) (s1 s3 : Nat) (w : World) (hl : Sl w Al (encs encR l)) (hT : tarOK b l) (ho : zoneOK o) (hs : 0 ≤ q ∧ q ≤ e ∧ e ≤ 10000000) (hf1 : RowAt w s1 26 [.slice Al l.length cl, .int .i64 b]) (hf3 : RowAt w s3 3 [.int .i64 o]) :
    Cl Try.prog 38 [.agg #[.int .i64 q, .int .i64 e], .pointer (some ⟨s1, 0, none⟩), .pointer (some ⟨s3, 0, none⟩)] w (IsV (.int .i64 (sumP b l o e.toNat - sumP b l o q.toNat)) w) := by
  refine cl_ofM Try.func38 rfl Try.ntmps38 rfl (Mem.refl w) ?_
  refine wc_seq ?_
  refine wc_region ?_
  refine wl_box rfl rfl rfl fun r1 => ?_
  refine wl_ex (ex_assign rfl) rfl rfl ?_
  refine wl_nil ?_
  refine pe_seq ?_
  refine wc_seq ?_
  refine wc_region ?_
  refine wl_alloc ze_3 rfl rfl fun r2 => ?_
  refine wl_store rfl rfl rfl sz_3 (.head _ _) (by simp) ?_
  refine wl_nil ?_
  refine pe_seq ?_
  refine wc_seq ?_
  refine wc_seq ?_
  refine wc_region ?_
  refine wl_ex (ex_loadS (vs := [.slice Al l.length cl, .int .i64 b]) rfl ag_26 sz_26 rfl (rd_fix hf1 (by simp) (fun j v h => by simpa using h))) rfl rfl ?_
  refine wl_ex (ex_load rfl ag_3 (rd_fix1 hf3 (by simp) rfl)) rfl rfl ?_
  refine wl_ex (ex_loadS rfl ag_33 sz_33 rfl (rd_rowAll (.tail (.head _ _)))) rfl rfl ?_
  refine wl_callR [.tmp 7, .tmp 8, .tmp 9] rfl ok_39 rfl (fun w hm => c_spells b Al l.length cl o q e w) rfl ?_
  rintro ⟨s3, s4, s5⟩ _
  show WL _ _ _ _ ((10, .func (.func 49) [].toArray [.pointer (some ⟨s3, 0, none⟩), .pointer (some ⟨s4, 0, none⟩), .pointer (some ⟨s5, 0, none⟩)].toArray) :: _) [.row s5 3 [.int .i64 o], .row s4 33 [.int .i64 q, .int .i64 e], .row s3 26 [.slice Al l.length cl, .int .i64 b], .row r2 3 [.int .i64 0], .row r1 33 [.int .i64 q, .int .i64 e]]
  refine wl_nil ?_
  refine pe_seq ?_
  refine wc_block ?_
  refine wc_rangeFunc rfl rfl ok_49 (fun b_ H3 w3 => H3 = SpR r2 r1 s3 s4 s5 Al l.length cl b o q e (sumP b l o e.toNat - sumP b l o q.toNat)) ?_ ?_
  · intro fn tmps w1 b_ hE m1
    have m2 := m1.ent (.cons (.head _ _) (by first | rfl | simp) (.cons (.head _ _) (by first | rfl | simp) (.cons (.tail (.tail (.tail (.head _ _)))) rfl (.cons (.head _ _) rfl (.cons (.head _ _) rfl (.cons (.head _ _) rfl (.cons (.head _ _) rfl (.nil _))))))))
    have hlt2 := m2.blks_lt
    have h0I : SpI _ b_ r2 r1 s3 s4 s5 Al cl l b o q e w q w1 := m1.ent (.cons (.head _ _) rfl (.cons (.head _ _) rfl (.cons (.tail (.tail (.tail (.head _ _)))) (by rw [Int.sub_self]) (.cons (.head _ _) rfl (.cons (.head _ _) rfl (.cons (.head _ _) rfl (.cons (.head _ _) rfl (.nil _))))))))
    refine (c_spells1 b Al cl l o q e (b_ + 1) s3 s4 s5 _ (SpI _ b_ r2 r1 s3 s4 s5 Al cl l b o q e w) w1 hT ho hs ?_ ?_ ?_ h0I hlt2).mono ?_
    · intro t w' hM; unfold SpI SpR at hM; exact ⟨hM.get (.tail (.tail (.tail (.tail (.tail (.head _ _)))))), hM.get (.tail (.tail (.tail (.tail (.head _ _))))), hM.get (.tail (.tail (.tail (.head _ _)))), hl.upd hM.upd⟩
    · intro t w' w'' hM u; exact Mem.ext hM u
    · intro t w0 w' hM u0 ht1 ht2
      unfold SpI SpR at hM
      have hns := nxtT_spec hT ho (chgC_ok hT) (show 0 ≤ t by omega) ht2
      have hst := sum_step hT ho (show 0 ≤ t by omega) ht2
      have hsb1 := sum_bd hT o (show 0 ≤ t ∧ t ≤ 10000000 by omega)
      have hsb2 := sum_bd hT o (show 0 ≤ q ∧ q ≤ 10000000 by omega)
      have hrb := rate_bd hT (locI o t)
      generalize hN : nxtT o (chgC l) e t = N at *
      generalize hR : rateI b l (locI o t) = rt at *
      have hmb := mul_bdP hrb (show 0 ≤ N - t ∧ N - t ≤ 10000000 by omega)
      refine ycl_of hM.self (.head _ _) rfl hE rfl ?_
      show WC _ _ _ ((11, .agg #[.int .i64 t, .int .i64 N, .int .i64 rt]) :: _) [.obj (b_ + 1) (.loop _), .obj b_ (.deferred (some [])), .row r2 3 [.int .i64 (sumP b l o t.toNat - sumP b l o q.toNat)], .row s5 3 [.int .i64 o], .row s4 33 [.int .i64 q, .int .i64 e], .row s3 26 [.slice Al l.length cl, .int .i64 b], .row r1 33 [.int .i64 q, .int .i64 e]]
      refine wc_region ?_
      refine wl_alloc ze_77 rfl rfl fun r6 => ?_
      refine wl_storeS (vs := [.int .i64 t, .int .i64 N, .int .i64 rt]) rfl rfl (by simp [Value.oneCell']) sz_77 rfl (.head _ _) (by simp) ?_
      rw [show ovr [.int .i64 0, .int .i64 0, .int .i64 0] 0 [.int .i64 t, .int .i64 N, .int .i64 rt] = [.int .i64 t, .int .i64 N, .int .i64 rt] from rfl]
      refine wl_nil ?_
      refine pe_asg rfl (.tail (.head _ _)) rfl ?_
      refine wc_block ?_
      refine wc_region ?_
      refine wl_ex (ex_load rfl ag_3 (rd_row1 (.tail (.tail (.tail (.head _ _)))) rfl)) rfl rfl ?_
      refine wl_ex (ex_fieldAddr (off' := 2) rfl Try.underlying77 rfl sz_3 rfl rfl) rfl rfl ?_
      refine wl_ex (ex_load rfl ag_3 (rd_row1 (.tail (.head _ _)) rfl)) rfl rfl ?_
      refine wl_ex (ex_fieldAddr (off' := 0) rfl Try.underlying77 rfl sz_33 rfl rfl) rfl rfl ?_
      refine wl_ex (ex_fieldAddr (off' := 1) rfl Try.underlying33 rfl sz_3 rfl rfl) rfl rfl ?_
      refine wl_ex (ex_load rfl ag_3 (rd_row1 (.tail (.head _ _)) rfl)) rfl rfl ?_
      refine wl_ex (ex_fieldAddr (off' := 0) rfl Try.underlying77 rfl sz_33 rfl rfl) rfl rfl ?_
      refine wl_ex (ex_fieldAddr (off' := 0) rfl Try.underlying33 rfl sz_3 rfl rfl) rfl rfl ?_
      refine wl_ex (ex_load rfl ag_3 (rd_row1 (.tail (.head _ _)) rfl)) rfl rfl ?_
      refine wl_ex (ex_sub rfl rfl (by omega) (by omega)) rfl rfl ?_
      refine wl_ex (ex_mul rfl rfl (by omega) (by omega)) rfl rfl ?_
      refine wl_ex (ex_add rfl rfl (by omega) (by omega)) rfl rfl ?_
      refine wl_store rfl rfl rfl sz_3 (.tail (.tail (.tail (.head _ _)))) (by simp) ?_
      refine wl_nil ?_
      refine pe_block _ ?_
      refine pe_round (.tail (.head _ _)) (fun w'' hm => ⟨rfl, ?_, upd_mono (S := blks _) ((upd_mono u0 (by simp)).trans hm.upd) (fun _ h => h)⟩)
      rw [show (sumP b l o t.toNat - sumP b l o q.toNat) + (rt * (N - t)) = sumP b l o N.toNat - sumP b l o q.toNat by omega] at hm
      exact (hM.un hm).ent (.cons (.head _ _) (by first | rfl | simp) (.cons (.tail (.tail (.head _ _))) rfl (.cons (.head _ _) rfl (.cons (.tail (.head _ _)) rfl (.cons (.tail (.head _ _)) rfl (.cons (.tail (.head _ _)) rfl (.cons (.tail (.head _ _)) rfl (.nil _))))))))
    · rintro v w3 ⟨_, hM⟩
      exact ⟨_, _, by simp, rfl, hM, rfl⟩
  · rintro b_ _ w3 w4 rfl u4 m4
    show PE _ _ _ _ [.obj b_ (.deferred (some [])), .row r2 3 [.int .i64 (sumP b l o e.toNat - sumP b l o q.toNat)], .row s5 3 [.int .i64 o], .row s4 33 [.int .i64 q, .int .i64 e], .row s3 26 [.slice Al l.length cl, .int .i64 b], .row r1 33 [.int .i64 q, .int .i64 e]]
    refine pe_block _ ?_
    refine pe_seq ?_
    refine wc_seq ?_
    refine wc_region ?_
    refine wl_ex (ex_load rfl ag_3 (rd_row1 (.tail (.head _ _)) rfl)) rfl rfl ?_
    refine wl_ex (ex_assign rfl) rfl rfl ?_
    refine wl_nil ?_
    refine pe_seq ?_
    refine wc_ret ?_
    refine pe_retM1m rfl rfl rfl (.head _ _) (fun w' hm => ⟨rfl, (m4.un hm).ent (.nil _)⟩)

end Go.Proofs.Yteglbaidaekccaa
