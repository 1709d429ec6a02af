/- Walks. -/
import Derived.Test.YtolfgdkdghhidaaWf
set_option linter.unusedVariables false
set_option linter.unusedSimpArgs false
namespace Go.Proofs.Ytolfgdkdghhidaa
open Go Go.RowKit
abbrev ow (l : List Debt) : Book := fun a b => owesI a b l
theorem ext1_low (f : Book) (n : Nat) (p : List Int) (j : Nat) (h : (j : Int) ≤ hdI p) : ext1 f n p j = none := by
  unfold ext1; rw [if_neg]; omega
theorem ext_some {f : Book} {n : Nat} {p o : List Int} {c : Int} (h0 : 0 ≤ c) (h8 : c < 8) (h1 : hdI p < c) (h2 : 0 < f (lsI p) c) (h3 : c ∉ p) (hn : ∀ j : Nat, j < c.toNat → ext1 f n p j = none) (h : ext f n (p ++ [c]) = some o) : ext f (n + 1) p = some o := by
  rw [ext_succ]
  refine find_some (k := c.toNat) (by omega) hn ?_
  unfold ext1
  rw [Int.toNat_of_nonneg h0, if_pos ⟨h1, h2, h3⟩, h]
theorem ext_next {f : Book} {n : Nat} {p : List Int} {c : Int} (h0 : 0 ≤ c) (hn : ∀ j : Nat, j < c.toNat → ext1 f n p j = none) (h : ¬ (0 < f (lsI p) c ∧ c ∉ p) ∨ ext f n (p ++ [c]) = none) : ∀ j : Nat, j < (c + 1).toNat → ext1 f n p j = none := by
  rw [show (c + 1).toNat = c.toNat + 1 by omega]
  refine none_step hn ?_
  unfold ext1
  rw [Int.toNat_of_nonneg h0]
  rcases h with h | h
  · rw [if_neg (fun hh => h hh.2)]
  · rw [h]; simp
theorem ext_none {f : Book} {n : Nat} {p : List Int} (hn : ∀ j : Nat, j < 8 → ext1 f n p j = none) : ext f (n + 1) p = none := by
  rw [ext_succ]; exact find_none hn
def ExtC (n : Nat) : Prop := ∀ (Al : Option Addr) (cl : Nat) (l : List Debt) (A : Option Addr) (cap : Nat) (p : List Int) (size : Int) (w : World) (hk : Hold [.own A p.length cap 3 1 (encs encI p)] w) (hl : SlB w (blks [.own A p.length cap 3 1 (encs encI p)]) Al (encs encD l)) (hlen : l.length ≤ 1000) (hb : ∀ d ∈ l, -1000000000000 ≤ d.amt ∧ d.amt ≤ 1000000000000) (h0 : 0 < p.length) (he : ∀ x ∈ p, 0 ≤ x ∧ x ≤ 7) (hsz : (p.length : Int) + n = size) (h8 : size ≤ 8), Cl Try.prog 57 [.slice Al l.length cl, .slice A p.length cap, .int .i64 size] w (IsT (γ := (Option Addr) × Nat × Nat × (List Int)) [.own A p.length cap 3 1 (encs encI p)] (fun s => s.2.1 = s.2.2.2.length ∧ ∀ o, ext (ow l) n p = some o → s.2.2.2 = o) (fun s => .tuple #[.slice s.1 s.2.1 s.2.2.1, .bool (ext (ow l) n p).isSome]) (fun s => [.own s.1 s.2.1 s.2.2.1 3 1 (encs encI s.2.2.2)]) w)
theorem ok_57 : callOK Try.prog 57 = true := by kernel_rfl
theorem ok_64 : callOK Try.prog 64 = true := by kernel_rfl

theorem c_ext1 (n : Nat) (ih : ∀ m, m + 1 = n → ExtC m) (Al : Option Addr) (cl : Nat) (l : List Debt) (A : Option Addr) (cap : Nat) (p : List Int) (size : Int) (w : World) (hk : Hold [.own A p.length cap 3 1 (encs encI p)] w) (hl : SlB w (blks [.own A p.length cap 3 1 (encs encI p)]) Al (encs encD l)) (hlen : l.length ≤ 1000) (hb : ∀ d ∈ l, -1000000000000 ≤ d.amt ∧ d.amt ≤ 1000000000000) (h0 : 0 < p.length) (he : ∀ x ∈ p, 0 ≤ x ∧ x ≤ 7) (hsz : (p.length : Int) + n = size) (h8 : size ≤ 8) :
    Cl Try.prog 57 [.slice Al l.length cl, .slice A p.length cap, .int .i64 size] w (IsT (γ := (Option Addr) × Nat × Nat × (List Int)) [.own A p.length cap 3 1 (encs encI p)] (fun s => s.2.1 = s.2.2.2.length ∧ ∀ o, ext (ow l) n p = some o → s.2.2.2 = o) (fun s => .tuple #[.slice s.1 s.2.1 s.2.2.1, .bool (ext (ow l) n p).isSome]) (fun s => [.own s.1 s.2.1 s.2.2.1 3 1 (encs encI s.2.2.2)]) w) := by
  refine cl_of Try.func57 rfl Try.ntmps57 rfl (hk.mem) ?_
  refine wc_seq ?_
  refine wc_region ?_
  refine wl_ex (ex_assign rfl) rfl rfl ?_
  refine wl_ex (ex_assign rfl) rfl rfl ?_
  refine wl_nil ?_
  refine pe_seq ?_
  refine wc_seq ?_
  refine wc_region ?_
  refine wl_ex (ex_move rfl) rfl rfl ?_
  refine wl_ex (ex_move rfl) rfl rfl ?_
  refine wl_ex (ex_len Try.underlying25 rfl) rfl rfl ?_
  refine wl_ex (ex_sub rfl rfl (by omega) (by omega)) rfl rfl ?_
  refine wl_ex (ex_indexAddr rfl rfl Try.underlying25 sz_3 (sl_own (.head _ _)) (by omega) (by omega) (enc_pos encI_len (by omega))) rfl rfl ?_
  obtain ⟨d_p__p_length_Int_1, hd_p__p_length_Int_1⟩ := get_if p ((p.length : Int) - 1)
  refine wl_ex (ex_load rfl ag_3 (rd_int (sl_own (.head _ _)) (hd_p__p_length_Int_1 (by omega) (by omega)))) rfl rfl ?_
  refine wl_ex (ex_assign rfl) rfl rfl ?_
  refine wl_nil ?_
  refine pe_seq ?_
  refine wc_seq ?_
  refine wc_seq ?_
  refine wc_region ?_
  refine wl_ex (ex_move rfl) rfl rfl ?_
  refine wl_ex (ex_len Try.underlying25 rfl) rfl rfl ?_
  refine wl_ex (ex_move rfl) rfl rfl ?_
  refine wl_ex (ex_eql rfl rfl) rfl rfl ?_
  refine wl_nil ?_
  refine pe_seq ?_
  refine wc_ite rfl (fun c21 => ?_) (fun c21 => ?_)
  · refine wc_seq ?_
    refine wc_region ?_
    refine wl_ex (ex_move rfl) rfl rfl ?_
    refine wl_ex (ex_move rfl) rfl rfl ?_
    refine wl_ex (ex_move rfl) rfl rfl ?_
    refine wl_ex (ex_move rfl) rfl rfl ?_
    refine wl_ex (ex_indexAddr rfl rfl Try.underlying25 sz_3 (sl_own (.head _ _)) (by omega) (by omega) (enc_pos encI_len (by omega))) rfl rfl ?_
    obtain ⟨d_p_0, hd_p_0⟩ := get_if p 0
    refine wl_ex (ex_load rfl ag_3 (rd_int (sl_own (.head _ _)) (hd_p_0 (by omega) (by omega)))) rfl rfl ?_
    refine wl_callV [.tmp 23, .tmp 24, .tmp 27] rfl ok_44 rfl (fun w hm => c_owes Al cl l d_p__p_length_Int_1 d_p_0 w (((sl_argB hl)).at hm)  (by first | assumption | omega) (by assumption)) rfl ?_
    refine wl_ex (ex_gtr rfl rfl) rfl rfl ?_
    refine wl_ex (ex_assign rfl) rfl rfl ?_
    refine wl_ex (ex_assign rfl) rfl rfl ?_
    refine wl_nil ?_
    refine pe_seq ?_
    refine wc_ret ?_
    refine pe_seq_ret ?_
    refine pe_ret2 rfl rfl rfl rfl (fun w' hm => ⟨(A, p.length, cap, p), ?_, ?_, hm.ent (.cons (.head _ _) rfl (.nil _))⟩)
    · have e : n = 0 := by omega
      subst e
      refine ⟨rfl, fun o ho => ?_⟩
      unfold ext at ho
      split at ho
      · exact Option.some.inj ho
      · simp at ho
    · have e : n = 0 := by omega
      subst e
      have hls := lsI_of (hd_p__p_length_Int_1 (by omega) (by omega)) (by omega)
      have hh := hdI_of (hd_p_0 (by omega) (by omega))
      simp only [ext, hls, hh]
      split <;> simp [*]
  · obtain ⟨m, rfl⟩ : ∃ m, n = m + 1 := ⟨n - 1, by omega⟩
    have hls := lsI_of (hd_p__p_length_Int_1 (by omega) (by omega)) (by omega)
    have hm0 := ih m rfl
    refine wc_skip ?_
    refine pe_seq ?_
    refine wc_seq ?_
    refine wc_seq ?_
    refine wc_region ?_
    refine wl_ex (ex_move rfl) rfl rfl ?_
    refine wl_ex (ex_indexAddr rfl rfl Try.underlying25 sz_3 (sl_own (.head _ _)) (by omega) (by omega) (enc_pos encI_len (by omega))) rfl rfl ?_
    obtain ⟨d_p_0, hd_p_0⟩ := get_if p 0
    refine wl_ex (ex_load rfl ag_3 (rd_int (sl_own (.head _ _)) (hd_p_0 (by omega) (by omega)))) rfl rfl ?_
    have he0 := he _ (mem_at (hd_p_0 (by omega) (by omega)))
    refine wl_ex (ex_add rfl rfl (by omega) (by omega)) rfl rfl ?_
    refine wl_ex (ex_assign rfl) rfl rfl ?_
    refine wl_nil ?_
    refine pe_seq ?_
    refine wc_block ?_
    refine wc_loop (σ := Int) (fun s => [(9, .int .i64 s), (0, .slice Al l.length cl), (1, .slice A p.length cap), (2, .int .i64 size), (8, .int .i64 d_p__p_length_Int_1)]) (fun s => [.own A p.length cap 3 1 (encs encI p)]) (fun s => (0 ≤ s ∧ s ≤ 8 ∧ hdI p < s) ∧ ∀ j : Nat, j < s.toNat → ext1 (ow l) m p j = none) (fun s => (8 - s).toNat) _ (Sub.cons rfl rfl (Sub.cons rfl rfl (Sub.cons rfl rfl (Sub.cons rfl rfl (Sub.cons rfl rfl (Sub.nil _)))))) (.cons (.head _ _) rfl (.nil _)) (by have hh := hdI_of (hd_p_0 (by omega) (by omega)); have := he _ (mem_at (hd_p_0 (by omega) (by omega))); exact ⟨by omega, fun j hj => ext1_low _ _ _ _ (by omega)⟩) ?_
    rintro k hG
    show WC _ _ _ [(9, .int .i64 k), (0, .slice Al l.length cl), (1, .slice A p.length cap), (2, .int .i64 size), (8, .int .i64 d_p__p_length_Int_1)] [.own A p.length cap 3 1 (encs encI p)]
    replace hG : (0 ≤ k ∧ k ≤ 8 ∧ hdI p < k) ∧ ∀ j : Nat, j < k.toNat → ext1 (ow l) m p j = none := hG
    obtain ⟨h1, h2⟩ := hG
    refine wc_seq ?_
    refine wc_seq ?_
    refine wc_region ?_
    refine wl_ex (ex_move rfl) rfl rfl ?_
    refine wl_ex (ex_lss rfl rfl) rfl rfl ?_
    refine wl_nil ?_
    refine pe_seq ?_
    refine wc_ite rfl (fun c35 => ?_) (fun c35 => ?_)
    · refine wc_skip ?_
      refine pe_seq ?_
      refine wc_seq ?_
      refine wc_block ?_
      refine wc_cut (σ := Unit) (fun _ => [(0, .slice Al l.length cl), (1, .slice A p.length cap), (2, .int .i64 size), (8, .int .i64 d_p__p_length_Int_1), (9, .int .i64 k), (48, .bool (decide ((0 < owesI d_p__p_length_Int_1 k l) ∧ (¬ (k ∈ p)))))]) (fun _ => [.own A p.length cap 3 1 (encs encI p)]) (fun _ => True) ?_ ?_
      · refine wc_region ?_
        refine wl_ex (ex_move rfl) rfl rfl ?_
        refine wl_ex (ex_move rfl) rfl rfl ?_
        refine wl_ex (ex_move rfl) rfl rfl ?_
        refine wl_callV [.tmp 38, .tmp 39, .tmp 40] rfl ok_44 rfl (fun w hm => c_owes Al cl l d_p__p_length_Int_1 k w (((sl_argB hl)).at hm)  (by first | assumption | omega) (by assumption)) rfl ?_
        refine wl_ex (ex_gtr rfl rfl) rfl rfl ?_
        refine wl_ex (ex_move rfl) rfl rfl ?_
        by_cases g1 : 0 < owesI d_p__p_length_Int_1 k l
        · refine wl_pass rfl rfl rfl (decide_eq_true g1) ?_
          refine wl_ex (ex_move rfl) rfl rfl ?_
          refine wl_pass rfl rfl rfl (decide_eq_true g1) ?_
          refine wl_ex (ex_move rfl) rfl rfl ?_
          refine wl_pass rfl rfl rfl (decide_eq_true g1) ?_
          refine wl_callV [.tmp 44, .tmp 45] rfl ok_64 rfl (fun w hm => c_has A cap p k w (((sl_own (.head _ _))).at hm)  (by first | omega | assumption)) rfl ?_
          refine wl_pass rfl rfl rfl (decide_eq_true g1) ?_
          refine wl_ex (ex_not rfl) rfl rfl ?_
          refine wl_ex (ex_pickt rfl (decide_eq_true g1) rfl) rfl rfl ?_
          refine wl_nil ?_
          refine pe_cut () (Sub.cons rfl rfl (Sub.cons rfl rfl (Sub.cons rfl rfl (Sub.cons rfl rfl (Sub.cons rfl rfl (Sub.cons rfl (congrArg Value.bool (by first | (simp [g1]; done) | grind)) (Sub.nil _))))))) (.cons (.head _ _) rfl (.nil _)) trivial
        · refine wl_skip rfl rfl rfl (fun h => g1 (of_decide_eq_true (Value.bool.inj h))) rfl rfl ?_
          refine wl_skip rfl rfl rfl (fun h => g1 (of_decide_eq_true (Value.bool.inj h))) rfl rfl ?_
          refine wl_skip rfl rfl rfl (fun h => g1 (of_decide_eq_true (Value.bool.inj h))) rfl rfl ?_
          refine wl_skip rfl rfl rfl (fun h => g1 (of_decide_eq_true (Value.bool.inj h))) rfl rfl ?_
          refine wl_ex (ex_pickf rfl (decide_eq_false g1) rfl) rfl rfl ?_
          refine wl_nil ?_
          refine pe_cut () (Sub.cons rfl rfl (Sub.cons rfl rfl (Sub.cons rfl rfl (Sub.cons rfl rfl (Sub.cons rfl rfl (Sub.cons rfl (congrArg Value.bool (by first | (simp [g1]; done) | grind)) (Sub.nil _))))))) (.cons (.head _ _) rfl (.nil _)) trivial
      · rintro _ _
        show WC _ _ _ [(0, .slice Al l.length cl), (1, .slice A p.length cap), (2, .int .i64 size), (8, .int .i64 d_p__p_length_Int_1), (9, .int .i64 k), (48, .bool (decide ((0 < owesI d_p__p_length_Int_1 k l) ∧ (¬ (k ∈ p)))))] [.own A p.length cap 3 1 (encs encI p)]
        refine wc_ite rfl (fun c48 => ?_) (fun c48 => ?_)
        · refine wc_seq ?_
          refine wc_region ?_
          refine wl_ex (ex_move rfl) rfl rfl ?_
          refine wl_buildSlice [] rfl rfl Try.underlying25 sz_3 ze_3 rfl (by simp [Value.cells]) (by omega) (by omega) rfl fun r2 => ?_
          rw [show List.flatMap (fun x => x.cells.toList) ([] : List Value) = encs encI [] from rfl]
          refine wl_ex (ex_move rfl) rfl rfl ?_
          refine wl_appendE encI_len encI_one rfl rfl Try.underlying25 sz_3 ze_3 rfl by_3 rfl (.head _ _) (sl_own (.tail (.head _ _))) (by first | rfl | simp) (by first | rfl | simp) (by first | omega | (simp; omega)) (by first | omega | (simp; omega)) rfl fun A3 c4 => ?_
          refine wl_ex (ex_move rfl) rfl rfl ?_
          refine wl_buildSlice [.tmp 54] rfl rfl Try.underlying25 sz_3 ze_3 rfl (by simp [Value.cells]) (by omega) (by omega) rfl fun r5 => ?_
          rw [show List.flatMap (fun x => x.cells.toList) ([Value.int .i64 k] : List Value) = encs encI [k] from rfl]
          refine wl_appendE encI_len encI_one rfl rfl Try.underlying25 sz_3 ze_3 rfl by_3 rfl (.tail (.head _ _)) (sl_own (.head _ _)) (by rfl) (by first | rfl | simp) (by first | omega | (simp; omega)) (by first | omega | (simp; omega)) rfl fun A6 c7 => ?_
          refine wl_ex (ex_move rfl) rfl rfl ?_
          refine wl_callT [.tmp 50, .tmp 56, .tmp 57] rfl ok_57 rfl (.cons (.head _ _) (.nil _)) (fun w hm => ih m rfl Al cl l A6 c7 ((([]) ++ p) ++ ([k])) size w hm.hold (hl.atB hm) (by assumption) (by assumption) (by simp) (by intro x hx; exact (List.mem_append.1 hx).elim (fun hx => he x (by simpa using hx)) (fun hx => by rw [List.mem_singleton] at hx; omega)) (by simp; omega) (by omega)) rfl ?_
          rintro ⟨A8, n9, c10, l11⟩ hG12
          replace hG12 : n9 = l11.length ∧ ∀ o, ext (ow l) m ((([]) ++ p) ++ ([k])) = some o → l11 = o := hG12
          show WL _ _ _ _ ((58, .tuple #[.slice A8 n9 c10, .bool ((ext (ow l) m ((([]) ++ p) ++ ([k]))).isSome)]) :: _) [.own A8 n9 c10 3 1 (encs encI l11), .own (some ⟨r5, 0, none⟩) 1 1 3 1 (encs encI [k]), .own A p.length cap 3 1 (encs encI p)]
          refine wl_ex (ex_move rfl) rfl rfl ?_
          refine wl_ex (ex_extract rfl rfl) rfl rfl ?_
          refine wl_ex (ex_extract rfl rfl) rfl rfl ?_
          refine wl_ex (ex_assign rfl) rfl rfl ?_
          refine wl_ex (ex_assign rfl) rfl rfl ?_
          refine wl_nil ?_
          refine pe_seq ?_
          refine wc_seq ?_
          refine wc_region ?_
          refine wl_ex (ex_move rfl) rfl rfl ?_
          refine wl_nil ?_
          refine pe_seq ?_
          refine wc_if rfl (fun c61 => ?_) (fun c61 => ?_)
          · refine wc_seq ?_
            refine wc_region ?_
            refine wl_ex (ex_move rfl) rfl rfl ?_
            refine wl_ex (ex_assign rfl) rfl rfl ?_
            refine wl_ex (ex_assign rfl) rfl rfl ?_
            refine wl_nil ?_
            refine pe_seq ?_
            refine wc_ret ?_
            refine pe_block_ret _ ?_
            refine pe_seq_ret ?_
            refine pe_loop_ret ?_
            refine pe_block_ret _ ?_
            refine pe_seq_ret ?_
            refine pe_ret2 rfl rfl rfl rfl (fun w' hm => ⟨(A8, n9, c10, l11), ?_, ?_, hm.ent (.cons (.head _ _) rfl (.nil _))⟩)
            · refine ⟨hG12.1, fun o ho => ?_⟩
              obtain ⟨o1, ho1⟩ := Option.isSome_iff_exists.1 c61
              rw [ext_some (by omega) (by omega) h1.2.2 (by rw [hls]; exact c48.1) c48.2 h2 ho1] at ho
              rw [hG12.2 o1 ho1]; exact Option.some.inj ho
            · obtain ⟨o1, ho1⟩ := Option.isSome_iff_exists.1 c61
              rw [ext_some (by omega) (by omega) h1.2.2 (by rw [hls]; exact c48.1) c48.2 h2 ho1]
              rfl
          · refine wc_skip ?_
            refine pe_block _ ?_
            refine pe_seq ?_
            refine wc_region ?_
            refine wl_ex (ex_move rfl) rfl rfl ?_
            refine wl_ex (ex_add rfl rfl (by omega) (by omega)) rfl rfl ?_
            refine wl_ex (ex_assign rfl) rfl rfl ?_
            refine wl_nil ?_
            refine pe_again (k + 1) (Sub.cons rfl rfl (Sub.cons rfl rfl (Sub.cons rfl rfl (Sub.cons rfl rfl (Sub.cons rfl rfl (Sub.nil _)))))) (.cons (.tail (.tail (.head _ _))) rfl (.nil _)) ?_ ?_
            · show (0 ≤ (k + 1) ∧ (k + 1) ≤ 8 ∧ hdI p < (k + 1)) ∧ ∀ j : Nat, j < (k + 1).toNat → ext1 (ow l) m p j = none
              refine ⟨by omega, ?_⟩
              refine ext_next (by omega) h2 ?_
              first | exact .inr (by simpa using c61) | exact .inl (by rw [hls]; exact c48)
            · first | omega | (simp only []; omega)
        · refine wc_skip ?_
          refine pe_block _ ?_
          refine pe_seq ?_
          refine wc_region ?_
          refine wl_ex (ex_move rfl) rfl rfl ?_
          refine wl_ex (ex_add rfl rfl (by omega) (by omega)) rfl rfl ?_
          refine wl_ex (ex_assign rfl) rfl rfl ?_
          refine wl_nil ?_
          refine pe_again (k + 1) (Sub.cons rfl rfl (Sub.cons rfl rfl (Sub.cons rfl rfl (Sub.cons rfl rfl (Sub.cons rfl rfl (Sub.nil _)))))) (.cons (.head _ _) rfl (.nil _)) ?_ ?_
          · show (0 ≤ (k + 1) ∧ (k + 1) ≤ 8 ∧ hdI p < (k + 1)) ∧ ∀ j : Nat, j < (k + 1).toNat → ext1 (ow l) m p j = none
            refine ⟨by omega, ?_⟩
            refine ext_next (by omega) h2 ?_
            first | exact .inr (by simpa using c61) | exact .inl (by rw [hls]; exact c48)
          · first | omega | (simp only []; omega)
    · refine wc_exit ?_
      refine pe_seq_exit ?_
      refine pe_loop_exit ?_
      refine pe_block_exit ?_
      refine pe_seq ?_
      refine wc_seq ?_
      refine wc_region ?_
      refine wl_ex (ex_assign rfl) rfl rfl ?_
      refine wl_ex (ex_assign rfl) rfl rfl ?_
      refine wl_nil ?_
      refine pe_seq ?_
      refine wc_ret ?_
      refine pe_nilOwn 3 1 ?_
      refine pe_ret2 rfl rfl rfl rfl (fun w' hm => ⟨(none, 0, 0, []), ?_, ?_, hm.ent (.cons (.head _ _) (by first | rfl | simp) (.nil _))⟩)
      · refine ⟨rfl, fun o ho => ?_⟩
        rw [ext_none (fun j hj => h2 j (by omega))] at ho
        simp at ho
      · rw [ext_none (fun j hj => h2 j (by omega))]; rfl

theorem extC (n : Nat) : ExtC n := by
  induction n with
  | zero =>
    intro Al cl l A cap p size w hk hl hlen hb h0 he hsz h8
    exact c_ext1 0 (fun m hm => by omega) Al cl l A cap p size w hk hl hlen hb h0 he hsz h8
  | succ n ih =>
    intro Al cl l A cap p size w hk hl hlen hb h0 he hsz h8
    exact c_ext1 (n + 1) (fun m hm => by rw [show m = n by omega]; exact ih) Al cl l A cap p size w hk hl hlen hb h0 he hsz h8

end Go.Proofs.Ytolfgdkdghhidaa
