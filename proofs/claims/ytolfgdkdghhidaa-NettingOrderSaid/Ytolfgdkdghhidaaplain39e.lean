/- Plain laws of netting, fifth part: sets of carriers, groups. No Go in sight. -/
import Derived.Test.Ytolfgdkdghhidaaplain39d
import Derived.KernelRfl
namespace Go.Proofs.Ytolfgdkdghhidaa

/-- the sets within a set, the greatest number first -/
def subsL (rest : Nat) : List Nat := ((List.range 256).filter fun x => x &&& rest == x).reverse
def chkL (rest : Nat) : List Nat → Bool
  | [] => false
  | [x] => x == 0
  | x :: y :: t => x != 0 && (y == ((x - 1) &&& rest) && chkL rest (y :: t))
def chkAll : Bool := (List.range 256).all fun rest => (subsL rest).head? == some rest && chkL rest (subsL rest)
theorem chkAll_ok : chkAll = true := by kernel_rfl
theorem chkL_at (rest : Nat) : ∀ (l : List Nat), chkL rest l = true → ∀ j s, l[j]? = some s → (s = 0 → j + 1 = l.length) ∧ (s ≠ 0 → l[j + 1]? = some ((s - 1) &&& rest))
  | [], h, _, _, _ => by simp [chkL] at h
  | [x], h, j, s, hj => by
    have hx : x = 0 := by simpa [chkL] using h
    cases j with
    | zero => simp at hj; exact ⟨fun _ => rfl, fun hs => absurd (hj ▸ hx) hs⟩
    | succ j => simp at hj
  | x :: y :: t, h, j, s, hj => by
    simp only [chkL, Bool.and_eq_true, bne_iff_ne, beq_iff_eq] at h
    obtain ⟨h1, h2, h3⟩ := h
    cases j with
    | zero =>
      simp at hj; subst hj
      exact ⟨fun hs => absurd hs h1, fun _ => by simp [h2]⟩
    | succ j =>
      have := chkL_at rest (y :: t) h3 j s (by simpa using hj)
      exact ⟨fun hs => by have := this.1 hs; simp at this ⊢; omega, fun hs => by simpa using this.2 hs⟩
theorem subs_facts {rest : Nat} (h : rest < 256) : (subsL rest)[0]? = some rest ∧ ∀ j s, (subsL rest)[j]? = some s → (s = 0 → j + 1 = (subsL rest).length) ∧ (s ≠ 0 → (subsL rest)[j + 1]? = some ((s - 1) &&& rest)) := by
  have hall := chkAll_ok
  unfold chkAll at hall
  rw [List.all_eq_true] at hall
  have := hall rest (List.mem_range.2 h)
  simp only [Bool.and_eq_true, beq_iff_eq] at this
  exact ⟨by rw [← List.head?_eq_getElem?]; exact this.1, chkL_at rest _ this.2⟩
theorem mem_subs {rest x : Nat} : x ∈ subsL rest ↔ x < 256 ∧ x &&& rest = x := by simp [subsL]

/-! ### Groups -/
def low (all : Nat) : Nat := ((List.range 8).find? fun c => all.testBit c).getD 0
def dropS (all set : Nat) : Nat := all ^^^ (all &&& set)
def gstep (g : Nat → Int) (rec : Nat → List Nat) (all c : Nat) (best : List Nat) (s : Nat) : List Nat :=
  if g (s ||| 2 ^ c) ≠ 0 then best else if (rec (dropS all (s ||| 2 ^ c))).length + 1 > best.length then (s ||| 2 ^ c) :: rec (dropS all (s ||| 2 ^ c)) else best
def grp (g : Nat → Int) : Nat → Nat → List Nat
  | 0, _ => []
  | n + 1, all => if all = 0 then [] else (subsL (dropS all (2 ^ low all))).foldl (gstep g (grp g n) all (low all)) []
theorem grp_succ (g : Nat → Int) (n all : Nat) : grp g (n + 1) all = if all = 0 then [] else (subsL (dropS all (2 ^ low all))).foldl (gstep g (grp g n) all (low all)) [] := rfl
theorem dropS_bit (all set i : Nat) : (dropS all set).testBit i = (all.testBit i && !set.testBit i) := by
  unfold dropS
  rw [Nat.testBit_xor, Nat.testBit_and]
  cases all.testBit i <;> cases set.testBit i <;> rfl
theorem dropS_le (all set : Nat) : dropS all set ≤ all := by
  apply Nat.le_of_testBit
  intro i h
  rw [dropS_bit] at h
  simp only [Bool.and_eq_true] at h
  exact h.1
theorem dropS_lt {all set c : Nat} (h1 : all.testBit c = true) (h2 : set.testBit c = true) : dropS all set < all := by
  have h := dropS_le all set
  have : dropS all set ≠ all := by
    intro e
    have := dropS_bit all set c
    rw [e, h1, h2] at this
    simp at this
  omega
theorem low_spec {all : Nat} (h0 : all ≠ 0) (h8 : all < 256) : low all < 8 ∧ all.testBit (low all) = true ∧ ∀ c, c < low all → all.testBit c = false := by
  unfold low
  cases hf : (List.range 8).find? fun c => all.testBit c with
  | none =>
    rw [List.find?_eq_none] at hf
    exfalso; apply h0
    apply Nat.eq_of_testBit_eq
    intro i
    rw [Nat.zero_testBit]
    by_cases hi : i < 8
    · simpa using hf i (List.mem_range.2 hi)
    · exact Nat.testBit_lt_two_pow (Nat.lt_of_lt_of_le h8 (Nat.pow_le_pow_right (n := 2) (by omega) (show 8 ≤ i by omega)))
  | some c =>
    rw [Option.getD_some]
    rw [List.find?_eq_some_iff_getElem] at hf
    obtain ⟨hp, i, hi, he, hn⟩ := hf
    simp only [List.length_range] at hi
    simp only [List.getElem_range] at he hn
    subst he
    exact ⟨hi, hp, fun c hc => by simpa using hn c hc⟩
theorem pow_bit (c i : Nat) : (2 ^ c).testBit i = decide (c = i) := Nat.testBit_two_pow
theorem grp_fuel (g : Nat → Int) : ∀ (n m all : Nat), all < 256 → all ≤ n → all ≤ m → grp g n all = grp g m all := by
  intro n
  induction n with
  | zero =>
    intro m all _ hn _
    have : all = 0 := by omega
    subst this
    cases m <;> rfl
  | succ n ih =>
    intro m all h8 hn hm
    cases m with
    | zero => have : all = 0 := by omega
              subst this; rfl
    | succ m =>
      by_cases h0 : all = 0
      · subst h0; rfl
      · unfold grp
        rw [if_neg h0, if_neg h0]
        have hl := low_spec h0 h8
        congr 1
        funext best s
        have hb : (s ||| 2 ^ low all).testBit (low all) = true := by rw [Nat.testBit_or, pow_bit]; simp
        have hlt := dropS_lt hl.2.1 hb
        unfold gstep
        rw [ih m (dropS all (s ||| 2 ^ low all)) (by omega) (by omega) (by omega)]
/-- the groups of a set -/
def grpS (g : Nat → Int) (all : Nat) : List Nat := grp g all all
def bestTo (g : Nat → Int) (all j : Nat) : List Nat := ((subsL (dropS all (2 ^ low all))).take j).foldl (gstep g (grpS g) all (low all)) []
theorem grpS_zero (g : Nat → Int) : grpS g 0 = [] := rfl
theorem grpS_eq (g : Nat → Int) {all : Nat} (h0 : all ≠ 0) (h8 : all < 256) : grpS g all = bestTo g all (subsL (dropS all (2 ^ low all))).length := by
  unfold bestTo
  rw [List.take_length]
  have hl := low_spec h0 h8
  obtain ⟨n, rfl⟩ : ∃ n, all = n + 1 := ⟨all - 1, by omega⟩
  unfold grpS
  rw [grp_succ, if_neg h0]
  congr 1
  funext best s
  have hb : (s ||| 2 ^ low (n + 1)).testBit (low (n + 1)) = true := by rw [Nat.testBit_or, pow_bit]; simp
  have hlt := dropS_lt hl.2.1 hb
  unfold gstep
  rw [grp_fuel g n (dropS (n + 1) (s ||| 2 ^ low (n + 1))) _ (by omega) (by omega) (Nat.le_refl _)]
theorem bestTo_succ (g : Nat → Int) {all j s : Nat} (h : (subsL (dropS all (2 ^ low all)))[j]? = some s) : bestTo g all (j + 1) = gstep g (grpS g) all (low all) (bestTo g all j) s := by
  unfold bestTo
  rw [List.take_add_one, h, Option.toList, List.foldl_append]; rfl
theorem fold_len (g : Nat → Int) (rec : Nat → List Nat) (all c m : Nat) (hr : ∀ s, (rec (dropS all (s ||| 2 ^ c))).length ≤ m) : ∀ (l : List Nat) (b : List Nat), b.length ≤ m + 1 → (l.foldl (gstep g rec all c) b).length ≤ m + 1
  | [], b, h => h
  | s :: l, b, h => by
    rw [List.foldl_cons]
    refine fold_len g rec all c m hr l _ ?_
    unfold gstep
    split
    · exact h
    · split
      · simp only [List.length_cons]; have := hr s; omega
      · exact h
theorem grp_len (g : Nat → Int) : ∀ (n all : Nat), (grp g n all).length ≤ n
  | 0, _ => Nat.le_refl _
  | n + 1, all => by
    rw [grp_succ]
    split
    · simp
    · exact fold_len g _ all _ n (fun s => grp_len g n _) _ _ (by simp)
theorem grpS_len (g : Nat → Int) (all : Nat) : (grpS g all).length ≤ all := grp_len g all all
theorem bestTo_len (g : Nat → Int) (all j : Nat) (h8 : all < 256) : (bestTo g all j).length ≤ 256 :=
  fold_len g _ all _ 255 (fun s => by have := grpS_len g (dropS all (s ||| 2 ^ low all)); have := dropS_le all (s ||| 2 ^ low all); omega) _ _ (by simp)
def setsI (l : List Nat) : List Int := l.map fun x : Nat => (x : Int)
end Go.Proofs.Ytolfgdkdghhidaa
