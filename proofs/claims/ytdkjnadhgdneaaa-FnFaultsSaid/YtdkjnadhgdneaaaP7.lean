/- Plain laws of the texts: the inputs that detect a fault, and test sets. -/
import Derived.Test.YtdkjnadhgdneaaaP6
namespace Go.Proofs.Ytdkjnadhgdneaaa
open Go.Rv
set_option linter.unusedVariables false
variable {β : Type}
theorem spec_l1In_eq (N : Nat) (a b c : Int) (k : Bool → Option β) : spec_l1In N a b c k = k (decide (b ≤ a) && decide (a ≤ c)) := by
  unfold spec_l1In
  by_cases h : b ≤ a
  · rw [decide_eq_true (by omega : a ≥ b)]; rfl
  · rw [decide_eq_false (by omega : ¬ a ≥ b)]; rfl
theorem impl_isBit_eq (N : Nat) (a : Int) (k : Bool → Option β) : impl_isBit N a k = k (decide (0 ≤ a) && decide (a ≤ 1)) := by
  unfold impl_isBit
  by_cases h : a = 0
  · subst h; rfl
  · rw [beq_eq_false_iff_ne.2 h, cond_false]
    by_cases h1 : a = 1
    · subst h1; rfl
    · rw [beq_eq_false_iff_ne.2 h1]
      congr 1
      symm
      simp only [Bool.and_eq_false_iff, decide_eq_false_iff_not]
      omega
theorem impl_hasVariable_eq (N : Nat) (a0 a1 a2 : Int) (h : a1 < 9223372036854775808) (k : Bool → Option β) : impl_hasVariable N a0 a1 a2 k = k (isT a0 a1 && (decide (0 ≤ a2) && decide (a2 < a0))) := by
  unfold impl_hasVariable
  rw [impl_IsTable_eq N a0 a1 h]
  cases isT a0 a1 with
  | false => rfl
  | true =>
    by_cases h : 0 ≤ a2
    · rw [decide_eq_true (by omega : a2 ≥ 0)]; rfl
    · rw [decide_eq_false (by omega : ¬ a2 ≥ 0)]; rfl
/-- Whether there is such a fault. -/
def isF (a0 a1 a2 a3 : Int) : Bool := isT a0 a1 && (decide (0 ≤ a2) && decide (a2 < a0)) && (decide (0 ≤ a3) && decide (a3 ≤ 1))
theorem isF_nat {a0 a1 a2 a3 : Int} (h : isF a0 a1 a2 a3 = true) : ∃ n w i b : Nat, a0 = n ∧ a1 = w ∧ a2 = i ∧ a3 = b ∧ n ≤ 5 ∧ w < 2 ^ 2 ^ n ∧ w < 4294967296 ∧ i < n ∧ b < 2 := by
  simp only [isF, Bool.and_eq_true, decide_eq_true_eq] at h
  obtain ⟨⟨ht, h0⟩, h1⟩ := h
  obtain ⟨n, w, rfl, rfl, hn, hw, hw'⟩ := isT_nat ht
  exact ⟨n, w, a2.toNat, a3.toNat, rfl, rfl, by omega, by omega, hn, hw, hw', by omega, by omega⟩
/-- The word of a table whose variable is stuck. -/
def stuckw (w n i b : Nat) : Nat := tabw (fun x => w.testBit (ys x i b)) (2 ^ n)
theorem spec_StuckTable_eq (N : Nat) (hN : 64 < N) (a0 a1 a2 a3 : Int) (k : Int → Int → Bool → Option β) :
    spec_StuckTable N a0 a1 a2 a3 k = if isF a0 a1 a2 a3 then k a0 (stuckw a1.toNat a0.toNat a2.toNat a3.toNat : Int) true else k 0 0 false := by
  unfold spec_StuckTable
  simp only [spec_IsTable_eq, spec_l1In_eq]
  by_cases h : isF a0 a1 a2 a3 = true
  · rw [if_pos h]
    obtain ⟨n, w, i, b, rfl, rfl, rfl, rfl, hn, hw, hw', hi, hb⟩ := isF_nat h
    rw [isT_of hn hw, w64_id (by omega) (by omega), decide_eq_true (by omega : (0 : Int) ≤ (i : Int)), decide_eq_true (by omega : (i : Int) ≤ (n : Int) - 1), decide_eq_true (by omega : (0 : Int) ≤ (b : Int)), decide_eq_true (by omega : (b : Int) ≤ 1)]
    exact spec_l29Stuck_eq N hN n w i b hn hw' (by omega) hb _
  · rw [if_neg h]
    cases ht : isT a0 a1 with
    | false => rfl
    | true =>
      obtain ⟨n, w, rfl, rfl, hn, hw, hw'⟩ := isT_nat ht
      rw [w64_id (by omega) (by omega)]
      cases hc : (decide (0 ≤ a2) && decide (a2 ≤ (n : Int) - 1)) with
      | false => rfl
      | true =>
        cases hd : (decide (0 ≤ a3) && decide (a3 ≤ 1)) with
        | false => rfl
        | true =>
          refine absurd ?_ h
          simp only [Bool.and_eq_true, decide_eq_true_eq] at hc hd
          simp only [isF, ht, Bool.and_eq_true, decide_eq_true_eq, Bool.true_and]
          omega

/-- The numbers of a set. -/
def elems (d : Nat) : Nat → List Int
  | 0 => []
  | m + 1 => addIf (d.testBit m) (elems d m) (m : Int)
theorem elems_len (d : Nat) : ∀ m, (elems d m).length ≤ m
  | 0 => by simp [elems]
  | m + 1 => by
    have h1 := elems_len d m
    have h2 := addIf_len (d.testBit m) (elems d m) (m : Int)
    show (addIf _ _ _).length ≤ _
    omega
theorem elems_more (d m : Nat) (h : d < 2 ^ m) : ∀ j, elems d (m + j) = elems d m
  | 0 => rfl
  | j + 1 => by
    show addIf (d.testBit (m + j)) (elems d (m + j)) _ = _
    rw [elems_more d m h j, Nat.testBit_lt_two_pow (Nat.lt_of_lt_of_le h (Nat.pow_le_pow_right (by decide) (by omega)))]
    rfl

theorem addIf_step (c : Bool) (l : List Int) (v : Int) (hl : l.length ≤ 1000) (r : List Int → Option β) :
    cond c (gd (decide ((l.length + (([] : List Int) ++ [v]).length) * 8 ≤ 140737488355328)) (r (l ++ (([] : List Int) ++ [v])))) (r l) = r (addIf c l v) := by
  cases c with
  | true => rw [gd_true (decide_eq_true (by simp; omega))]; rfl
  | false => rfl

theorem impl_elements_eq (N : Nat) (hN : 64 < N) (d : Nat) (hd : d < 9223372036854775808) (k : List Int → Option β) : impl_elements N (d : Int) k = k (elems d 32) := by
  have key : ∀ (F i : Nat), 32 - i < F → i ≤ 32 → impl_elements_l0 N F (d : Int) (i : Int) (elems d i) k = k (elems d 32) := by
    intro F
    induction F with
    | zero => intro i h; omega
    | succ F ih =>
      intro i hF hi
      have hl := elems_len d i
      simp only [impl_elements_l0, impl_elements_l0b]
      by_cases hlt : i < 32
      · rw [decide_eq_true (by omega : (i : Int) < 32), decide_eq_true (by omega : (0 : Int) ≤ (i : Int)), bit_at d i hd, bit_one, w64_succ i (by omega), cond_true, gd_true rfl]
        rw [addIf_step (d.testBit i) (elems d i) (i : Int) (by omega) (fun l => impl_elements_l0 N F (d : Int) ((i + 1 : Nat) : Int) l k)]
        exact ih (i + 1) (by omega) (by omega)
      · rw [decide_eq_false (by omega : ¬ (i : Int) < 32), cond_false, show i = 32 by omega]
  exact key N 0 (by omega) (by omega)

theorem spec_detecting_loop (N : Nat) (n w t : Nat) (hn : n ≤ 5) (hw : w < 4294967296) (ht : t < 4294967296) (c : Int) (k : Bool → List Int → Option β) :
    ∀ (F i : Nat), 2 ^ n - i < F → i ≤ 2 ^ n → spec_DetectingInputs_l0 N F true (i : Int) (n : Int) (w : Int) (elems (w ^^^ t) i) c (t : Int) k = k true (elems (w ^^^ t) (2 ^ n)) := by
  have hs := size_le hn
  intro F
  induction F with
  | zero => intro i h; omega
  | succ F ih =>
    intro i hF hi
    have hl := elems_len (w ^^^ t) i
    simp only [spec_DetectingInputs_l0, spec_DetectingInputs_l0b]
    rw [shl_one n (by omega), decide_eq_true (by omega : (0 : Int) ≤ (n : Int)), gd_true rfl, cond_true]
    by_cases hlt : i < 2 ^ n
    · rw [decide_eq_true (by omega : (i : Int) < ((2 ^ n : Nat) : Int)), decide_eq_true (by omega : (0 : Int) ≤ (i : Int)), spec_bit w t i hw ht, w64_succ i (by omega), cond_true, gd_true rfl, gd_true rfl]
      rw [addIf_step ((w ^^^ t).testBit i) (elems (w ^^^ t) i) (i : Int) (by omega) (fun l => spec_DetectingInputs_l0 N F true ((i + 1 : Nat) : Int) (n : Int) (w : Int) l c (t : Int) k)]
      exact ih (i + 1) (by omega) (by omega)
    · rw [decide_eq_false (by omega : ¬ (i : Int) < ((2 ^ n : Nat) : Int)), cond_false, show i = 2 ^ n by omega]

def detInputs (a0 a1 a2 a3 : Int) : List Int := if isF a0 a1 a2 a3 then elems (a1.toNat ^^^ stuckw a1.toNat a0.toNat a2.toNat a3.toNat) 32 else []
theorem detInputs_len (a0 a1 a2 a3 : Int) : (detInputs a0 a1 a2 a3).length ≤ 32 := by
  unfold detInputs
  split
  · exact elems_len _ _
  · simp
theorem stuckw_lt (w n i b : Nat) : stuckw w n i b < 2 ^ 2 ^ n := tabw_lt _ _
theorem two32 {n w : Nat} (hn : n ≤ 5) (hw : w < 2 ^ 2 ^ n) : w < 4294967296 := Nat.lt_of_lt_of_le hw (Nat.pow_le_pow_right (by decide) (size_le hn) : 2 ^ 2 ^ n ≤ 2 ^ 32)

theorem spec_DetectingInputs_eq (N : Nat) (hN : 64 < N) (a0 a1 a2 a3 : Int) (k : List Int → Bool → Option β) :
    spec_DetectingInputs N a0 a1 a2 a3 k = k (detInputs a0 a1 a2 a3) (isF a0 a1 a2 a3) := by
  unfold spec_DetectingInputs detInputs
  rw [spec_StuckTable_eq N hN]
  by_cases h : isF a0 a1 a2 a3 = true
  · rw [if_pos h, if_pos h, h]
    obtain ⟨n, w, i, b, rfl, rfl, rfl, rfl, hn, hw, hw', hi, hb⟩ := isF_nat h
    have hs := size_le hn
    have := spec_detecting_loop N n w (stuckw w n i b) hn hw' (two32 hn (stuckw_lt _ _ _ _)) n (fun e1 e2 => k e2 e1) N 0 (by omega) (Nat.zero_le _)
    have hx : w ^^^ stuckw w n i b < 2 ^ 2 ^ n := Nat.xor_lt_two_pow hw (stuckw_lt _ _ _ _)
    have e := elems_more _ _ hx (32 - 2 ^ n)
    rw [show 2 ^ n + (32 - 2 ^ n) = 32 by omega] at e
    simp only [Int.toNat_natCast]
    rw [e]
    exact this
  · rw [if_neg h, if_neg h, Bool.eq_false_iff.2 h]
    obtain ⟨M, rfl⟩ : ∃ M, N = M + 1 := ⟨N - 1, by omega⟩
    rfl

theorem impl_DetectingInputs_eq (N : Nat) (hN : 64 < N) (a0 a1 a2 a3 : Int) (h1 : a1 < 9223372036854775808) (k : List Int → Bool → Option β) :
    impl_DetectingInputs N a0 a1 a2 a3 k = k (detInputs a0 a1 a2 a3) (isF a0 a1 a2 a3) := by
  unfold impl_DetectingInputs detInputs
  rw [impl_hasVariable_eq N a0 a1 a2 h1, impl_isBit_eq]
  by_cases h : isF a0 a1 a2 a3 = true
  · rw [if_pos h, h]
    have h2 := h
    unfold isF at h2
    rw [Bool.and_eq_true] at h2
    rw [h2.1, h2.2]
    obtain ⟨n, w, i, b, rfl, rfl, rfl, rfl, hn, hw, hw', hi, hb⟩ := isF_nat h
    have hx : w ^^^ stuckw w n i b < 2 ^ 32 := Nat.xor_lt_two_pow hw' (two32 hn (stuckw_lt _ _ _ _))
    simp only [Bool.not_true, cond_false, impl_detecting_eq N hN n w i b hn hi hw hb, Int.toNat_natCast]
    exact impl_elements_eq N hN _ (Nat.lt_trans hx (by decide)) _
  · rw [if_neg h, Bool.eq_false_iff.2 h]
    have h2 := Bool.eq_false_iff.2 h
    unfold isF at h2
    rw [Bool.and_eq_false_iff] at h2
    rcases h2 with h2 | h2
    · rw [h2]; rfl
    · rw [h2]
      cases (isT a0 a1 && (decide (0 ≤ a2) && decide (a2 < a0))) <;> rfl

/-- Whether a set shows a fault that can be shown. -/
def blind (w n s i b : Nat) : Bool := w ^^^ stuckw w n i b != 0 && (w ^^^ stuckw w n i b) &&& s == 0
def blinds (w n s i : Nat) : Bool := blind w n s i 0 || blind w n s i 1
/-- Whether a set shows all faults that can be shown, from a variable on. -/
def shows (w n s : Nat) : Nat → Nat → Bool
  | _, 0 => true
  | i, c + 1 => !blinds w n s i && shows w n s (i + 1) c

theorem blind_step (w n s i b : Nat) (hd : w ^^^ stuckw w n i b < 9223372036854775808) (hs : s < 9223372036854775808) (p q : Option β) :
    cond ((((w ^^^ stuckw w n i b : Nat) : Int)) != 0) (cond (bits .and .i64 ((w ^^^ stuckw w n i b : Nat) : Int) (s : Int) == 0) p q) q = cond (blind w n s i b) p q := by
  unfold blind
  rw [bAnd _ _ hd hs]
  have e : ∀ m : Nat, ((m : Int) != 0) = (m != 0) := fun m => by cases m <;> rfl
  have e2 : ∀ m : Nat, ((m : Int) == 0) = (m == 0) := fun m => by cases m <;> rfl
  rw [e, e2]
  cases (w ^^^ stuckw w n i b != 0) <;> rfl

theorem spec_shows_inner (N : Nat) (hN : 64 < N) (n w s i : Nat) (hn : n ≤ 5) (hi : i < n) (hw : w < 2 ^ 2 ^ n) (hs : s < 9223372036854775808) (k0 : Bool → Option β) (k1 : Int → Int → Int → Int → Option β) :
    spec_l29Shows_l2 N N (s : Int) (i : Int) 0 (n : Int) (w : Int) k0 k1 = cond (blinds w n s i) (k0 false) (k1 s i n w) := by
  have hw' := two32 hn hw
  obtain ⟨M, rfl⟩ : ∃ M, N = M + 3 := ⟨N - 3, by omega⟩
  have h0 : ∀ k, spec_l29Stuck (M + 3) (n : Int) (w : Int) (i : Int) 0 k = k (n : Int) (stuckw w n i 0 : Int) := fun k => spec_l29Stuck_eq (β := β) (M + 3) hN n w i 0 hn hw' (by omega) (by omega) k
  have h1 : ∀ k, spec_l29Stuck (M + 3) (n : Int) (w : Int) (i : Int) 1 k = k (n : Int) (stuckw w n i 1 : Int) := fun k => spec_l29Stuck_eq (β := β) (M + 3) hN n w i 1 hn hw' (by omega) (by omega) k
  have t0 : ∀ b, w ^^^ stuckw w n i b < 9223372036854775808 := fun b =>
    Nat.lt_trans (Nat.xor_lt_two_pow (n := 32) hw' (two32 hn (stuckw_lt _ _ _ _))) (by decide)
  have x0 : ∀ b, bits .xor .i64 (w : Int) (stuckw w n i b : Int) = ((w ^^^ stuckw w n i b : Nat) : Int) := fun b => bXor w _ (by omega) (Nat.lt_trans (two32 hn (stuckw_lt _ _ _ _)) (by decide))
  have w0 : w64 ((0 : Int) + 1) = 1 := by decide
  have w1 : w64 ((1 : Int) + 1) = 2 := by decide
  have l0 : decide ((0 : Int) < 2) = true := by decide
  have l1 : decide ((1 : Int) < 2) = true := by decide
  have l2 : decide ((2 : Int) < 2) = false := by decide
  simp only [spec_l29Shows_l2, spec_l29Shows_l2b, l0, l1, l2, w0, w1, cond_true, cond_false, h0, h1, x0, blind_step w n s i _ (t0 _) hs, blinds]
  cases blind w n s i 0 <;> cases blind w n s i 1 <;> rfl

theorem impl_shows_inner (N : Nat) (hN : 64 < N) (n w s i : Nat) (hn : n ≤ 5) (hi : i < n) (hw : w < 2 ^ 2 ^ n) (hs : s < 9223372036854775808) (d e : Int) (k0 : Bool → Option β) (k1 : Int → Int → Int → Int → Int → Option β) :
    impl_Table_tests_l2 N N (s : Int) (i : Int) d e 0 (n : Int) (w : Int) k0 k1 = cond (blinds w n s i) (k0 false) (k1 s d e n w) := by
  have hw' := two32 hn hw
  obtain ⟨M, rfl⟩ : ∃ M, N = M + 3 := ⟨N - 3, by omega⟩
  have h0 : ∀ k, impl_Table_detecting (M + 3) (n : Int) (w : Int) (i : Int) 0 k = k ((w ^^^ stuckw w n i 0 : Nat) : Int) := fun k => impl_detecting_eq (β := β) (M + 3) hN n w i 0 hn hi hw (by omega) k
  have h1 : ∀ k, impl_Table_detecting (M + 3) (n : Int) (w : Int) (i : Int) 1 k = k ((w ^^^ stuckw w n i 1 : Nat) : Int) := fun k => impl_detecting_eq (β := β) (M + 3) hN n w i 1 hn hi hw (by omega) k
  have t0 : ∀ b, w ^^^ stuckw w n i b < 9223372036854775808 := fun b =>
    Nat.lt_trans (Nat.xor_lt_two_pow (n := 32) hw' (two32 hn (stuckw_lt _ _ _ _))) (by decide)
  have w0 : w64 ((0 : Int) + 1) = 1 := by decide
  have w1 : w64 ((1 : Int) + 1) = 2 := by decide
  have l0 : decide ((0 : Int) < 2) = true := by decide
  have l1 : decide ((1 : Int) < 2) = true := by decide
  have l2 : decide ((2 : Int) < 2) = false := by decide
  simp only [impl_Table_tests_l2, impl_Table_tests_l2b, l0, l1, l2, w0, w1, cond_true, cond_false, h0, h1, blind_step w n s i _ (t0 _) hs, blinds]
  cases blind w n s i 0 <;> cases blind w n s i 1 <;> rfl

theorem spec_l29Shows_eq (N : Nat) (hN : 64 < N) (n w s : Nat) (hn : n ≤ 5) (hw : w < 2 ^ 2 ^ n) (hs : s < 9223372036854775808) (k : Bool → Option β) :
    spec_l29Shows N (n : Int) (w : Int) (s : Int) k = k (shows w n s 0 n) := by
  have key : ∀ (c F i : Nat), c < F → i + c = n → spec_l29Shows_l0 N F (s : Int) (i : Int) (n : Int) (w : Int) k (k true) = k (shows w n s i c) := by
    intro c
    induction c with
    | zero =>
      intro F i hF hi
      obtain ⟨F, rfl⟩ : ∃ G, F = G + 1 := ⟨F - 1, by omega⟩
      simp only [spec_l29Shows_l0, spec_l29Shows_l0b]
      rw [decide_eq_false (by omega : ¬ (i : Int) < (n : Int))]
      rfl
    | succ c ih =>
      intro F i hF hi
      obtain ⟨F, rfl⟩ : ∃ G, F = G + 1 := ⟨F - 1, by omega⟩
      simp only [spec_l29Shows_l0, spec_l29Shows_l0b]
      rw [decide_eq_true (by omega : (i : Int) < (n : Int)), cond_true, spec_shows_inner N hN n w s i hn (by omega) hw hs, w64_succ i (by omega), ih F (i + 1) (by omega) (by omega)]
      simp only [shows]
      cases blinds w n s i <;> rfl
  exact key n N 0 (by omega) (by omega)

theorem impl_tests_eq (N : Nat) (hN : 64 < N) (n w s : Nat) (hn : n ≤ 5) (hw : w < 2 ^ 2 ^ n) (hs : s < 9223372036854775808) (k : Bool → Option β) :
    impl_Table_tests N (n : Int) (w : Int) (s : Int) k = k (shows w n s 0 n) := by
  have key : ∀ (c F i : Nat), c < F → i + c = n → impl_Table_tests_l0 N F (s : Int) (n : Int) (i : Int) (n : Int) (w : Int) k (k true) = k (shows w n s i c) := by
    intro c
    induction c with
    | zero =>
      intro F i hF hi
      obtain ⟨F, rfl⟩ : ∃ G, F = G + 1 := ⟨F - 1, by omega⟩
      simp only [impl_Table_tests_l0, impl_Table_tests_l0b]
      rw [decide_eq_false (by omega : ¬ (i : Int) < (n : Int))]
      rfl
    | succ c ih =>
      intro F i hF hi
      obtain ⟨F, rfl⟩ : ∃ G, F = G + 1 := ⟨F - 1, by omega⟩
      simp only [impl_Table_tests_l0, impl_Table_tests_l0b]
      rw [decide_eq_true (by omega : (i : Int) < (n : Int)), cond_true, impl_shows_inner N hN n w s i hn (by omega) hw hs, w64_succ i (by omega), ih F (i + 1) (by omega) (by omega)]
      simp only [shows]
      cases blinds w n s i <;> rfl
  exact key n N 0 (by omega) (by omega)

/-- A set with more numbers. -/
def addAll (s : Nat) (l : List Int) : Nat := l.foldl (fun s x => s ||| 2 ^ x.toNat) s

theorem addAll_lt (P : Int → Bool) (hP : ∀ x, P x = true → 0 ≤ x ∧ x < 32) : ∀ (l : List Int) (s : Nat), s < 4294967296 → l.all P = true → addAll s l < 4294967296
  | [], s, hs, _ => hs
  | x :: l, s, hs, h => by
    simp only [List.all_cons, Bool.and_eq_true] at h
    have hx := hP x h.1
    exact addAll_lt P hP l _ (Nat.or_lt_two_pow (n := 32) hs (Nat.pow_lt_pow_right (by decide) (by omega))) h.2

theorem isIn_lt {a0 a1 a2 : Int} (h : isIn a0 a1 a2 = true) : 0 ≤ a2 ∧ a2 < 32 := by
  obtain ⟨n, w, x, rfl, rfl, rfl, hn, hw, -, hx⟩ := isIn_nat h
  have := size_le hn
  omega

theorem spec_testset_loop (N : Nat) (a0 a1 : Int) (l : List Int) (hl : l.length ≤ 1048576) (k0 : Bool → Option β) (k1 : Int → Int → Int → Option β) :
    ∀ (F i s : Nat), l.length - i < F → i ≤ l.length → s < 4294967296 →
      spec_IsTestSet_l0 N F l (s : Int) (i : Int) a0 a1 k0 k1 = if (l.drop i).all (isIn a0 a1) then k1 (addAll s (l.drop i) : Int) a0 a1 else k0 false := by
  intro F
  induction F with
  | zero => intro i s h; omega
  | succ F ih =>
    intro i s hF hi hs
    simp only [spec_IsTestSet_l0, spec_IsTestSet_l0b]
    by_cases hlt : i < l.length
    · rw [decide_eq_true (by omega : (i : Int) < (l.length : Int)), decide_eq_true (by omega : (0 : Int) ≤ (i : Int)), rd_nat 0 l i hlt, List.drop_eq_getElem_cons hlt, spec_l9In_eq, w64_succ i (by omega)]
      simp only [cond_true, gd_true rfl, List.all_cons]
      by_cases hx : isIn a0 a1 l[i] = true
      case neg => simp only [Bool.eq_false_iff.2 hx]; simp
      case pos =>
        simp only [hx]
        have hb := isIn_lt hx
        obtain ⟨x, hx'⟩ := Int.eq_ofNat_of_zero_le hb.1
        rw [hx', decide_eq_true (by omega : (0 : Int) ≤ ((x : Nat) : Int)), shl_one x (by omega)]
        have hp : 2 ^ x < 4294967296 := (Nat.pow_lt_pow_right (by decide) (by omega) : 2 ^ x < 2 ^ 32)
        rw [bOr _ _ (by omega) (by omega)]
        simp only [Bool.not_true, cond_false, gd_true rfl, Bool.true_and]
        rw [ih (i + 1) _ (by omega) (by omega) (Nat.or_lt_two_pow (n := 32) hs hp)]
        rfl
    · have : i = l.length := by omega
      subst this
      rw [decide_eq_false (by omega : ¬ (l.length : Int) < (l.length : Int))]
      simp [addAll]

theorem slices_ContainsFunc_eq (N : Nat) (l : List Int) (hl : l.length ≤ 1048576) (hN : 1048576 < N) (f : Int → (Bool → Option β) → Option β) (p : Int → Bool) (hf : ∀ x k, f x k = k (p x)) (k : Bool → Option β) :
    slices_ContainsFunc_Sint_int N l f k = k (l.any p) := by
  unfold slices_ContainsFunc_Sint_int slices_IndexFunc_Sint_int
  have key : ∀ (F i : Nat), l.length - i < F → i ≤ l.length →
      slices_IndexFunc_Sint_int_l0 N f F l (l.length : Int) (i : Int) (fun e => k (decide (e ≥ 0))) (k (decide ((-1 : Int) ≥ 0))) = k ((l.drop i).any p) := by
    intro F
    induction F with
    | zero => intro i h; omega
    | succ F ih =>
      intro i hF hi
      simp only [slices_IndexFunc_Sint_int_l0, slices_IndexFunc_Sint_int_l0b]
      by_cases hlt : i < l.length
      · rw [decide_eq_true (by omega : (i : Int) < (l.length : Int)), decide_eq_true (by omega : (0 : Int) ≤ (i : Int)), rd_nat 0 l i hlt, List.drop_eq_getElem_cons hlt, hf, w64_succ i (by omega)]
        simp only [cond_true, gd_true rfl, List.any_cons]
        cases hp : p l[i] with
        | true => simp
        | false =>
          simp only [cond_false, Bool.false_or]
          exact ih (i + 1) (by omega) (by omega)
      · have : i = l.length := by omega
        subst this
        rw [decide_eq_false (by omega : ¬ (l.length : Int) < (l.length : Int))]
        simp
  have := key N 0 (by omega) (Nat.zero_le _)
  simpa using this

theorem impl_isInput_eq (N n : Nat) (hn : n ≤ 5) (x : Int) (k : Bool → Option β) : impl_isInput N (n : Int) x k = k (decide (0 ≤ x) && decide (x < 2 ^ n)) := by
  have hs := size_le hn
  unfold impl_isInput
  rw [shl_one n (by omega), decide_eq_true (by omega : 0 ≤ (n : Int)), gd_true rfl]
  by_cases h : 0 ≤ x
  · rw [decide_eq_true (by omega : x ≥ 0)]
    simp only [cond_true, Bool.true_and]
    exact congrArg k (decide_eq_decide.2 (by simp))
  · rw [decide_eq_false (by omega : ¬ x ≥ 0)]; rfl

theorem impl_testset_loop (N : Nat) (a0 a1 : Int) (l : List Int) (hl : l.length ≤ 1048576) (hall : l.all (isIn a0 a1) = true) (k0 : Int → Int → Int → Option β) :
    ∀ (F i s : Nat), l.length - i < F → i ≤ l.length → s < 4294967296 →
      impl_IsTestSet_l0 N F (s : Int) l (l.length : Int) (i : Int) a0 a1 k0 = k0 (addAll s (l.drop i) : Int) a0 a1 := by
  intro F
  induction F with
  | zero => intro i s h; omega
  | succ F ih =>
    intro i s hF hi hs
    simp only [impl_IsTestSet_l0, impl_IsTestSet_l0b]
    by_cases hlt : i < l.length
    · have hx : isIn a0 a1 l[i] = true := by
        rw [List.all_eq_true] at hall
        exact hall _ (List.getElem_mem hlt)
      have hb := isIn_lt hx
      obtain ⟨x, hx'⟩ := Int.eq_ofNat_of_zero_le hb.1
      rw [decide_eq_true (by omega : (i : Int) < (l.length : Int)), decide_eq_true (by omega : (0 : Int) ≤ (i : Int)), rd_nat 0 l i hlt, List.drop_eq_getElem_cons hlt, w64_succ i (by omega)]
      rw [hx', decide_eq_true (by omega : (0 : Int) ≤ ((x : Nat) : Int)), shl_one x (by omega)]
      have hp : 2 ^ x < 4294967296 := (Nat.pow_lt_pow_right (by decide) (by omega) : 2 ^ x < 2 ^ 32)
      rw [bOr _ _ (by omega) (by omega)]
      simp only [cond_true, gd_true rfl]
      rw [ih (i + 1) _ (by omega) (by omega) (Nat.or_lt_two_pow (n := 32) hs hp)]
      rfl
    · have : i = l.length := by omega
      subst this
      rw [decide_eq_false (by omega : ¬ (l.length : Int) < (l.length : Int))]
      simp [addAll]

/-- Whether a list is a test set. -/
def testSet (a0 a1 : Int) (l : List Int) : Bool := l.all (isIn a0 a1) && (isT a0 a1 && shows a1.toNat a0.toNat (addAll 0 l) 0 a0.toNat)

theorem spec_IsTestSet_eq (N : Nat) (hN : 1048576 < N) (a0 a1 : Int) (l : List Int) (hl : l.length ≤ 1048576) (k : Bool → Option β) :
    spec_IsTestSet N a0 a1 l k = k (testSet a0 a1 l) := by
  unfold spec_IsTestSet testSet
  have e := fun k0 k1 => spec_testset_loop (β := β) N a0 a1 l hl k0 k1 N 0 0 (by omega) (Nat.zero_le _) (by omega)
  simp only [Int.natCast_zero, List.drop_zero] at e
  rw [e]
  cases h : l.all (isIn a0 a1) with
  | false => simp
  | true =>
    have hs := addAll_lt _ (fun x hx => isIn_lt hx) l 0 (by omega) h
    rw [if_pos rfl, spec_IsTable_eq]
    cases ht : isT a0 a1 with
    | false => rfl
    | true =>
      obtain ⟨n, w, rfl, rfl, hn, hw, hw'⟩ := isT_nat ht
      simp only [cond_true, Int.toNat_natCast, Bool.true_and]
      exact spec_l29Shows_eq N (by omega) n w _ hn hw (by omega) k

theorem impl_IsTestSet_eq (N : Nat) (hN : 1048576 < N) (a0 a1 : Int) (h1 : a1 < 9223372036854775808) (l : List Int) (hl : l.length ≤ 1048576) (k : Bool → Option β) :
    impl_IsTestSet N a0 a1 l k = k (testSet a0 a1 l) := by
  unfold impl_IsTestSet testSet
  rw [impl_IsTable_eq N a0 a1 h1]
  cases ht : isT a0 a1 with
  | false => simp
  | true =>
    obtain ⟨n, w, rfl, rfl, hn, hw, hw'⟩ := isT_nat ht
    have hp : ∀ x, isIn (n : Int) (w : Int) x = (decide (0 ≤ x) && decide (x < 2 ^ n)) := fun x => by
      unfold isIn; rw [ht]; simp
    simp only [Bool.not_true, cond_false]
    rw [slices_ContainsFunc_eq N l hl hN _ (fun x => !isIn (n : Int) (w : Int) x) (fun x k => by unfold impl_IsTestSet_1; rw [impl_isInput_eq N n hn, hp])]
    have ea : l.any (fun x => !isIn (n : Int) (w : Int) x) = !l.all (isIn (n : Int) (w : Int)) := by
      rw [List.all_eq_not_any_not, Bool.not_not]
    rw [ea]
    cases h : l.all (isIn (n : Int) (w : Int)) with
    | false => rfl
    | true =>
      have hs := addAll_lt _ (fun x hx => isIn_lt hx) l 0 (by omega) h
      have e := fun k0 => impl_testset_loop (β := β) N n w l hl h k0 N 0 0 (by omega) (Nat.zero_le _) (by omega)
      simp only [Int.natCast_zero, List.drop_zero] at e
      simp only [Bool.not_true, cond_false, e, Int.toNat_natCast, Bool.true_and]
      exact impl_tests_eq N (by omega) n w _ hn hw (by omega) k
end Go.Proofs.Ytdkjnadhgdneaaa
