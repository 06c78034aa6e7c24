/- Plain laws of the texts: the faults that an input detects are listed alike. -/
import Derived.Test.YtdkjnadhgdneaaaP5
namespace Go.Proofs.Ytdkjnadhgdneaaa
open Go.Rv
set_option linter.unusedVariables false
variable {β : Type}
/-- Whether an input tells a stuck one apart. -/
def sees (w n x i b : Nat) : Bool := (w ^^^ tabw (fun x => w.testBit (ys x i b)) (2 ^ n)).testBit x
def addIf (c : Bool) (l : List Int) (v : Int) : List Int := if c then l ++ [v] else l
/-- The faults seen at an input. -/
def seen (w n x : Nat) : Nat → List Int
  | 0 => []
  | i + 1 => addIf (sees w n x i 1) (addIf (sees w n x i 0) (seen w n x i) ((2 * i : Nat) : Int)) ((2 * i + 1 : Nat) : Int)
theorem addIf_len (c : Bool) (l : List Int) (v : Int) : (addIf c l v).length ≤ l.length + 1 := by unfold addIf; split <;> simp
theorem seen_len (w n x : Nat) : ∀ i, (seen w n x i).length ≤ 2 * i
  | 0 => by simp [seen]
  | i + 1 => by
    have h1 := seen_len w n x i
    have h2 := addIf_len (sees w n x i 0) (seen w n x i) ((2 * i : Nat) : Int)
    have h3 := addIf_len (sees w n x i 1) (addIf (sees w n x i 0) (seen w n x i) ((2 * i : Nat) : Int)) ((2 * i + 1 : Nat) : Int)
    show (addIf _ (addIf _ _ _) _).length ≤ _
    omega

theorem bit_one (c : Bool) : (((if c then 1 else 0 : Nat) : Int) == 1) = c := by cases c <;> rfl

theorem spec_bit (w t x : Nat) (hw : w < 4294967296) (ht : t < 4294967296) : (bits .and .i64 (bits .xor .i64 (shrI .i64 (w : Int) (x : Int)) (shrI .i64 (t : Int) (x : Int))) 1 == 1) = (w ^^^ t).testBit x := by
  have h1 : w / 2 ^ x < 2 ^ 63 := Nat.lt_of_le_of_lt (Nat.div_le_self _ _) (by omega)
  have h2 : t / 2 ^ x < 2 ^ 63 := Nat.lt_of_le_of_lt (Nat.div_le_self _ _) (by omega)
  rw [shr_nat w x (by omega), shr_nat t x (by omega), bXor _ _ h1 h2]
  have h3 : w / 2 ^ x ^^^ t / 2 ^ x < 2 ^ 63 := Nat.xor_lt_two_pow h1 h2
  have h4 := bit_at (w / 2 ^ x ^^^ t / 2 ^ x) 0 (by omega)
  have h5 : shrI .i64 ((w / 2 ^ x ^^^ t / 2 ^ x : Nat) : Int) ((0 : Nat) : Int) = ((w / 2 ^ x ^^^ t / 2 ^ x : Nat) : Int) := by
    rw [shr_nat _ 0 (by omega)]; simp
  rw [h5] at h4
  rw [h4, bit_one]
  rw [Nat.testBit_xor, Nat.testBit_xor]
  have e : ∀ m : Nat, (m / 2 ^ x).testBit 0 = m.testBit x := fun m => by
    rw [Nat.testBit_zero, Nat.testBit, Nat.shiftRight_eq_div_pow, Nat.and_comm, Nat.and_one_is_mod]
    have := Nat.mod_two_eq_zero_or_one (m / 2 ^ x)
    rcases this with h | h <;> simp [h]
  rw [e, e]

theorem spec_seen_inner (N : Nat) (hN : 64 < N) (n w x i : Nat) (hn : n ≤ 5) (hi : i < n) (hw : w < 2 ^ 2 ^ n) (k0 : Int → Int → Int → Int → List Int → Option β) :
    spec_DetectedBy_l2 N N (x : Int) (i : Int) 0 (n : Int) (w : Int) (seen w n x i) k0 = k0 x i n w (seen w n x (i + 1)) := by
  have hw' : w < 4294967296 := Nat.lt_of_lt_of_le hw (Nat.pow_le_pow_right (by decide) (size_le hn) : 2 ^ 2 ^ n ≤ 2 ^ 32)
  obtain ⟨M, rfl⟩ : ∃ M, N = M + 3 := ⟨N - 3, by omega⟩
  have h0 := fun k => spec_l29Stuck_eq (β := β) (M + 3) hN n w i 0 hn hw' (by omega) (by omega) k
  have h1 := fun k => spec_l29Stuck_eq (β := β) (M + 3) hN n w i 1 hn hw' (by omega) (by omega) k
  have t0 : ∀ b, tabw (fun x => w.testBit (ys x i b)) (2 ^ n) < 4294967296 := fun b => Nat.lt_of_lt_of_le (tabw_lt _ _) (Nat.pow_le_pow_right (by decide) (size_le hn) : 2 ^ 2 ^ n ≤ 2 ^ 32)
  simp only [Int.natCast_zero, Int.natCast_one] at h0 h1
  have w0 : w64 ((0 : Int) + 1) = 1 := by decide
  have w1 : w64 ((1 : Int) + 1) = 2 := by decide
  have l0 : decide ((0 : Int) < 2) = true := by decide
  have l1 : decide ((1 : Int) < 2) = true := by decide
  have l2 : decide ((2 : Int) < 2) = false := by decide
  have e2 : w64 (2 * (i : Int)) = ((2 * i : Nat) : Int) := by rw [w64_id (by omega) (by omega)]; omega
  have e0 : w64 (((2 * i : Nat) : Int) + 0) = ((2 * i : Nat) : Int) := by rw [w64_id (by omega) (by omega)]; omega
  have e1 : w64 (((2 * i : Nat) : Int) + 1) = ((2 * i + 1 : Nat) : Int) := w64_succ _ (by omega)
  have hl := seen_len w n x i
  have gx : decide (0 ≤ (x : Int)) = true := decide_eq_true (by omega)
  simp only [spec_DetectedBy_l2, spec_DetectedBy_l2b, l0, l1, l2, w0, w1, cond_true, cond_false, h0, h1, e2, e0, e1, gx, gd_true rfl, spec_bit w _ x hw' (t0 _)]
  show cond (sees w n x i 0) _ _ = _
  have fin : ∀ l : List Int, l.length ≤ 20 → (cond (sees w n x i 1) (gd (decide ((l.length + (([] : List Int) ++ [((2 * i + 1 : Nat) : Int)]).length) * 8 ≤ 140737488355328)) (k0 x i n w (l ++ (([] : List Int) ++ [((2 * i + 1 : Nat) : Int)])))) (k0 x i n w l)) = k0 x i n w (addIf (sees w n x i 1) l ((2 * i + 1 : Nat) : Int)) := fun l hl => by
    cases sees w n x i 1 with
    | true => rw [gd_true (decide_eq_true (by simp; omega))]; rfl
    | false => rfl
  have e : seen w n x (i + 1) = addIf (sees w n x i 1) (addIf (sees w n x i 0) (seen w n x i) ((2 * i : Nat) : Int)) ((2 * i + 1 : Nat) : Int) := rfl
  rw [e]
  cases hs : sees w n x i 0 with
  | true =>
    simp only [cond_true]
    rw [gd_true (decide_eq_true (by simp; omega))]
    exact fin _ (by simp; omega)
  | false => exact fin _ (by omega)

theorem impl_seen_inner (N : Nat) (hN : 64 < N) (n w x i : Nat) (hn : n ≤ 5) (hi : i < n) (hw : w < 2 ^ 2 ^ n) (d e : Int) (k0 : Int → Int → Int → Int → Int → List Int → Option β) :
    impl_DetectedBy_l2 N N (x : Int) (i : Int) d e 0 (n : Int) (w : Int) (seen w n x i) k0 = k0 x d e n w (seen w n x (i + 1)) := by
  have hw' : w < 4294967296 := Nat.lt_of_lt_of_le hw (Nat.pow_le_pow_right (by decide) (size_le hn) : 2 ^ 2 ^ n ≤ 2 ^ 32)
  obtain ⟨M, rfl⟩ : ∃ M, N = M + 3 := ⟨N - 3, by omega⟩
  have h0 := fun k => impl_detecting_eq (β := β) (M + 3) hN n w i 0 hn hi hw (by omega) k
  have h1 := fun k => impl_detecting_eq (β := β) (M + 3) hN n w i 1 hn hi hw (by omega) k
  have t0 : ∀ b, w ^^^ tabw (fun x => w.testBit (ys x i b)) (2 ^ n) < 9223372036854775808 := fun b =>
    Nat.xor_lt_two_pow (n := 63) (by omega) (Nat.lt_of_lt_of_le (tabw_lt _ _) (Nat.pow_le_pow_right (by decide) (by have := size_le hn; omega)))
  simp only [Int.natCast_zero, Int.natCast_one] at h0 h1
  have w0 : w64 ((0 : Int) + 1) = 1 := by decide
  have w1 : w64 ((1 : Int) + 1) = 2 := by decide
  have l0 : decide ((0 : Int) < 2) = true := by decide
  have l1 : decide ((1 : Int) < 2) = true := by decide
  have l2 : decide ((2 : Int) < 2) = false := by decide
  have e2 : w64 (2 * (i : Int)) = ((2 * i : Nat) : Int) := by rw [w64_id (by omega) (by omega)]; omega
  have e0 : w64 (((2 * i : Nat) : Int) + 0) = ((2 * i : Nat) : Int) := by rw [w64_id (by omega) (by omega)]; omega
  have e1 : w64 (((2 * i : Nat) : Int) + 1) = ((2 * i + 1 : Nat) : Int) := w64_succ _ (by omega)
  have hl := seen_len w n x i
  have gx : decide (0 ≤ (x : Int)) = true := decide_eq_true (by omega)
  simp only [impl_DetectedBy_l2, impl_DetectedBy_l2b, l0, l1, l2, w0, w1, cond_true, cond_false, h0, h1, e2, e0, e1, gx, gd_true rfl, bit_at _ x (t0 _), bit_one]
  show cond (sees w n x i 0) _ _ = _
  have fin : ∀ l : List Int, l.length ≤ 20 → (cond (sees w n x i 1) (gd (decide ((l.length + (([] : List Int) ++ [((2 * i + 1 : Nat) : Int)]).length) * 8 ≤ 140737488355328)) (k0 x d e n w (l ++ (([] : List Int) ++ [((2 * i + 1 : Nat) : Int)])))) (k0 x d e n w l)) = k0 x d e n w (addIf (sees w n x i 1) l ((2 * i + 1 : Nat) : Int)) := fun l hl => by
    cases sees w n x i 1 with
    | true => rw [gd_true (decide_eq_true (by simp; omega))]; rfl
    | false => rfl
  have e : seen w n x (i + 1) = addIf (sees w n x i 1) (addIf (sees w n x i 0) (seen w n x i) ((2 * i : Nat) : Int)) ((2 * i + 1 : Nat) : Int) := rfl
  rw [e]
  cases hs : sees w n x i 0 with
  | true =>
    simp only [cond_true]
    rw [gd_true (decide_eq_true (by simp; omega))]
    exact fin _ (by simp; omega)
  | false => exact fin _ (by omega)

theorem isT_of {n w : Nat} (hn : n ≤ 5) (hw : w < 2 ^ 2 ^ n) : isT (n : Int) (w : Int) = true := by
  simp only [isT, Bool.and_eq_true, decide_eq_true_eq, Int.toNat_natCast]
  refine ⟨⟨⟨by omega, by omega⟩, by omega⟩, ?_⟩
  rw [show ((2 : Int) ^ 2 ^ n) = ((2 ^ 2 ^ n : Nat) : Int) by simp]
  omega

/-- Whether a number is an input. -/
def isIn (a0 a1 a2 : Int) : Bool := isT a0 a1 && decide (0 ≤ a2) && decide (a2 < 2 ^ a0.toNat)

theorem spec_l9In_eq (N : Nat) (a0 a1 a2 : Int) (k : Bool → Option β) : spec_l9In N a0 a1 a2 k = k (isIn a0 a1 a2) := by
  unfold spec_l9In spec_l1In isIn
  rw [spec_IsTable_eq]
  cases ht : isT a0 a1 with
  | false => rfl
  | true =>
    obtain ⟨n, w, rfl, rfl, hn, hw, hw'⟩ := isT_nat ht
    have hs := size_le hn
    have hp := Nat.two_pow_pos n
    simp only [cond_true, gd_true (decide_eq_true (by omega : 0 ≤ (n : Int))), Bool.true_and, Int.toNat_natCast]
    rw [shl_one n (by omega), w64_id (by omega) (by omega)]
    by_cases h : 0 ≤ a2
    · rw [decide_eq_true (by omega : a2 ≥ 0)]
      simp only [cond_true, Bool.true_and]
      congr 1
      exact decide_eq_decide.2 (by rw [show ((2 : Int) ^ n) = ((2 ^ n : Nat) : Int) by simp]; omega)
    · rw [decide_eq_false (by omega : ¬ a2 ≥ 0)]; rfl

theorem impl_hasInput_eq (N : Nat) (a0 a1 a2 : Int) (h : a1 < 9223372036854775808) (k : Bool → Option β) : impl_hasInput N a0 a1 a2 k = k (isIn a0 a1 a2) := by
  unfold impl_hasInput impl_isInput isIn
  rw [impl_IsTable_eq N a0 a1 h]
  cases ht : isT a0 a1 with
  | false => rfl
  | true =>
    obtain ⟨n, w, rfl, rfl, hn, hw, hw'⟩ := isT_nat ht
    have hs := size_le hn
    simp only [cond_true, gd_true (decide_eq_true (by omega : 0 ≤ (n : Int))), Bool.true_and, Int.toNat_natCast]
    rw [shl_one n (by omega)]
    by_cases h : 0 ≤ a2
    · rw [decide_eq_true (by omega : a2 ≥ 0)]
      simp only [cond_true, Bool.true_and]
      exact congrArg k (decide_eq_decide.2 (by simp))
    · rw [decide_eq_false (by omega : ¬ a2 ≥ 0)]; rfl

theorem spec_seen (N : Nat) (hN : 64 < N) (n w x : Nat) (hn : n ≤ 5) (hw : w < 2 ^ 2 ^ n) (hx : x < 2 ^ n) (k : List Int → Option β) :
    ∀ F i, n - i < F → i ≤ n → spec_DetectedBy_l0 N F (x : Int) (i : Int) (n : Int) (w : Int) (seen w n x i) k = k (seen w n x n) := by
  have hin : isIn (n : Int) (w : Int) (x : Int) = true := by
    unfold isIn
    rw [isT_of hn hw]
    simp only [Bool.true_and, Int.toNat_natCast, Bool.and_eq_true, decide_eq_true_eq]
    rw [show ((2 : Int) ^ n) = ((2 ^ n : Nat) : Int) by simp]
    omega
  intro F
  induction F with
  | zero => intro i h; omega
  | succ F ih =>
    intro i hF hi
    simp only [spec_DetectedBy_l0, spec_DetectedBy_l0b]
    rw [spec_l9In_eq, hin]
    simp only [cond_true]
    by_cases hlt : i < n
    · rw [decide_eq_true (by omega : (i : Int) < (n : Int)), cond_true, spec_seen_inner N hN n w x i hn hlt hw, w64_succ i (by omega)]
      exact ih (i + 1) (by omega) (by omega)
    · rw [decide_eq_false (by omega : ¬ (i : Int) < (n : Int)), cond_false, show i = n by omega]

theorem impl_seen (N : Nat) (hN : 64 < N) (n w x : Nat) (hn : n ≤ 5) (hw : w < 2 ^ 2 ^ n) (k : List Int → Option β) :
    ∀ F i, n - i < F → i ≤ n → impl_DetectedBy_l0 N F (x : Int) (n : Int) (i : Int) (n : Int) (w : Int) (seen w n x i) k = k (seen w n x n) := by
  intro F
  induction F with
  | zero => intro i h; omega
  | succ F ih =>
    intro i hF hi
    simp only [impl_DetectedBy_l0, impl_DetectedBy_l0b]
    by_cases hlt : i < n
    · rw [decide_eq_true (by omega : (i : Int) < (n : Int)), cond_true, impl_seen_inner N hN n w x i hn hlt hw, w64_succ i (by omega)]
      exact ih (i + 1) (by omega) (by omega)
    · rw [decide_eq_false (by omega : ¬ (i : Int) < (n : Int)), cond_false, show i = n by omega]

/-- The faults seen, of whatever is handed. -/
def detectedBy (a0 a1 a2 : Int) : List Int := if isIn a0 a1 a2 then seen a1.toNat a0.toNat a2.toNat a0.toNat else []

theorem isIn_nat {a0 a1 a2 : Int} (h : isIn a0 a1 a2 = true) : ∃ n w x : Nat, a0 = n ∧ a1 = w ∧ a2 = x ∧ n ≤ 5 ∧ w < 2 ^ 2 ^ n ∧ w < 4294967296 ∧ x < 2 ^ n := by
  unfold isIn at h
  simp only [Bool.and_eq_true, decide_eq_true_eq] at h
  obtain ⟨⟨ht, h0⟩, h1⟩ := h
  obtain ⟨n, w, rfl, rfl, hn, hw, hw'⟩ := isT_nat ht
  refine ⟨n, w, a2.toNat, rfl, rfl, by omega, hn, hw, hw', ?_⟩
  rw [Int.toNat_natCast, show ((2 : Int) ^ n) = ((2 ^ n : Nat) : Int) by simp] at h1
  omega

theorem detectedBy_len (a0 a1 a2 : Int) : (detectedBy a0 a1 a2).length ≤ 10 := by
  unfold detectedBy
  split
  · rename_i h
    obtain ⟨n, w, x, rfl, rfl, rfl, hn, -, -, -⟩ := isIn_nat h
    have := seen_len (w : Int).toNat (n : Int).toNat (x : Int).toNat (n : Int).toNat
    simp only [Int.toNat_natCast] at this ⊢
    omega
  · simp

theorem spec_DetectedBy_eq (N : Nat) (hN : 64 < N) (a0 a1 a2 : Int) (k : List Int → Option β) : spec_DetectedBy N a0 a1 a2 k = k (detectedBy a0 a1 a2) := by
  unfold spec_DetectedBy detectedBy
  by_cases h : isIn a0 a1 a2 = true
  · rw [if_pos h]
    obtain ⟨n, w, x, rfl, rfl, rfl, hn, hw, -, hx⟩ := isIn_nat h
    have := spec_seen N hN n w x hn hw hx (fun e => k e) N 0 (by omega) (Nat.zero_le _)
    simpa [seen] using this
  · rw [if_neg h]
    obtain ⟨M, rfl⟩ : ∃ M, N = M + 1 := ⟨N - 1, by omega⟩
    simp only [spec_DetectedBy_l0, spec_DetectedBy_l0b]
    rw [spec_l9In_eq, Bool.eq_false_iff.2 h]
    rfl

theorem impl_DetectedBy_eq (N : Nat) (hN : 64 < N) (a0 a1 a2 : Int) (h1 : a1 < 9223372036854775808) (k : List Int → Option β) : impl_DetectedBy N a0 a1 a2 k = k (detectedBy a0 a1 a2) := by
  unfold impl_DetectedBy detectedBy
  rw [impl_hasInput_eq N a0 a1 a2 h1]
  by_cases h : isIn a0 a1 a2 = true
  · rw [if_pos h, h]
    obtain ⟨n, w, x, rfl, rfl, rfl, hn, hw, -, hx⟩ := isIn_nat h
    have := impl_seen N hN n w x hn hw (fun e => k e) N 0 (by omega) (Nat.zero_le _)
    simpa [seen] using this
  · rw [if_neg h, Bool.eq_false_iff.2 h]
    rfl
end Go.Proofs.Ytdkjnadhgdneaaa
