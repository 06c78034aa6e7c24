/- Plain laws of the texts: least test sets, and the claims of them. -/
import Derived.Test.YtdkjnadhgdneaaaP10
namespace Go.Proofs.Ytdkjnadhgdneaaa
open Go.Rv
set_option linter.unusedVariables false
variable {β : Type}
theorem spec_l2Full_eq (N n : Nat) (hn : n ≤ 5) (k : Int → Option β) : spec_l2Full N (n : Int) k = k ((2 ^ 2 ^ n - 1 : Nat) : Int) := by
  have hs := size_le hn
  have hp : 2 ^ 2 ^ n < 9223372036854775808 := pow_le_64 (by omega)
  have h1 := Nat.two_pow_pos (2 ^ n)
  unfold spec_l2Full
  rw [shl_u64 n hn, shl_one (2 ^ n) (by omega), decide_eq_true (by omega : (0 : Int) ≤ (n : Int)), decide_eq_true (Int.natCast_nonneg (2 ^ n)), gd_true rfl, gd_true rfl, w64_id (by omega) (by omega)]
  congr 1
  omega

/-- The least test set, as far as looked. -/
def lts (w n : Nat) : Nat → Nat
  | 0 => 2 ^ 2 ^ n - 1
  | s + 1 => if decide (ones s < ones (lts w n s)) && shows w n s 0 n then s else lts w n s
theorem lts_le (w n : Nat) : ∀ s, s ≤ 2 ^ 2 ^ n → lts w n s ≤ 2 ^ 2 ^ n - 1
  | 0, _ => Nat.le_refl _
  | s + 1, h => by
    have := lts_le w n s (by omega)
    simp only [lts]
    split <;> omega

theorem spec_least_loop (N : Nat) (hN : 64 < N) (n w : Nat) (hn : n ≤ 5) (hw : w < 2 ^ 2 ^ n) (k0 : Int → Int → Int → Option β) :
    ∀ (F s : Nat), 2 ^ 2 ^ n - 1 - s < F → s ≤ 2 ^ 2 ^ n - 1 → spec_LeastTestSet_l0 N F (lts w n s : Int) (s : Int) (n : Int) (w : Int) k0 = k0 (lts w n (2 ^ 2 ^ n - 1) : Int) n w := by
  have hs := size_le hn
  have hp : 2 ^ 2 ^ n ≤ 4294967296 := (Nat.pow_le_pow_right (by decide) hs : 2 ^ 2 ^ n ≤ 2 ^ 32)
  intro F
  induction F with
  | zero => intro s h; omega
  | succ F ih =>
    intro s hF hi
    have hl := lts_le w n s (by omega)
    simp only [spec_LeastTestSet_l0, spec_LeastTestSet_l0b]
    rw [spec_l2Full_eq N n hn]
    by_cases hlt : s < 2 ^ 2 ^ n - 1
    · rw [decide_eq_true (by omega : (s : Int) < ((2 ^ 2 ^ n - 1 : Nat) : Int)), cond_true, spec_l2Count_eq N s hN (by omega), spec_l2Count_eq N _ hN (by omega), spec_l29Shows_eq N hN n w s hn hw (by omega), w64_succ s (by omega)]
      have h1 := ih (s + 1) (by omega) (by omega)
      simp only [lts] at h1
      by_cases ho : ones s < ones (lts w n s)
      · rw [decide_eq_true (by omega : ((ones s : Nat) : Int) < (ones (lts w n s) : Int)), cond_true]
        rw [decide_eq_true ho, Bool.true_and] at h1
        cases hsh : shows w n s 0 n with
        | true => rw [hsh] at h1; exact h1
        | false => rw [hsh] at h1; exact h1
      · rw [decide_eq_false (by omega : ¬ ((ones s : Nat) : Int) < (ones (lts w n s) : Int)), cond_false]
        rw [decide_eq_false ho, Bool.false_and] at h1
        exact h1
    · have : s = 2 ^ 2 ^ n - 1 := by omega
      rw [decide_eq_false (by omega : ¬ (s : Int) < ((2 ^ 2 ^ n - 1 : Nat) : Int)), cond_false, this]

theorem impl_least_loop (N : Nat) (hN : 64 < N) (n w : Nat) (hn : n ≤ 5) (hw : w < 2 ^ 2 ^ n) (k0 : Int → Option β) :
    ∀ (F s : Nat), 2 ^ 2 ^ n - 1 - s < F → s ≤ 2 ^ 2 ^ n - 1 → impl_LeastTestSet_l0 N F (lts w n s : Int) ((2 ^ 2 ^ n - 1 : Nat) : Int) (s : Int) (n : Int) (w : Int) k0 = k0 (lts w n (2 ^ 2 ^ n - 1) : Int) := by
  have hs := size_le hn
  have hp : 2 ^ 2 ^ n ≤ 4294967296 := (Nat.pow_le_pow_right (by decide) hs : 2 ^ 2 ^ n ≤ 2 ^ 32)
  intro F
  induction F with
  | zero => intro s h; omega
  | succ F ih =>
    intro s hF hi
    have hl := lts_le w n s (by omega)
    simp only [impl_LeastTestSet_l0, impl_LeastTestSet_l0b]
    by_cases hlt : s < 2 ^ 2 ^ n - 1
    · rw [decide_eq_true (by omega : (s : Int) < ((2 ^ 2 ^ n - 1 : Nat) : Int)), cond_true, impl_ones_eq N s (by omega), impl_ones_eq N _ (by omega), impl_tests_eq N hN n w s hn hw (by omega), w64_succ s (by omega)]
      have h1 := ih (s + 1) (by omega) (by omega)
      simp only [lts] at h1
      by_cases ho : ones s < ones (lts w n s)
      · rw [decide_eq_true (by omega : ((ones s : Nat) : Int) < (ones (lts w n s) : Int)), cond_true]
        rw [decide_eq_true ho, Bool.true_and] at h1
        cases hsh : shows w n s 0 n with
        | true => rw [hsh] at h1; exact h1
        | false => rw [hsh] at h1; exact h1
      · rw [decide_eq_false (by omega : ¬ ((ones s : Nat) : Int) < (ones (lts w n s) : Int)), cond_false]
        rw [decide_eq_false ho, Bool.false_and] at h1
        exact h1
    · have : s = 2 ^ 2 ^ n - 1 := by omega
      rw [decide_eq_false (by omega : ¬ (s : Int) < ((2 ^ 2 ^ n - 1 : Nat) : Int)), cond_false, this]

theorem spec_least_elems (N : Nat) (n b : Nat) (hn : n ≤ 5) (hb : b < 4294967296) (w : Int) (k : List Int → Option β) :
    ∀ (F i : Nat), 2 ^ n - i < F → i ≤ 2 ^ n → spec_LeastTestSet_l2 N F (b : Int) (i : Int) (n : Int) w (elems b i) k = k (elems b (2 ^ n)) := by
  have hs := size_le hn
  intro F
  induction F with
  | zero => intro i h; omega
  | succ F ih =>
    intro i hF hi
    have hl := elems_len b i
    simp only [spec_LeastTestSet_l2, spec_LeastTestSet_l2b]
    rw [shl_one n (by omega), decide_eq_true (by omega : (0 : Int) ≤ (n : Int)), gd_true rfl]
    by_cases hlt : i < 2 ^ n
    · rw [decide_eq_true (by omega : (i : Int) < ((2 ^ n : Nat) : Int)), decide_eq_true (by omega : (0 : Int) ≤ (i : Int)), bit_at b i (by omega), bit_one, w64_succ i (by omega), cond_true, gd_true rfl]
      rw [addIf_step (b.testBit i) (elems b i) (i : Int) (by omega) (fun l => spec_LeastTestSet_l2 N F (b : Int) ((i + 1 : Nat) : Int) (n : Int) w l k)]
      exact ih (i + 1) (by omega) (by omega)
    · rw [decide_eq_false (by omega : ¬ (i : Int) < ((2 ^ n : Nat) : Int)), cond_false, show i = 2 ^ n by omega]

def smallT (a0 a1 m : Int) : Bool := isT a0 a1 && decide (a0 ≤ m)
theorem impl_isSmall_eq (N : Nat) (a0 a1 m : Int) (h1 : a1 < 9223372036854775808) (k : Bool → Option β) : impl_isSmall N a0 a1 m k = k (smallT a0 a1 m) := by
  unfold impl_isSmall smallT
  rw [impl_IsTable_eq N a0 a1 h1]
  cases isT a0 a1 <;> rfl
def leastTests (a0 a1 : Int) : List Int := if smallT a0 a1 3 then elems (lts a1.toNat a0.toNat (2 ^ 2 ^ a0.toNat - 1)) 32 else []
theorem leastTests_len (a0 a1 : Int) : (leastTests a0 a1).length ≤ 32 := by
  unfold leastTests
  split
  · exact elems_len _ _
  · simp

theorem pow_small {n : Nat} (h : n ≤ 3) : 2 ^ 2 ^ n ≤ 256 := by
  have : 2 ^ n ≤ 8 := Nat.le_trans (Nat.pow_le_pow_right (by decide) h) (by decide)
  exact Nat.le_trans (Nat.pow_le_pow_right (by decide) this) (by decide)

theorem spec_LeastTestSet_eq (N : Nat) (hN : 1048576 < N) (a0 a1 : Int) (k : List Int → Bool → Option β) : spec_LeastTestSet N a0 a1 k = k (leastTests a0 a1) (smallT a0 a1 3) := by
  unfold spec_LeastTestSet leastTests smallT
  rw [spec_IsTable_eq]
  cases ht : isT a0 a1 with
  | false => rfl
  | true =>
    obtain ⟨n, w, rfl, rfl, hn, hw, hw'⟩ := isT_nat ht
    by_cases h3 : n ≤ 3
    · have hs := size_le hn
      have hp := pow_small h3
      have hle := lts_le w n (2 ^ 2 ^ n - 1) (by omega)
      have hpos := Nat.two_pow_pos (2 ^ n)
      rw [Bool.not_true, cond_false, decide_eq_false (by omega : ¬ (n : Int) > 3), cond_false, spec_l2Full_eq N n hn, decide_eq_true (by omega : (n : Int) ≤ 3)]
      have e := fun k0 => spec_least_loop (β := β) N (by omega) n w hn hw k0 N 0 (by omega) (Nat.zero_le _)
      simp only [lts, Int.natCast_zero] at e
      rw [e]
      have e2 := spec_least_elems N n (lts w n (2 ^ 2 ^ n - 1)) hn (by omega) w (fun e9 => k e9 true) N 0 (by omega) (Nat.zero_le _)
      have hlt : lts w n (2 ^ 2 ^ n - 1) < 2 ^ 2 ^ n := by omega
      have e3 := elems_more _ _ hlt (32 - 2 ^ n)
      rw [show 2 ^ n + (32 - 2 ^ n) = 32 by omega] at e3
      simp only [Bool.and_self, if_true, Int.toNat_natCast]
      rw [e3]
      exact e2
    · rw [Bool.not_true, cond_false, decide_eq_true (by omega : (n : Int) > 3), cond_true, decide_eq_false (by omega : ¬ (n : Int) ≤ 3)]
      rfl

theorem impl_LeastTestSet_eq (N : Nat) (hN : 1048576 < N) (a0 a1 : Int) (h1 : a1 < 9223372036854775808) (k : List Int → Bool → Option β) : impl_LeastTestSet N a0 a1 k = k (leastTests a0 a1) (smallT a0 a1 3) := by
  unfold impl_LeastTestSet leastTests
  rw [impl_isSmall_eq N a0 a1 3 h1]
  cases hsm : smallT a0 a1 3 with
  | false => rfl
  | true =>
    have h := hsm
    simp only [smallT, Bool.and_eq_true, decide_eq_true_eq] at h
    obtain ⟨n, w, rfl, rfl, hn, hw, hw'⟩ := isT_nat h.1
    have h3 : n ≤ 3 := by omega
    have hs := size_le hn
    have hp := pow_small h3
    have hle := lts_le w n (2 ^ 2 ^ n - 1) (by omega)
    have hpos := Nat.two_pow_pos (2 ^ n)
    have hw1 : w64 (((2 ^ 2 ^ n : Nat) : Int) - 1) = ((2 ^ 2 ^ n - 1 : Nat) : Int) := by rw [w64_id (by omega) (by omega)]; omega
    unfold impl_Table_size
    rw [Bool.not_true, cond_false, shl_one n (by omega), decide_eq_true (by omega : (0 : Int) ≤ (n : Int)), gd_true rfl]
    have hz : decide ((0 : Int) ≤ ((2 ^ n : Nat) : Int)) = true := decide_eq_true (Int.natCast_nonneg (2 ^ n))
    simp only [hz, gd_true rfl, shl_one (2 ^ n) (show 2 ^ n ≤ 62 by omega), hw1]
    have e := fun k0 => impl_least_loop (β := β) N (by omega) n w hn hw k0 N 0 (by omega) (Nat.zero_le _)
    simp only [lts, Int.natCast_zero] at e
    rw [e, impl_elements_eq N (by omega) _ (by omega)]
    simp
end Go.Proofs.Ytdkjnadhgdneaaa
