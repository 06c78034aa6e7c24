/- Plain laws of the texts: tables; a table with a stuck input. -/
import Derived.Test.YtfdggelojmofmaaDoorP1
import Derived.Test.YtfdggelojmofmaaDoorRvNum
namespace Go.Proofs.YtfdggelojmofmaaDoor
open Go.Rv
set_option linter.unusedVariables false
variable {β : Type}
/-- A table's word, input by input. -/
def tabw (g : Nat → Bool) : Nat → Nat
  | 0 => 0
  | i + 1 => tabw g i ||| (if g i then 2 ^ i else 0)
theorem tabw_lt (g : Nat → Bool) : ∀ i, tabw g i < 2 ^ i
  | 0 => by simp [tabw]
  | i + 1 => by
    have := tabw_lt g i
    unfold tabw
    have h2 : 2 ^ (i + 1) = 2 ^ i + 2 ^ i := by rw [Nat.pow_succ]; omega
    refine Nat.or_lt_two_pow (by omega) ?_
    split
    · have := Nat.two_pow_pos i; omega
    · exact Nat.two_pow_pos _
theorem tabw_congr {g h : Nat → Bool} : ∀ {n : Nat}, (∀ i, i < n → g i = h i) → tabw g n = tabw h n
  | 0, _ => rfl
  | n + 1, e => by
    unfold tabw
    rw [tabw_congr (n := n) fun i hi => e i (by omega), e n (by omega)]

theorem pow_le_64 {n : Nat} (h : n ≤ 62) : 2 ^ n < 9223372036854775808 := Nat.lt_of_le_of_lt (Nat.pow_le_pow_right (by decide) h) (by decide)
theorem size_le {n : Nat} (h : n ≤ 5) : 2 ^ n ≤ 32 := Nat.le_trans (Nat.pow_le_pow_right (by decide) h) (by decide)

theorem shl_one (n : Nat) (h : n ≤ 62) : shlI .i64 1 (n : Int) = ((2 ^ n : Nat) : Int) := by
  have := shl_nat 1 n (by omega) (by rw [Nat.one_mul]; exact pow_le_64 h)
  rw [Nat.one_mul] at this
  exact this

def ys (x i b : Nat) : Nat := x - (x &&& 2 ^ i) + b * 2 ^ i
theorem ys_eq : ∀ x, x < 32 → ∀ i, i < 5 → ∀ b, b < 2 → ys x i b = (x ^^^ (x &&& 2 ^ i)) ||| (b * 2 ^ i) ∧ ys x i b < 64 ∧ (x &&& 2 ^ i) ≤ x ∧ (x ^^^ (x &&& 2 ^ i)) < 32 := by decide +kernel

/-- A bit of a word, as the program takes it. -/
theorem bit_at (w y : Nat) (hw : w < 9223372036854775808) : bits .and .i64 (shrI .i64 (w : Int) (y : Int)) 1 = ((if w.testBit y then 1 else 0 : Nat) : Int) := by
  rw [shr_nat w y hw]
  have h1 : w / 2 ^ y < 2 ^ 63 := Nat.lt_of_le_of_lt (Nat.div_le_self _ _) hw
  have := bAnd (w / 2 ^ y) 1 h1 (by decide)
  rw [show ((1 : Nat) : Int) = 1 from rfl] at this
  rw [this, Nat.and_one_is_mod]
  congr 1
  rw [Nat.testBit, Nat.shiftRight_eq_div_pow, Nat.and_comm, Nat.and_one_is_mod]
  have := Nat.mod_two_eq_zero_or_one (w / 2 ^ y)
  rcases this with h | h <;> simp [h]

/-- What a table is. -/
def isT (a0 a1 : Int) : Bool := decide (0 ≤ a0) && decide (a0 ≤ 5) && decide (0 ≤ a1) && decide (a1 < 2 ^ 2 ^ a0.toNat)

theorem isT_nat {a0 a1 : Int} (h : isT a0 a1 = true) : ∃ n w : Nat, a0 = n ∧ a1 = w ∧ n ≤ 5 ∧ w < 2 ^ 2 ^ n ∧ w < 4294967296 := by
  simp only [isT, Bool.and_eq_true, decide_eq_true_eq] at h
  obtain ⟨⟨⟨h1, h2⟩, h3⟩, h4⟩ := h
  obtain ⟨n, rfl⟩ := Int.eq_ofNat_of_zero_le h1
  obtain ⟨w, rfl⟩ := Int.eq_ofNat_of_zero_le h3
  simp only [Int.toNat_natCast] at h4
  have h5 : w < 2 ^ 2 ^ n := by exact_mod_cast h4
  have h6 : 2 ^ 2 ^ n ≤ 2 ^ 32 := Nat.pow_le_pow_right (by decide) (size_le (by omega))
  exact ⟨n, w, rfl, rfl, by omega, h5, by omega⟩

theorem shl_u64 : ∀ n : Nat, n ≤ 5 → shlI .u64 1 (n : Int) = ((2 ^ n : Nat) : Int) := by decide +kernel
end Go.Proofs.YtfdggelojmofmaaDoor
