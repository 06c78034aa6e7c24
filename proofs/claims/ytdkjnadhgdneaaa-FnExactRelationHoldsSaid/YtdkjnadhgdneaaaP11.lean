/- Plain laws of the texts: least test sets, and the claims of them. -/
import Derived.Test.YtdkjnadhgdneaaaP10
namespace Go.Proofs.Ytdkjnadhgdneaaa
open Go.Rv
set_option linter.unusedVariables false
variable {β : Type}
theorem spec_l2Full_eq (N n : Nat) (hn : n ≤ 5) (k : Int → Option β) : spec_l2Full N (n : Int) k = k ((2 ^ 2 ^ n - 1 : Nat) : Int) := by
  have hs := size_le hn
  have hp : 2 ^ 2 ^ n < 9223372036854775808 := pow_le_64 (by omega)
  have h1 := Nat.two_pow_pos (2 ^ n)
  unfold spec_l2Full
  rw [shl_u64 n hn, shl_one (2 ^ n) (by omega), decide_eq_true (by omega : (0 : Int) ≤ (n : Int)), decide_eq_true (Int.natCast_nonneg (2 ^ n)), gd_true rfl, gd_true rfl, w64_id (by omega) (by omega)]
  congr 1
  omega

/-- The least test set, as far as looked. -/
def lts (w n : Nat) : Nat → Nat
  | 0 => 2 ^ 2 ^ n - 1
  | s + 1 => if decide (ones s < ones (lts w n s)) && shows w n s 0 n then s else lts w n s
theorem lts_le (w n : Nat) : ∀ s, s ≤ 2 ^ 2 ^ n → lts w n s ≤ 2 ^ 2 ^ n - 1
  | 0, _ => Nat.le_refl _
  | s + 1, h => by
    have := lts_le w n s (by omega)
    simp only [lts]
    split <;> omega

def smallT (a0 a1 m : Int) : Bool := isT a0 a1 && decide (a0 ≤ m)
theorem impl_isSmall_eq (N : Nat) (a0 a1 m : Int) (h1 : a1 < 9223372036854775808) (k : Bool → Option β) : impl_isSmall N a0 a1 m k = k (smallT a0 a1 m) := by
  unfold impl_isSmall smallT
  rw [impl_IsTable_eq N a0 a1 h1]
  cases isT a0 a1 <;> rfl
def leastTests (a0 a1 : Int) : List Int := if smallT a0 a1 3 then elems (lts a1.toNat a0.toNat (2 ^ 2 ^ a0.toNat - 1)) 32 else []
theorem leastTests_len (a0 a1 : Int) : (leastTests a0 a1).length ≤ 32 := by
  unfold leastTests
  split
  · exact elems_len _ _
  · simp

theorem pow_small {n : Nat} (h : n ≤ 3) : 2 ^ 2 ^ n ≤ 256 := by
  have : 2 ^ n ≤ 8 := Nat.le_trans (Nat.pow_le_pow_right (by decide) h) (by decide)
  exact Nat.le_trans (Nat.pow_le_pow_right (by decide) this) (by decide)
end Go.Proofs.Ytdkjnadhgdneaaa
