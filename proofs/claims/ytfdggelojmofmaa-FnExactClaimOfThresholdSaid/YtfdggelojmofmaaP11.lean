/- Plain laws of the texts: least test sets, and the claims of them. -/
import Derived.Test.YtfdggelojmofmaaP10
namespace Go.Proofs.Ytfdggelojmofmaa
open Go.Rv
set_option linter.unusedVariables false
variable {β : Type}
/-- The least test set, as far as looked. -/
def lts (w n : Nat) : Nat → Nat
  | 0 => 2 ^ 2 ^ n - 1
  | s + 1 => if decide (ones s < ones (lts w n s)) && shows w n s 0 n then s else lts w n s
theorem lts_le (w n : Nat) : ∀ s, s ≤ 2 ^ 2 ^ n → lts w n s ≤ 2 ^ 2 ^ n - 1
  | 0, _ => Nat.le_refl _
  | s + 1, h => by
    have := lts_le w n s (by omega)
    simp only [lts]
    split <;> omega

def smallT (a0 a1 m : Int) : Bool := isT a0 a1 && decide (a0 ≤ m)
theorem impl_isSmall_eq (N : Nat) (a0 a1 m : Int) (h1 : a1 < 9223372036854775808) (k : Bool → Option β) : impl_isSmall N a0 a1 m k = k (smallT a0 a1 m) := by
  unfold impl_isSmall smallT
  rw [impl_IsTable_eq N a0 a1 h1]
  cases isT a0 a1 <;> rfl
def leastTests (a0 a1 : Int) : List Int := if smallT a0 a1 3 then elems (lts a1.toNat a0.toNat (2 ^ 2 ^ a0.toNat - 1)) 32 else []
theorem leastTests_len (a0 a1 : Int) : (leastTests a0 a1).length ≤ 32 := by
  unfold leastTests
  split
  · exact elems_len _ _
  · simp

theorem pow_small {n : Nat} (h : n ≤ 3) : 2 ^ 2 ^ n ≤ 256 := by
  have : 2 ^ n ≤ 8 := Nat.le_trans (Nat.pow_le_pow_right (by decide) h) (by decide)
  exact Nat.le_trans (Nat.pow_le_pow_right (by decide) this) (by decide)

theorem laws_markClaim_eq (N : Nat) (a b c d e : Int) (s : ByteArray) (l : List Int) (hl : l.length ≤ 1048576) (hN : 1048576 < N) (k : Int → List Int → Option β) :
    laws_markClaim N a b c d e s l 1 k = k ((1 + l.length : Nat) : Int) (marks 1 l.length) := by
  unfold laws_markClaim
  exact laws_markIntS_eq N l 1 hl (by omega) hN _
theorem laws_heldClaim_eq (N : Nat) (a b c d e : Int) (s : ByteArray) (n : Nat) (hn : n ≤ 1048576) (hN : 1048576 < N) (k : Int → Option β) :
    laws_heldClaim N a b c d e s (marks 1 n) 1 k = k ((1 + n : Nat) : Int) := by
  unfold laws_heldClaim
  have := laws_heldIntS_eq (β := β) N 1 n hn (by omega) hN fun r5 => cond (decide (r5 < 0)) (k (-1)) (k r5)
  simp only [Int.natCast_one] at this
  rw [this, decide_eq_false (by omega)]
  rfl
end Go.Proofs.Ytfdggelojmofmaa
