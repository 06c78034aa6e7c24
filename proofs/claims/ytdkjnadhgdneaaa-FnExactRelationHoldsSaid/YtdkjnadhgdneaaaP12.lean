/- Plain laws of the texts: inputs that are drawn: each draw ends, with something. -/
import Derived.Test.YtdkjnadhgdneaaaP11
namespace Go.Proofs.Ytdkjnadhgdneaaa
open Go.Rv

variable {β : Type}
theorem and_mask (x : Int) (m : Nat) (hm : m < 9223372036854775808) : ∃ r : Nat, bits .and .i64 x (m : Int) = r ∧ r ≤ m := by
  refine ⟨((BitVec.ofInt 64 x) &&& (BitVec.ofInt 64 (m : Int))).toNat, ?_, ?_⟩
  · have h : ((BitVec.ofInt 64 x) &&& (BitVec.ofInt 64 (m : Int))).toNat ≤ m := by
      rw [BitVec.toNat_and, BitVec.ofInt_natCast, BitVec.toNat_ofNat, Nat.mod_eq_of_lt (by omega : m < 2 ^ 64)]
      exact Nat.and_le_right
    have h63 : (2 : Int) ^ 63 = 9223372036854775808 := by decide
    have key : ∀ r : Nat, r ≤ m → IntKind.i64.wrap (r : Int) = r := fun r hr => wrap_small _ (by omega) (by omega)
    exact key _ h
  · rw [BitVec.toNat_and, BitVec.ofInt_natCast, BitVec.toNat_ofNat, Nat.mod_eq_of_lt (by omega : m < 2 ^ 64)]
    exact Nat.and_le_right

theorem bits_top (op : BinOp) (x y : Int) : bits op .i64 x y < 9223372036854775808 := by
  show IntKind.i64.wrap _ < _
  rw [IntKind.wrap_i64]
  omega
end Go.Proofs.Ytdkjnadhgdneaaa
