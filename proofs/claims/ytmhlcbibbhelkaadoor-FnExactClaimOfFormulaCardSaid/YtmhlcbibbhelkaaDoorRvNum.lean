/- Numbers: what the machine's integer operations are on small natural numbers. -/
import Derived.Test.YtmhlcbibbhelkaaDoorRvUse
import Derived.Laws.BitsLemmas
namespace Go.Rv

theorem w64_id {x : Int} (h1 : -9223372036854775808 ≤ x) (h2 : x < 9223372036854775808) : w64 x = x := by
  show IntKind.wrap .i64 x = x
  rw [IntKind.wrap_i64]
  omega
theorem w64_succ (n : Nat) (h : n < 9223372036854775807) : w64 ((n : Int) + 1) = ((n + 1 : Nat) : Int) := by rw [w64_id] <;> omega

theorem gd_true {β : Type} {b : Bool} {x : Option β} (h : b = true) : gd b x = x := by rw [h]; rfl

theorem rd_nat {α : Type} (d : α) (l : List α) (i : Nat) (h : i < l.length) : rd d l (i : Int) = l[i] := by
  simp [rd, List.getD, List.getElem?_eq_getElem h]

theorem wrap_small (n : Int) (h0 : 0 ≤ n) (h1 : n < 2 ^ 63) : IntKind.i64.wrap n = n := by
  rw [IntKind.wrap_i64]
  have : (2 : Int) ^ 63 = 9223372036854775808 := by decide
  omega

section
variable (a b : Nat) (ha : a < 2 ^ 63) (hb : b < 2 ^ 63)
include ha hb
theorem bAnd : bits .and .i64 (a : Int) (b : Int) = ((a &&& b : Nat) : Int) := (bits_nat .i64 63 (by decide) wrap_small a b ha hb).1
theorem bOr : bits .or .i64 (a : Int) (b : Int) = ((a ||| b : Nat) : Int) := (bits_nat .i64 63 (by decide) wrap_small a b ha hb).2
theorem bXor : bits .xor .i64 (a : Int) (b : Int) = ((a ^^^ b : Nat) : Int) := by
  have e : IntKind.i64.bits = 64 := rfl
  simp only [bits, BitVec.ofInt_natCast, BitVec.toNat_xor, BitVec.toNat_ofNat, e]
  rw [Nat.mod_eq_of_lt (by omega : a < 2 ^ 64), Nat.mod_eq_of_lt (by omega : b < 2 ^ 64)]
  exact wrap_small _ (Int.natCast_nonneg _) (by exact_mod_cast Nat.xor_lt_two_pow ha hb)
end

theorem shl_nat (a n : Nat) (hn : n ≤ 64) (h : a * 2 ^ n < 9223372036854775808) : shlI .i64 (a : Int) (n : Int) = ((a * 2 ^ n : Nat) : Int) := by
  have e : IntKind.i64.bits = 64 := rfl
  simp only [shlI, Int.toNat_natCast, e, Nat.min_eq_left hn]
  rw [show (a : Int) * 2 ^ n = ((a * 2 ^ n : Nat) : Int) by simp]
  rw [IntKind.wrap_i64]
  omega
theorem shr_nat (a n : Nat) (h : a < 9223372036854775808) : shrI .i64 (a : Int) (n : Int) = ((a / 2 ^ n : Nat) : Int) := by
  have e : IntKind.i64.bits = 64 := rfl
  simp only [shrI, Int.toNat_natCast, e]
  by_cases hn : n ≤ 64
  · rw [Nat.min_eq_left hn]; simp
  · rw [Nat.min_eq_right (by omega)]
    have h1 : a / 2 ^ n = 0 := Nat.div_eq_of_lt (Nat.lt_of_lt_of_le h (Nat.le_trans (by decide : 9223372036854775808 ≤ 2 ^ 64) (Nat.pow_le_pow_right (by decide) (by omega))))
    rw [h1]
    omega
end Go.Rv
