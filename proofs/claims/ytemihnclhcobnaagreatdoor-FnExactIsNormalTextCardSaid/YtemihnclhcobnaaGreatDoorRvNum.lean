/- Numbers: what the machine's integer operations are on small natural numbers. -/
import Derived.Test.YtemihnclhcobnaaGreatDoorRvUse
import Derived.Laws.BitsLemmas
namespace Go.Rv
set_option linter.unusedSimpArgs false

theorem bp {x : Int} (h1 : -9223372036854775808 <= x) (h2 : x < 9223372036854775808) : w64 x = x := by
 show IntKind.wrap .i64 x = x
 rw [alG]
 omega
theorem sb (n : Nat) (h : n < 9223372036854775808) : w64 (n : Int) = n := bp (by omega) (by omega)
theorem aw (n : Nat) (h : n < 9223372036854775807) : w64 ((n : Int) + 1) = ((n + 1 : Nat) : Int) := by rw [bp] <;> omega

theorem ab {β : Type} {b : Bool} {x : Option β} (h : b = true) : gd b x = x := by rw [h]; rfl

theorem Of {α : Type} (d : α) (l : List α) (i : Nat) (h : i < l.length) : rd d l (i : Int) = l[i] := by
 simp [rd, List.getD, amF h]

theorem dX (n : Int) (h0 : 0 <= n) (h1 : n < 2 ^ 63) : IntKind.i64.wrap n = n := by
 rw [alG]
 have : (2 : Int) ^ 63 = 9223372036854775808 := by decide
 omega

section
variable (a b : Nat) (ha : a < 2 ^ 63) (hb : b < 2 ^ 63)
include ha hb
theorem bAnd : bits .and .i64 (a : Int) (b : Int) = ((a &&& b : Nat) : Int) := (bits_nat .i64 63 (by decide) dX a b ha hb).1
theorem bOr : bits .or .i64 (a : Int) (b : Int) = ((a ||| b : Nat) : Int) := (bits_nat .i64 63 (by decide) dX a b ha hb).2
theorem RN : bits .xor .i64 (a : Int) (b : Int) = ((a ^^^ b : Nat) : Int) := by
 have e : IntKind.i64.bits = 64 := rfl
 simp only [bits, BitVec.ofInt_natCast, BitVec.toNat_xor, BitVec.toNat_ofNat, e]
 rw [alf (by omega : a < 2 ^ 64), alf (by omega : b < 2 ^ 64)]
 exact dX _ (akj _) (by exact_mod_cast Nat.xor_lt_two_pow ha hb)
theorem RM : bits .andNot .i64 (a : Int) (b : Int) = ((a ^^^ (a &&& b) : Nat) : Int) := by
 have e : IntKind.i64.bits = 64 := rfl
 simp only [bits, BitVec.ofInt_natCast, BitVec.toNat_and, BitVec.toNat_not, BitVec.toNat_ofNat, e]
 rw [alf (by omega : a < 2 ^ 64), alf (by omega : b < 2 ^ 64)]
 have : a &&& (2 ^ 64 - 1 - b) = a ^^^ (a &&& b) := by
  apply aky
  intro i
  rw [akX, alP, akX, show 2 ^ 64 - 1 - b = 2 ^ 64 - (b + 1) by omega, Nat.testBit_two_pow_sub_succ (by omega)]
  by_cases hi : i < 64
  ·simp only [hi, decide_true, aj9]
   cases a.testBit i <;> cases b.testBit i <;> rfl
  ·have : a.testBit i = false := alW (aka ha (aj7 (by decide) (by omega)))
   simp [this]
 rw [this]
 exact dX _ (akj _) (by exact_mod_cast Nat.xor_lt_two_pow ha (alb _ hb))
end

theorem rY (a n : Nat) (hn : n <= 64) (h : a * 2 ^ n < 9223372036854775808) : aW .i64 (a : Int) (n : Int) = ((a * 2 ^ n : Nat) : Int) := by
 have e : IntKind.i64.bits = 64 := rfl
 simp only [aW, akc, e, Nat.min_eq_left hn]
 rw [show (a : Int) * 2 ^ n = ((a * 2 ^ n : Nat) : Int) by simp]
 rw [alG]
 omega
theorem Hw (a n : Nat) (h : a < 9223372036854775808) : cW .i64 (a : Int) (n : Int) = ((a / 2 ^ n : Nat) : Int) := by
 have e : IntKind.i64.bits = 64 := rfl
 simp only [cW, akc, e]
 by_cases hn : n <= 64
 ·rw [Nat.min_eq_left hn]; simp
 ·rw [Nat.min_eq_right (by omega)]
  have h1 : a / 2 ^ n = 0 := Nat.div_eq_of_lt (aka h (akz (by decide : 9223372036854775808 <= 2 ^ 64) (aj7 (by decide) (by omega))))
  rw [h1]
  omega
end Go.Rv
