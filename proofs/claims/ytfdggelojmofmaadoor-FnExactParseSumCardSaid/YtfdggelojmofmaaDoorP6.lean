/- Plain laws of the texts: the faults that an input detects are listed alike. -/
import Derived.Test.YtfdggelojmofmaaDoorP5
namespace Go.Proofs.YtfdggelojmofmaaDoor
open Go.Rv
set_option linter.unusedVariables false
variable {β : Type}
/-- Whether an input tells a stuck one apart. -/
def sees (w n x i b : Nat) : Bool := (w ^^^ tabw (fun x => w.testBit (ys x i b)) (2 ^ n)).testBit x
def addIf (c : Bool) (l : List Int) (v : Int) : List Int := if c then l ++ [v] else l
/-- The faults seen at an input. -/
def seen (w n x : Nat) : Nat → List Int
  | 0 => []
  | i + 1 => addIf (sees w n x i 1) (addIf (sees w n x i 0) (seen w n x i) ((2 * i : Nat) : Int)) ((2 * i + 1 : Nat) : Int)
theorem addIf_len (c : Bool) (l : List Int) (v : Int) : (addIf c l v).length ≤ l.length + 1 := by unfold addIf; split <;> simp
theorem seen_len (w n x : Nat) : ∀ i, (seen w n x i).length ≤ 2 * i
  | 0 => by simp [seen]
  | i + 1 => by
    have h1 := seen_len w n x i
    have h2 := addIf_len (sees w n x i 0) (seen w n x i) ((2 * i : Nat) : Int)
    have h3 := addIf_len (sees w n x i 1) (addIf (sees w n x i 0) (seen w n x i) ((2 * i : Nat) : Int)) ((2 * i + 1 : Nat) : Int)
    show (addIf _ (addIf _ _ _) _).length ≤ _
    omega

theorem bit_one (c : Bool) : (((if c then 1 else 0 : Nat) : Int) == 1) = c := by cases c <;> rfl

theorem spec_bit (w t x : Nat) (hw : w < 4294967296) (ht : t < 4294967296) : (bits .and .i64 (bits .xor .i64 (shrI .i64 (w : Int) (x : Int)) (shrI .i64 (t : Int) (x : Int))) 1 == 1) = (w ^^^ t).testBit x := by
  have h1 : w / 2 ^ x < 2 ^ 63 := Nat.lt_of_le_of_lt (Nat.div_le_self _ _) (by omega)
  have h2 : t / 2 ^ x < 2 ^ 63 := Nat.lt_of_le_of_lt (Nat.div_le_self _ _) (by omega)
  rw [shr_nat w x (by omega), shr_nat t x (by omega), bXor _ _ h1 h2]
  have h3 : w / 2 ^ x ^^^ t / 2 ^ x < 2 ^ 63 := Nat.xor_lt_two_pow h1 h2
  have h4 := bit_at (w / 2 ^ x ^^^ t / 2 ^ x) 0 (by omega)
  have h5 : shrI .i64 ((w / 2 ^ x ^^^ t / 2 ^ x : Nat) : Int) ((0 : Nat) : Int) = ((w / 2 ^ x ^^^ t / 2 ^ x : Nat) : Int) := by
    rw [shr_nat _ 0 (by omega)]; simp
  rw [h5] at h4
  rw [h4, bit_one]
  rw [Nat.testBit_xor, Nat.testBit_xor]
  have e : ∀ m : Nat, (m / 2 ^ x).testBit 0 = m.testBit x := fun m => by
    rw [Nat.testBit_zero, Nat.testBit, Nat.shiftRight_eq_div_pow, Nat.and_comm, Nat.and_one_is_mod]
    have := Nat.mod_two_eq_zero_or_one (m / 2 ^ x)
    rcases this with h | h <;> simp [h]
  rw [e, e]

theorem isT_of {n w : Nat} (hn : n ≤ 5) (hw : w < 2 ^ 2 ^ n) : isT (n : Int) (w : Int) = true := by
  simp only [isT, Bool.and_eq_true, decide_eq_true_eq, Int.toNat_natCast]
  refine ⟨⟨⟨by omega, by omega⟩, by omega⟩, ?_⟩
  rw [show ((2 : Int) ^ 2 ^ n) = ((2 ^ 2 ^ n : Nat) : Int) by simp]
  omega

/-- Whether a number is an input. -/
def isIn (a0 a1 a2 : Int) : Bool := isT a0 a1 && decide (0 ≤ a2) && decide (a2 < 2 ^ a0.toNat)

/-- The faults seen, of whatever is handed. -/
def detectedBy (a0 a1 a2 : Int) : List Int := if isIn a0 a1 a2 then seen a1.toNat a0.toNat a2.toNat a0.toNat else []

theorem isIn_nat {a0 a1 a2 : Int} (h : isIn a0 a1 a2 = true) : ∃ n w x : Nat, a0 = n ∧ a1 = w ∧ a2 = x ∧ n ≤ 5 ∧ w < 2 ^ 2 ^ n ∧ w < 4294967296 ∧ x < 2 ^ n := by
  unfold isIn at h
  simp only [Bool.and_eq_true, decide_eq_true_eq] at h
  obtain ⟨⟨ht, h0⟩, h1⟩ := h
  obtain ⟨n, w, rfl, rfl, hn, hw, hw'⟩ := isT_nat ht
  refine ⟨n, w, a2.toNat, rfl, rfl, by omega, hn, hw, hw', ?_⟩
  rw [Int.toNat_natCast, show ((2 : Int) ^ n) = ((2 ^ n : Nat) : Int) by simp] at h1
  omega

theorem detectedBy_len (a0 a1 a2 : Int) : (detectedBy a0 a1 a2).length ≤ 10 := by
  unfold detectedBy
  split
  · rename_i h
    obtain ⟨n, w, x, rfl, rfl, rfl, hn, -, -, -⟩ := isIn_nat h
    have := seen_len (w : Int).toNat (n : Int).toNat (x : Int).toNat (n : Int).toNat
    simp only [Int.toNat_natCast] at this ⊢
    omega
  · simp
end Go.Proofs.YtfdggelojmofmaaDoor
