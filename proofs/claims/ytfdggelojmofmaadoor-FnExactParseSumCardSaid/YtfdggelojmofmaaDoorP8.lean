/- Plain laws of the texts: the ones of a word are counted alike. -/
import Derived.Test.YtfdggelojmofmaaDoorP7
namespace Go.Proofs.YtfdggelojmofmaaDoor
open Go.Rv
set_option linter.unusedVariables false
variable {β : Type}
/-- How many ones a number has, of at most so many bits. -/
def pc : Nat → Nat → Nat
  | 0, _ => 0
  | f + 1, w => w % 2 + pc f (w / 2)
theorem pc_le : ∀ f w, pc f w ≤ f
  | 0, _ => Nat.le_refl _
  | f + 1, w => by have := pc_le f (w / 2); simp only [pc]; omega
theorem pc_split : ∀ (j f c y : Nat), c < 2 ^ j → pc (j + f) (c + 2 ^ j * y) = pc j c + pc f y
  | 0, f, c, y, h => by
    have : c = 0 := by simpa using h
    subst this
    simp [pc]
  | j + 1, f, c, y, h => by
    rw [show j + 1 + f = (j + f) + 1 by omega]
    simp only [pc]
    have e : 2 ^ (j + 1) * y = 2 * (2 ^ j * y) := by rw [Nat.pow_succ]; rw [Nat.mul_comm (2 ^ j) 2, Nat.mul_assoc]
    rw [e, show (c + 2 * (2 ^ j * y)) % 2 = c % 2 by omega, show (c + 2 * (2 ^ j * y)) / 2 = c / 2 + 2 ^ j * y by omega, pc_split j f (c / 2) y (by rw [Nat.pow_succ] at h; omega)]
    omega
/-- The ones of a word. -/
def ones (w : Nat) : Nat := pc 32 w
theorem ones_le (w : Nat) : ones w ≤ 32 := pc_le 32 w
theorem ones_bytes (c0 c1 c2 c3 : Nat) (h0 : c0 < 256) (h1 : c1 < 256) (h2 : c2 < 256) (h3 : c3 < 256) : ones (c0 + 256 * (c1 + 256 * (c2 + 256 * c3))) = pc 8 c0 + (pc 8 c1 + (pc 8 c2 + pc 8 c3)) := by
  unfold ones
  rw [show (32 : Nat) = 8 + 24 from rfl, show (256 : Nat) = 2 ^ 8 from rfl, pc_split 8 24 c0 _ h0, show (24 : Nat) = 8 + 16 from rfl, pc_split 8 16 c1 _ h1, show (16 : Nat) = 8 + 8 from rfl, pc_split 8 8 c2 _ h2]

theorem and_byte (c y m M : Nat) (hc : c < 256) (hm : m < 256) : (c + 256 * y) &&& (m + 256 * M) = (c &&& m) + 256 * (y &&& M) := by
  have h1 : ((c + 256 * y) &&& (m + 256 * M)) % 2 ^ 8 = (c + 256 * y) % 2 ^ 8 &&& (m + 256 * M) % 2 ^ 8 := Nat.and_mod_two_pow
  have h2 : ((c + 256 * y) &&& (m + 256 * M)) / 2 ^ 8 = (c + 256 * y) / 2 ^ 8 &&& (m + 256 * M) / 2 ^ 8 := Nat.and_div_two_pow
  rw [show (c + 256 * y) % 2 ^ 8 = c by omega, show (m + 256 * M) % 2 ^ 8 = m by omega] at h1
  rw [show (c + 256 * y) / 2 ^ 8 = y by omega, show (m + 256 * M) / 2 ^ 8 = M by omega] at h2
  omega
theorem byte1 : ∀ c, c < 128 → ∀ b, b < 2 → (c + 128 * b) &&& 85 = c &&& 85 := by decide +kernel
theorem byte2 : ∀ c, c < 64 → ∀ b, b < 4 → (c + 64 * b) &&& 51 = c &&& 51 := by decide +kernel
theorem byte3 : ∀ c, c < 74 → ∀ b, b < 5 → (c + 16 * b) &&& 15 = c &&& 15 := by decide +kernel
theorem step1 (c y M : Nat) (hc : c < 256) : ((c + 256 * y) / 2 &&& (85 + 256 * M)) + ((c + 256 * y) &&& (85 + 256 * M)) = ((c / 2 &&& 85) + (c &&& 85)) + 256 * ((y / 2 &&& M) + (y &&& M)) := by
  rw [show (c + 256 * y) / 2 = (c / 2 + 128 * (y % 2)) + 256 * (y / 2) by omega, and_byte _ _ _ _ (by omega) (by omega), and_byte _ _ _ _ hc (by omega), byte1 _ (by omega) _ (by omega)]
  omega
theorem step2 (c y M : Nat) (hc : c < 256) : ((c + 256 * y) / 4 &&& (51 + 256 * M)) + ((c + 256 * y) &&& (51 + 256 * M)) = ((c / 4 &&& 51) + (c &&& 51)) + 256 * ((y / 4 &&& M) + (y &&& M)) := by
  rw [show (c + 256 * y) / 4 = (c / 4 + 64 * (y % 4)) + 256 * (y / 4) by omega, and_byte _ _ _ _ (by omega) (by omega), and_byte _ _ _ _ hc (by omega), byte2 _ (by omega) _ (by omega)]
  omega
theorem step3 (c y M : Nat) (hc : c ≤ 68) (hy : y % 16 ≤ 4) : ((c + 256 * y) / 16 + (c + 256 * y)) &&& (15 + 256 * M) = ((c / 16 + c) &&& 15) + 256 * ((y / 16 + y) &&& M) := by
  rw [show (c + 256 * y) / 16 + (c + 256 * y) = ((c / 16 + c) + 16 * (y % 16)) + 256 * (y / 16 + y) by omega, and_byte _ _ _ _ (by omega) (by omega), byte3 _ (by omega) _ (by omega)]
def q1 (c : Nat) : Nat := (c / 2 &&& 85) + (c &&& 85)
def q2 (c : Nat) : Nat := (c / 4 &&& 51) + (c &&& 51)
def q3 (c : Nat) : Nat := (c / 16 + c) &&& 15
theorem q_spec : ∀ c, c < 256 → q1 c < 256 ∧ q2 (q1 c) ≤ 68 ∧ q2 (q1 c) % 16 ≤ 4 ∧ q3 (q2 (q1 c)) = pc 8 c ∧ pc 8 c ≤ 8 := by decide +kernel

/-- The count as the library reckons it. -/
def swar (w : Nat) : Nat :=
  let a := (w / 2 &&& 6148914691236517205) + (w &&& 6148914691236517205)
  let b := (a / 4 &&& 3689348814741910323) + (a &&& 3689348814741910323)
  (b / 16 + b) &&& 1085102592571150095
theorem swar_eq (c0 c1 c2 c3 : Nat) (h0 : c0 < 256) (h1 : c1 < 256) (h2 : c2 < 256) (h3 : c3 < 256) :
    swar (c0 + 256 * (c1 + 256 * (c2 + 256 * c3))) = pc 8 c0 + 256 * (pc 8 c1 + 256 * (pc 8 c2 + 256 * pc 8 c3)) := by
  obtain ⟨a0, b0, d0, e0, _⟩ := q_spec c0 h0
  obtain ⟨a1, b1, d1, e1, _⟩ := q_spec c1 h1
  obtain ⟨a2, b2, d2, e2, _⟩ := q_spec c2 h2
  obtain ⟨a3, b3, d3, e3, _⟩ := q_spec c3 h3
  have s1 : ((c0 + 256 * (c1 + 256 * (c2 + 256 * (c3 + 256 * 0)))) / 2 &&& 6148914691236517205) + ((c0 + 256 * (c1 + 256 * (c2 + 256 * (c3 + 256 * 0)))) &&& 6148914691236517205) = q1 c0 + 256 * (q1 c1 + 256 * (q1 c2 + 256 * (q1 c3 + 256 * 0))) := by
    rw [show (6148914691236517205 : Nat) = 85 + 256 * (85 + 256 * (85 + 256 * (85 + 256 * 1431655765))) from rfl, step1 _ _ _ h0, step1 _ _ _ h1, step1 _ _ _ h2, step1 _ _ _ h3]
    simp [q1]
  have s2 : ((q1 c0 + 256 * (q1 c1 + 256 * (q1 c2 + 256 * (q1 c3 + 256 * 0)))) / 4 &&& 3689348814741910323) + ((q1 c0 + 256 * (q1 c1 + 256 * (q1 c2 + 256 * (q1 c3 + 256 * 0)))) &&& 3689348814741910323) = q2 (q1 c0) + 256 * (q2 (q1 c1) + 256 * (q2 (q1 c2) + 256 * (q2 (q1 c3) + 256 * 0))) := by
    rw [show (3689348814741910323 : Nat) = 51 + 256 * (51 + 256 * (51 + 256 * (51 + 256 * 858993459))) from rfl, step2 _ _ _ a0, step2 _ _ _ a1, step2 _ _ _ a2, step2 _ _ _ a3]
    simp [q2]
  have s3 : ((q2 (q1 c0) + 256 * (q2 (q1 c1) + 256 * (q2 (q1 c2) + 256 * (q2 (q1 c3) + 256 * 0)))) / 16 + (q2 (q1 c0) + 256 * (q2 (q1 c1) + 256 * (q2 (q1 c2) + 256 * (q2 (q1 c3) + 256 * 0))))) &&& 1085102592571150095 = q3 (q2 (q1 c0)) + 256 * (q3 (q2 (q1 c1)) + 256 * (q3 (q2 (q1 c2)) + 256 * (q3 (q2 (q1 c3)) + 256 * 0))) := by
    rw [show (1085102592571150095 : Nat) = 15 + 256 * (15 + 256 * (15 + 256 * (15 + 256 * 252645135))) from rfl, step3 _ _ _ b0 (by omega), step3 _ _ _ b1 (by omega), step3 _ _ _ b2 (by omega), step3 _ _ _ b3 (by omega)]
    simp [q3]
  have e : c0 + 256 * (c1 + 256 * (c2 + 256 * c3)) = c0 + 256 * (c1 + 256 * (c2 + 256 * (c3 + 256 * 0))) := by omega
  unfold swar
  rw [e]
  simp only [s1, s2, s3]
  rw [e0, e1, e2, e3]
  omega
theorem swar_sum (q0 q1 q2 q3 : Nat) (h0 : q0 ≤ 8) (h1 : q1 ≤ 8) (h2 : q2 ≤ 8) (h3 : q3 ≤ 8) (x y z u : Nat) (hx : x = q0 + 256 * (q1 + 256 * (q2 + 256 * q3))) (hy : y = x + x / 256) (hz : z = y + y / 65536) (hu : u = z + z / 4294967296) :
    u % 128 = q0 + (q1 + (q2 + q3)) ∧ u < 9223372036854775808 ∧ x < 4294967296 ∧ y < 8589934592 ∧ z < 17179869184 := by
  have e1 : x / 256 = q1 + 256 * (q2 + 256 * q3) := by omega
  have e2 : y = (q0 + q1 + 256 * (q1 + q2)) + 65536 * (q2 + q3 + 256 * q3) := by omega
  have e3 : y / 65536 = q2 + q3 + 256 * q3 := by omega
  have e4 : z = (q0 + (q1 + (q2 + q3))) + 256 * (q1 + q2 + q3 + 256 * (q2 + q3 + 256 * q3)) := by omega
  have e5 : z / 4294967296 = 0 := by omega
  have e6 : u = z := by omega
  have e7 : u % 128 = q0 + (q1 + (q2 + q3)) := by omega
  exact ⟨e7, by omega, by omega, by omega, by omega⟩

theorem wrapU_small (n : Int) (h0 : 0 ≤ n) (h1 : n < 2 ^ 64) : IntKind.u64.wrap n = n := by
  rw [IntKind.wrap_u64]
  have : (2 : Int) ^ 64 = 18446744073709551616 := by decide
  omega
theorem wu64_nat (n : Nat) (h : n < 18446744073709551616) : wu64 (n : Int) = n := by
  have : (2 : Int) ^ 64 = 18446744073709551616 := by decide
  exact wrapU_small _ (by omega) (by omega)
theorem bAndU (a b : Nat) (ha : a < 2 ^ 64) (hb : b < 2 ^ 64) : bits .and .u64 (a : Int) (b : Int) = ((a &&& b : Nat) : Int) := (bits_nat .u64 64 (by decide) wrapU_small a b ha hb).1
theorem shrU (a n : Nat) (hn : n ≤ 64) : shrI .u64 (a : Int) (n : Int) = ((a / 2 ^ n : Nat) : Int) := by
  have e : IntKind.u64.bits = 64 := rfl
  simp only [shrI, Int.toNat_natCast, e]
  rw [Nat.min_eq_left hn]; simp

def g1 (a : Int) : Int := wu64 (bits .and .u64 (shrI .u64 a 1) 6148914691236517205 + bits .and .u64 a 6148914691236517205)
def g2 (a : Int) : Int := wu64 (bits .and .u64 (shrI .u64 a 2) 3689348814741910323 + bits .and .u64 a 3689348814741910323)
def g3 (a : Int) : Int := bits .and .u64 (wu64 (shrI .u64 a 4 + a)) 1085102592571150095
def g4 (a : Int) : Int := wu64 (a + shrI .u64 a 8)
def g5 (a : Int) : Int := wu64 (a + shrI .u64 a 16)
def g6 (a : Int) : Int := wu64 (a + shrI .u64 a 32)
theorem g1_nat (w : Nat) (h : w < 9223372036854775808) : g1 (w : Int) = (((w / 2 &&& 6148914691236517205) + (w &&& 6148914691236517205) : Nat) : Int) := by
  have e1 := shrU w 1 (by omega)
  have e2 := bAndU (w / 2 ^ 1) 6148914691236517205 (by omega) (by omega)
  have e3 := bAndU w 6148914691236517205 (by omega) (by omega)
  have l1 : w / 2 ^ 1 &&& 6148914691236517205 ≤ 6148914691236517205 := Nat.and_le_right
  have l2 : w &&& 6148914691236517205 ≤ 6148914691236517205 := Nat.and_le_right
  have e4 := wu64_nat ((w / 2 ^ 1 &&& 6148914691236517205) + (w &&& 6148914691236517205)) (by omega)
  unfold g1
  rw [show (1 : Int) = ((1 : Nat) : Int) from rfl, show (6148914691236517205 : Int) = ((6148914691236517205 : Nat) : Int) from rfl, e1, e2, e3, ← Int.natCast_add, e4]
theorem g2_nat (w : Nat) (h : w < 18446744073709551616) : g2 (w : Int) = (((w / 4 &&& 3689348814741910323) + (w &&& 3689348814741910323) : Nat) : Int) := by
  have e1 := shrU w 2 (by omega)
  have e2 := bAndU (w / 2 ^ 2) 3689348814741910323 (by omega) (by omega)
  have e3 := bAndU w 3689348814741910323 (by omega) (by omega)
  have l1 : w / 2 ^ 2 &&& 3689348814741910323 ≤ 3689348814741910323 := Nat.and_le_right
  have l2 : w &&& 3689348814741910323 ≤ 3689348814741910323 := Nat.and_le_right
  have e4 := wu64_nat ((w / 2 ^ 2 &&& 3689348814741910323) + (w &&& 3689348814741910323)) (by omega)
  unfold g2
  rw [show (2 : Int) = ((2 : Nat) : Int) from rfl, show (3689348814741910323 : Int) = ((3689348814741910323 : Nat) : Int) from rfl, e1, e2, e3, ← Int.natCast_add, e4]
theorem g3_nat (w : Nat) (h : w < 9223372036854775808) : g3 (w : Int) = (((w / 16 + w) &&& 1085102592571150095 : Nat) : Int) := by
  have e1 := shrU w 4 (by omega)
  have e4 := wu64_nat (w / 2 ^ 4 + w) (by omega)
  have e2 := bAndU (w / 2 ^ 4 + w) 1085102592571150095 (by omega) (by omega)
  unfold g3
  rw [show (4 : Int) = ((4 : Nat) : Int) from rfl, show (1085102592571150095 : Int) = ((1085102592571150095 : Nat) : Int) from rfl, e1, ← Int.natCast_add, e4, e2]
theorem g4_nat (w : Nat) (h : w < 9223372036854775808) : g4 (w : Int) = ((w + w / 256 : Nat) : Int) := by
  have e1 := shrU w 8 (by omega)
  have e4 := wu64_nat (w + w / 2 ^ 8) (by omega)
  unfold g4
  rw [show (8 : Int) = ((8 : Nat) : Int) from rfl, e1, ← Int.natCast_add, e4]
theorem g5_nat (w : Nat) (h : w < 9223372036854775808) : g5 (w : Int) = ((w + w / 65536 : Nat) : Int) := by
  have e1 := shrU w 16 (by omega)
  have e4 := wu64_nat (w + w / 2 ^ 16) (by omega)
  unfold g5
  rw [show (16 : Int) = ((16 : Nat) : Int) from rfl, e1, ← Int.natCast_add, e4]
theorem g6_nat (w : Nat) (h : w < 9223372036854775808) : g6 (w : Int) = ((w + w / 4294967296 : Nat) : Int) := by
  have e1 := shrU w 32 (by omega)
  have e4 := wu64_nat (w + w / 2 ^ 32) (by omega)
  unfold g6
  rw [show (32 : Int) = ((32 : Nat) : Int) from rfl, e1, ← Int.natCast_add, e4]
end Go.Proofs.YtfdggelojmofmaaDoor
