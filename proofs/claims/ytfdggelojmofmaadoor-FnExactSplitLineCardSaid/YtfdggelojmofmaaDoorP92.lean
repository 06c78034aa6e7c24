/- Plain laws of the texts. -/
import Derived.Test.YtfdggelojmofmaaDoorP91
import Derived.Test.YtfdggelojmofmaaDoorRvNum
namespace Go.Proofs.YtfdggelojmofmaaDoor
open Go.Rv
set_option linter.unusedVariables false
variable {β : Type}
/-- How many ones a number has, of at most so many bits. -/
def pc : Nat → Nat → Nat
  | 0, _ => 0
  | f + 1, w => w % 2 + pc f (w / 2)
theorem pc_le : ∀ f w, pc f w ≤ f
  | 0, _ => Nat.le_refl _
  | f + 1, w => by have := pc_le f (w / 2); simp only [pc]; omega
theorem pc_split : ∀ (j f c y : Nat), c < 2 ^ j → pc (j + f) (c + 2 ^ j * y) = pc j c + pc f y
  | 0, f, c, y, h => by
    have : c = 0 := by simpa using h
    subst this
    simp [pc]
  | j + 1, f, c, y, h => by
    rw [show j + 1 + f = (j + f) + 1 by omega]
    simp only [pc]
    have e : 2 ^ (j + 1) * y = 2 * (2 ^ j * y) := by rw [Nat.pow_succ]; rw [Nat.mul_comm (2 ^ j) 2, Nat.mul_assoc]
    rw [e, show (c + 2 * (2 ^ j * y)) % 2 = c % 2 by omega, show (c + 2 * (2 ^ j * y)) / 2 = c / 2 + 2 ^ j * y by omega, pc_split j f (c / 2) y (by rw [Nat.pow_succ] at h; omega)]
    omega
/-- The ones of a word. -/
def ones (w : Nat) : Nat := pc 32 w
theorem ones_le (w : Nat) : ones w ≤ 32 := pc_le 32 w
theorem ones_bytes (c0 c1 c2 c3 : Nat) (h0 : c0 < 256) (h1 : c1 < 256) (h2 : c2 < 256) (h3 : c3 < 256) : ones (c0 + 256 * (c1 + 256 * (c2 + 256 * c3))) = pc 8 c0 + (pc 8 c1 + (pc 8 c2 + pc 8 c3)) := by
  unfold ones
  rw [show (32 : Nat) = 8 + 24 from rfl, show (256 : Nat) = 2 ^ 8 from rfl, pc_split 8 24 c0 _ h0, show (24 : Nat) = 8 + 16 from rfl, pc_split 8 16 c1 _ h1, show (16 : Nat) = 8 + 8 from rfl, pc_split 8 8 c2 _ h2]

theorem and_byte (c y m M : Nat) (hc : c < 256) (hm : m < 256) : (c + 256 * y) &&& (m + 256 * M) = (c &&& m) + 256 * (y &&& M) := by
  have h1 : ((c + 256 * y) &&& (m + 256 * M)) % 2 ^ 8 = (c + 256 * y) % 2 ^ 8 &&& (m + 256 * M) % 2 ^ 8 := Nat.and_mod_two_pow
  have h2 : ((c + 256 * y) &&& (m + 256 * M)) / 2 ^ 8 = (c + 256 * y) / 2 ^ 8 &&& (m + 256 * M) / 2 ^ 8 := Nat.and_div_two_pow
  rw [show (c + 256 * y) % 2 ^ 8 = c by omega, show (m + 256 * M) % 2 ^ 8 = m by omega] at h1
  rw [show (c + 256 * y) / 2 ^ 8 = y by omega, show (m + 256 * M) / 2 ^ 8 = M by omega] at h2
  omega
theorem byte1 : ∀ c, c < 128 → ∀ b, b < 2 → (c + 128 * b) &&& 85 = c &&& 85 := by decide +kernel
theorem byte2 : ∀ c, c < 64 → ∀ b, b < 4 → (c + 64 * b) &&& 51 = c &&& 51 := by decide +kernel
theorem byte3 : ∀ c, c < 74 → ∀ b, b < 5 → (c + 16 * b) &&& 15 = c &&& 15 := by decide +kernel
theorem step1 (c y M : Nat) (hc : c < 256) : ((c + 256 * y) / 2 &&& (85 + 256 * M)) + ((c + 256 * y) &&& (85 + 256 * M)) = ((c / 2 &&& 85) + (c &&& 85)) + 256 * ((y / 2 &&& M) + (y &&& M)) := by
  rw [show (c + 256 * y) / 2 = (c / 2 + 128 * (y % 2)) + 256 * (y / 2) by omega, and_byte _ _ _ _ (by omega) (by omega), and_byte _ _ _ _ hc (by omega), byte1 _ (by omega) _ (by omega)]
  omega
theorem step2 (c y M : Nat) (hc : c < 256) : ((c + 256 * y) / 4 &&& (51 + 256 * M)) + ((c + 256 * y) &&& (51 + 256 * M)) = ((c / 4 &&& 51) + (c &&& 51)) + 256 * ((y / 4 &&& M) + (y &&& M)) := by
  rw [show (c + 256 * y) / 4 = (c / 4 + 64 * (y % 4)) + 256 * (y / 4) by omega, and_byte _ _ _ _ (by omega) (by omega), and_byte _ _ _ _ hc (by omega), byte2 _ (by omega) _ (by omega)]
  omega
theorem step3 (c y M : Nat) (hc : c ≤ 68) (hy : y % 16 ≤ 4) : ((c + 256 * y) / 16 + (c + 256 * y)) &&& (15 + 256 * M) = ((c / 16 + c) &&& 15) + 256 * ((y / 16 + y) &&& M) := by
  rw [show (c + 256 * y) / 16 + (c + 256 * y) = ((c / 16 + c) + 16 * (y % 16)) + 256 * (y / 16 + y) by omega, and_byte _ _ _ _ (by omega) (by omega), byte3 _ (by omega) _ (by omega)]
def q1 (c : Nat) : Nat := (c / 2 &&& 85) + (c &&& 85)
def q2 (c : Nat) : Nat := (c / 4 &&& 51) + (c &&& 51)
def q3 (c : Nat) : Nat := (c / 16 + c) &&& 15
theorem q_spec : ∀ c, c < 256 → q1 c < 256 ∧ q2 (q1 c) ≤ 68 ∧ q2 (q1 c) % 16 ≤ 4 ∧ q3 (q2 (q1 c)) = pc 8 c ∧ pc 8 c ≤ 8 := by decide +kernel

/-- The count as the library reckons it. -/
def swar (w : Nat) : Nat :=
  let a := (w / 2 &&& 6148914691236517205) + (w &&& 6148914691236517205)
  let b := (a / 4 &&& 3689348814741910323) + (a &&& 3689348814741910323)
  (b / 16 + b) &&& 1085102592571150095
theorem swar_eq (c0 c1 c2 c3 : Nat) (h0 : c0 < 256) (h1 : c1 < 256) (h2 : c2 < 256) (h3 : c3 < 256) :
    swar (c0 + 256 * (c1 + 256 * (c2 + 256 * c3))) = pc 8 c0 + 256 * (pc 8 c1 + 256 * (pc 8 c2 + 256 * pc 8 c3)) := by
  obtain ⟨a0, b0, d0, e0, _⟩ := q_spec c0 h0
  obtain ⟨a1, b1, d1, e1, _⟩ := q_spec c1 h1
  obtain ⟨a2, b2, d2, e2, _⟩ := q_spec c2 h2
  obtain ⟨a3, b3, d3, e3, _⟩ := q_spec c3 h3
  have s1 : ((c0 + 256 * (c1 + 256 * (c2 + 256 * (c3 + 256 * 0)))) / 2 &&& 6148914691236517205) + ((c0 + 256 * (c1 + 256 * (c2 + 256 * (c3 + 256 * 0)))) &&& 6148914691236517205) = q1 c0 + 256 * (q1 c1 + 256 * (q1 c2 + 256 * (q1 c3 + 256 * 0))) := by
    rw [show (6148914691236517205 : Nat) = 85 + 256 * (85 + 256 * (85 + 256 * (85 + 256 * 1431655765))) from rfl, step1 _ _ _ h0, step1 _ _ _ h1, step1 _ _ _ h2, step1 _ _ _ h3]
    simp [q1]
  have s2 : ((q1 c0 + 256 * (q1 c1 + 256 * (q1 c2 + 256 * (q1 c3 + 256 * 0)))) / 4 &&& 3689348814741910323) + ((q1 c0 + 256 * (q1 c1 + 256 * (q1 c2 + 256 * (q1 c3 + 256 * 0)))) &&& 3689348814741910323) = q2 (q1 c0) + 256 * (q2 (q1 c1) + 256 * (q2 (q1 c2) + 256 * (q2 (q1 c3) + 256 * 0))) := by
    rw [show (3689348814741910323 : Nat) = 51 + 256 * (51 + 256 * (51 + 256 * (51 + 256 * 858993459))) from rfl, step2 _ _ _ a0, step2 _ _ _ a1, step2 _ _ _ a2, step2 _ _ _ a3]
    simp [q2]
  have s3 : ((q2 (q1 c0) + 256 * (q2 (q1 c1) + 256 * (q2 (q1 c2) + 256 * (q2 (q1 c3) + 256 * 0)))) / 16 + (q2 (q1 c0) + 256 * (q2 (q1 c1) + 256 * (q2 (q1 c2) + 256 * (q2 (q1 c3) + 256 * 0))))) &&& 1085102592571150095 = q3 (q2 (q1 c0)) + 256 * (q3 (q2 (q1 c1)) + 256 * (q3 (q2 (q1 c2)) + 256 * (q3 (q2 (q1 c3)) + 256 * 0))) := by
    rw [show (1085102592571150095 : Nat) = 15 + 256 * (15 + 256 * (15 + 256 * (15 + 256 * 252645135))) from rfl, step3 _ _ _ b0 (by omega), step3 _ _ _ b1 (by omega), step3 _ _ _ b2 (by omega), step3 _ _ _ b3 (by omega)]
    simp [q3]
  have e : c0 + 256 * (c1 + 256 * (c2 + 256 * c3)) = c0 + 256 * (c1 + 256 * (c2 + 256 * (c3 + 256 * 0))) := by omega
  unfold swar
  rw [e]
  simp only [s1, s2, s3]
  rw [e0, e1, e2, e3]
  omega
theorem swar_sum (q0 q1 q2 q3 : Nat) (h0 : q0 ≤ 8) (h1 : q1 ≤ 8) (h2 : q2 ≤ 8) (h3 : q3 ≤ 8) (x y z u : Nat) (hx : x = q0 + 256 * (q1 + 256 * (q2 + 256 * q3))) (hy : y = x + x / 256) (hz : z = y + y / 65536) (hu : u = z + z / 4294967296) :
    u % 128 = q0 + (q1 + (q2 + q3)) ∧ u < 9223372036854775808 ∧ x < 4294967296 ∧ y < 8589934592 ∧ z < 17179869184 := by
  have e1 : x / 256 = q1 + 256 * (q2 + 256 * q3) := by omega
  have e2 : y = (q0 + q1 + 256 * (q1 + q2)) + 65536 * (q2 + q3 + 256 * q3) := by omega
  have e3 : y / 65536 = q2 + q3 + 256 * q3 := by omega
  have e4 : z = (q0 + (q1 + (q2 + q3))) + 256 * (q1 + q2 + q3 + 256 * (q2 + q3 + 256 * q3)) := by omega
  have e5 : z / 4294967296 = 0 := by omega
  have e6 : u = z := by omega
  have e7 : u % 128 = q0 + (q1 + (q2 + q3)) := by omega
  exact ⟨e7, by omega, by omega, by omega, by omega⟩

theorem wrapU_small (n : Int) (h0 : 0 ≤ n) (h1 : n < 2 ^ 64) : IntKind.u64.wrap n = n := by
  rw [IntKind.wrap_u64]
  have : (2 : Int) ^ 64 = 18446744073709551616 := by decide
  omega
theorem wu64_nat (n : Nat) (h : n < 18446744073709551616) : wu64 (n : Int) = n := by
  have : (2 : Int) ^ 64 = 18446744073709551616 := by decide
  exact wrapU_small _ (by omega) (by omega)
theorem bAndU (a b : Nat) (ha : a < 2 ^ 64) (hb : b < 2 ^ 64) : bits .and .u64 (a : Int) (b : Int) = ((a &&& b : Nat) : Int) := (bits_nat .u64 64 (by decide) wrapU_small a b ha hb).1
theorem shrU (a n : Nat) (hn : n ≤ 64) : shrI .u64 (a : Int) (n : Int) = ((a / 2 ^ n : Nat) : Int) := by
  have e : IntKind.u64.bits = 64 := rfl
  simp only [shrI, Int.toNat_natCast, e]
  rw [Nat.min_eq_left hn]; simp

def g1 (a : Int) : Int := wu64 (bits .and .u64 (shrI .u64 a 1) 6148914691236517205 + bits .and .u64 a 6148914691236517205)
def g2 (a : Int) : Int := wu64 (bits .and .u64 (shrI .u64 a 2) 3689348814741910323 + bits .and .u64 a 3689348814741910323)
def g3 (a : Int) : Int := bits .and .u64 (wu64 (shrI .u64 a 4 + a)) 1085102592571150095
def g4 (a : Int) : Int := wu64 (a + shrI .u64 a 8)
def g5 (a : Int) : Int := wu64 (a + shrI .u64 a 16)
def g6 (a : Int) : Int := wu64 (a + shrI .u64 a 32)
theorem g1_nat (w : Nat) (h : w < 9223372036854775808) : g1 (w : Int) = (((w / 2 &&& 6148914691236517205) + (w &&& 6148914691236517205) : Nat) : Int) := by
  have e1 := shrU w 1 (by omega)
  have e2 := bAndU (w / 2 ^ 1) 6148914691236517205 (by omega) (by omega)
  have e3 := bAndU w 6148914691236517205 (by omega) (by omega)
  have l1 : w / 2 ^ 1 &&& 6148914691236517205 ≤ 6148914691236517205 := Nat.and_le_right
  have l2 : w &&& 6148914691236517205 ≤ 6148914691236517205 := Nat.and_le_right
  have e4 := wu64_nat ((w / 2 ^ 1 &&& 6148914691236517205) + (w &&& 6148914691236517205)) (by omega)
  unfold g1
  rw [show (1 : Int) = ((1 : Nat) : Int) from rfl, show (6148914691236517205 : Int) = ((6148914691236517205 : Nat) : Int) from rfl, e1, e2, e3, ← Int.natCast_add, e4]
theorem g2_nat (w : Nat) (h : w < 18446744073709551616) : g2 (w : Int) = (((w / 4 &&& 3689348814741910323) + (w &&& 3689348814741910323) : Nat) : Int) := by
  have e1 := shrU w 2 (by omega)
  have e2 := bAndU (w / 2 ^ 2) 3689348814741910323 (by omega) (by omega)
  have e3 := bAndU w 3689348814741910323 (by omega) (by omega)
  have l1 : w / 2 ^ 2 &&& 3689348814741910323 ≤ 3689348814741910323 := Nat.and_le_right
  have l2 : w &&& 3689348814741910323 ≤ 3689348814741910323 := Nat.and_le_right
  have e4 := wu64_nat ((w / 2 ^ 2 &&& 3689348814741910323) + (w &&& 3689348814741910323)) (by omega)
  unfold g2
  rw [show (2 : Int) = ((2 : Nat) : Int) from rfl, show (3689348814741910323 : Int) = ((3689348814741910323 : Nat) : Int) from rfl, e1, e2, e3, ← Int.natCast_add, e4]
theorem g3_nat (w : Nat) (h : w < 9223372036854775808) : g3 (w : Int) = (((w / 16 + w) &&& 1085102592571150095 : Nat) : Int) := by
  have e1 := shrU w 4 (by omega)
  have e4 := wu64_nat (w / 2 ^ 4 + w) (by omega)
  have e2 := bAndU (w / 2 ^ 4 + w) 1085102592571150095 (by omega) (by omega)
  unfold g3
  rw [show (4 : Int) = ((4 : Nat) : Int) from rfl, show (1085102592571150095 : Int) = ((1085102592571150095 : Nat) : Int) from rfl, e1, ← Int.natCast_add, e4, e2]
theorem g4_nat (w : Nat) (h : w < 9223372036854775808) : g4 (w : Int) = ((w + w / 256 : Nat) : Int) := by
  have e1 := shrU w 8 (by omega)
  have e4 := wu64_nat (w + w / 2 ^ 8) (by omega)
  unfold g4
  rw [show (8 : Int) = ((8 : Nat) : Int) from rfl, e1, ← Int.natCast_add, e4]
theorem g5_nat (w : Nat) (h : w < 9223372036854775808) : g5 (w : Int) = ((w + w / 65536 : Nat) : Int) := by
  have e1 := shrU w 16 (by omega)
  have e4 := wu64_nat (w + w / 2 ^ 16) (by omega)
  unfold g5
  rw [show (16 : Int) = ((16 : Nat) : Int) from rfl, e1, ← Int.natCast_add, e4]
theorem g6_nat (w : Nat) (h : w < 9223372036854775808) : g6 (w : Int) = ((w + w / 4294967296 : Nat) : Int) := by
  have e1 := shrU w 32 (by omega)
  have e4 := wu64_nat (w + w / 2 ^ 32) (by omega)
  unfold g6
  rw [show (32 : Int) = ((32 : Nat) : Int) from rfl, e1, ← Int.natCast_add, e4]
end Go.Proofs.YtfdggelojmofmaaDoor
namespace Go.Proofs.YtfdggelojmofmaaDoor
open Go.Rv
variable {β : Type}
def B (l : List UInt8) : ByteArray := ⟨l.toArray⟩
theorem B_data (s : ByteArray) : B s.data.toList = s := by cases s; simp [B]
theorem B_size (l : List UInt8) : (B l).size = l.length := by simp [B, ByteArray.size]
theorem B_inj {a b : ByteArray} (h : a.data.toList = b.data.toList) : a = b := by rw [← B_data a, ← B_data b, h]
theorem B_toList (l : List UInt8) : (B l).toList = l := Go.ByteArray.toList_mk l
theorem B_list (l : List UInt8) : (B l).data.toList = l := by simp [B]
theorem B_app (l m : List UInt8) : B l ++ B m = B (l ++ m) := by
  apply B_inj
  rw [ByteArray.toList_data_append]
  simp [B]
theorem B_ext (l : List UInt8) (a b : Nat) : (B l).extract a b = B ((l.take b).drop a) := by
  apply B_inj
  rw [ByteArray.data_extract]
  simp [B, List.drop_take, List.extract_eq_take_drop]
theorem B_nil : ByteArray.empty = B [] := rfl
theorem B_one (n : Int) : strOf (([] : List Int) ++ [n]) = B [UInt8.ofNat n.toNat] := by
  simp [strOf, B]
theorem B_strOf (l : List Int) : strOf l = B (l.map fun n => UInt8.ofNat n.toNat) := by simp [strOf, B]
theorem B_bt (l : List UInt8) (i : Nat) (h : i < l.length) : bt (B l) (i : Int) = (l[i].toNat : Int) := by
  simp [bt, B, List.getD, List.getElem?_eq_getElem h]
theorem B_bt0 (c : UInt8) (r : List UInt8) : bt (B (c :: r)) 0 = (c.toNat : Int) := by simp [bt, B]
theorem B_tail (c : UInt8) (r : List UInt8) : (B (c :: r)).extract (Int.toNat 1) (B (c :: r)).size = B r := by
  rw [B_ext, B_size]
  simp
theorem B_lt (c : UInt8) : c.toNat < 256 := c.toNat_lt
end Go.Proofs.YtfdggelojmofmaaDoor
namespace Go.Proofs.YtfdggelojmofmaaDoor
open Go.Rv
variable {β : Type}
/-- A loop that counts up. -/
theorem loop_st (g : Nat → Nat → Option β) (m : Nat) (r : Option β) (hs : ∀ F i, i < m → g (F + 1) i = g F (i + 1)) (he : ∀ F, g (F + 1) m = r) :
    ∀ (F i : Nat), i ≤ m → m - i < F → g F i = r := by
  intro F
  induction F with
  | zero => intro i _ h; omega
  | succ F ih =>
    intro i hi hF
    rcases Nat.lt_or_ge i m with h | h
    · rw [hs F i h]; exact ih (i + 1) h (by omega)
    · have : i = m := by omega
      subst this; exact he F

/-- A loop that counts up from a place. -/
theorem loop_from (g : Nat → Nat → Option β) (i0 m : Nat) (r : Option β) (hs : ∀ F i, i0 ≤ i → i < m → g (F + 1) i = g F (i + 1)) (he : ∀ F, g (F + 1) m = r) :
    ∀ (F i : Nat), i0 ≤ i → i ≤ m → m - i < F → g F i = r := by
  intro F
  induction F with
  | zero => intro i _ _ h; omega
  | succ F ih =>
    intro i h0 hi hF
    rcases Nat.lt_or_ge i m with h | h
    · rw [hs F i h0 h]; exact ih (i + 1) (by omega) h (by omega)
    · have : i = m := by omega
      subst this; exact he F

def sumTo (h : Nat → Int) : Nat → Int
  | 0 => 0
  | m + 1 => sumTo h m + h m
theorem sumTo_le (h : Nat → Int) (hb : ∀ i, -1 ≤ h i ∧ h i ≤ 1) : ∀ m : Nat, -(m : Int) ≤ sumTo h m ∧ sumTo h m ≤ (m : Int)
  | 0 => by simp [sumTo]
  | m + 1 => by have := sumTo_le h hb m; have := hb m; simp only [sumTo]; omega

def sg (m : Nat) : Int := if m % 2 = 1 then -1 else 1
theorem sg_add (a b : Nat) : sg (a + b) = sg a * sg b := by
  unfold sg
  rcases Nat.mod_two_eq_zero_or_one a with h1 | h1 <;> rcases Nat.mod_two_eq_zero_or_one b with h2 | h2 <;> simp [h1, h2, Nat.add_mod]
theorem sg_range (a b : Nat) : -1 ≤ sg a * sg b ∧ sg a * sg b ≤ 1 := by
  rw [← sg_add]
  unfold sg
  split <;> simp
def bw (w x : Nat) : Nat := if w.testBit x then 1 else 0
theorem ones_bw (w x : Nat) : ones (bw w x) = bw w x := by
  unfold bw
  split <;> rfl
theorem bw_le (w x : Nat) : bw w x ≤ 1 := by unfold bw; split <;> omega

/-- The term of a set and an input. -/
def tm (w u x : Nat) : Int := sg (bw w x) * sg (ones (u &&& x))
theorem tm_range (w u x : Nat) : -1 ≤ tm w u x ∧ tm w u x ≤ 1 := sg_range _ _
def sps (w n m : Nat) : List Int := (List.range m).map fun u => sumTo (tm w u) (2 ^ n)
theorem sps_len (w n m : Nat) : (sps w n m).length = m := by simp [sps]
theorem sps_succ (w n m : Nat) : sps w n (m + 1) = sps w n m ++ [sumTo (tm w m) (2 ^ n)] := by simp [sps, List.range_succ]
theorem isTn {n w : Nat} (hn : n ≤ 5) (hw : w < 2 ^ 2 ^ n) : isT (n : Int) (w : Int) = true := by
  have h4 : ((w : Nat) : Int) < 2 ^ 2 ^ n := by exact_mod_cast hw
  simp only [isT, Bool.and_eq_true, decide_eq_true_eq, Int.toNat_natCast]
  exact ⟨⟨⟨by omega, by omega⟩, by omega⟩, h4⟩
theorem w_small {n w : Nat} (hn : n ≤ 5) (hw : w < 2 ^ 2 ^ n) : w < 4294967296 :=
  Nat.lt_of_lt_of_le hw (Nat.le_trans (Nat.pow_le_pow_right (by decide) (size_le hn)) (by decide))

theorem rd_mid (p : List Int) (y : Int) (r : List Int) : rd 0 (p ++ y :: r) (p.length : Int) = y := by
  simp [rd, List.getD]
theorem wr_mid {α : Type} (p : List α) (y z : α) (r : List α) : wr (p ++ y :: r) (p.length : Int) z = p ++ z :: r := by
  simp [wr]

theorem impl_Table_size_eq (N n : Nat) (w : Int) (hn : n ≤ 5) (k : Int → Option β) : zj60 N (n : Int) w k = k ((2 ^ n : Nat) : Int) := by
  unfold zj60
  rw [gd_true (decide_eq_true (by omega)), shl_one n (by omega)]
theorem impl_Table_at_eq (N w x : Nat) (n : Int) (hw : w < 4294967296) (k : Int → Option β) : zj63 N n (w : Int) (x : Int) k = k (bw w x : Int) := by
  unfold zj63
  rw [gd_true (decide_eq_true (by omega)), bit_at w x (by omega)]
  rfl

/-! ### Energies -/
def en (l z : List Int) : Nat → List Int
  | 0 => z
  | i + 1 => wr (en l z i) (ones i : Int) (w64 (rd 0 (en l z i) (ones i : Int) + w64 (rd 0 l (i : Int) * rd 0 l (i : Int))))
theorem en_len (l z : List Int) : ∀ i, (en l z i).length = z.length
  | 0 => rfl
  | i + 1 => by simp [en, wr, en_len l z i]
theorem ones_small : ∀ n, n ≤ 5 → ∀ i, i < 2 ^ n → ones i ≤ n := by decide +kernel

/-! ### Nonlinearity -/
def pkS (l : List Int) : Nat → Int
  | 0 => 0
  | i + 1 => mxI (pkS l i) (mxI (rd 0 l (i : Int)) (w64 (0 - rd 0 l (i : Int))))
def nonl (w n : Nat) : Int := quoI .i64 (w64 (((2 ^ n : Nat) : Int) - pkS (sps w n (2 ^ n)) (2 ^ n))) 2
theorem two_pos (n : Nat) : 0 < 2 ^ n := Nat.pow_pos (by decide)
/-! ### Immunity -/
def ci (l : List Int) (n : Int) : Nat → Int
  | 0 => n
  | i + 1 => cond (decide (0 < i) && (rd 0 l (i : Int) != 0)) (mnI (ci l n i) (w64 ((ones i : Int) - 1))) (ci l n i)
/-! ### Rejects -/
def rj (w x y : Nat) : Int := bits .xor .i64 (bits .xor .i64 (bw w x : Int) (bw w y : Int)) (bw w (x ^^^ y) : Int)
def rj2 (w x : Nat) (s : Int) : Nat → Int
  | 0 => s
  | y + 1 => w64 (rj2 w x s y + rj w x y)
def rj1 (w m : Nat) : Nat → Int
  | 0 => 0
  | x + 1 => rj2 w x (rj1 w m x) m
theorem bit3 (w x y z : Nat) (hw : w < 4294967296) : bits .and .i64 (bits .xor .i64 (bits .xor .i64 (shrI .i64 (w : Int) (x : Int)) (shrI .i64 (w : Int) (y : Int))) (shrI .i64 (w : Int) (z : Int))) 1 = bits .xor .i64 (bits .xor .i64 (bw w x : Int) (bw w y : Int)) (bw w z : Int) := by
  have hx := Nat.div_le_self w (2 ^ x); have hy := Nat.div_le_self w (2 ^ y); have hz := Nat.div_le_self w (2 ^ z)
  have b1 := bw_le w x; have b2 := bw_le w y; have b3 := bw_le w z
  have e : ∀ i, bw w i = w / 2 ^ i % 2 := fun i => by
    unfold bw
    rw [Nat.testBit_eq_decide_div_mod_eq]
    rcases Nat.mod_two_eq_zero_or_one (w / 2 ^ i) with h | h <;> simp [h]
  have c1 : w / 2 ^ x ^^^ w / 2 ^ y < 2 ^ 32 := Nat.xor_lt_two_pow (by omega) (by omega)
  have c2 : (w / 2 ^ x ^^^ w / 2 ^ y) ^^^ w / 2 ^ z < 2 ^ 32 := Nat.xor_lt_two_pow c1 (by omega)
  have d1 : bw w x ^^^ bw w y < 2 ^ 1 := Nat.xor_lt_two_pow (by omega) (by omega)
  rw [shr_nat w x (by omega), shr_nat w y (by omega), shr_nat w z (by omega), bXor _ _ (by omega) (by omega), bXor _ _ (by omega) (by omega), show (1 : Int) = ((1 : Nat) : Int) from rfl, bAnd _ _ (by omega) (by omega), bXor _ _ (by omega) (by omega), bXor _ _ (by omega) (by omega)]
  congr 1
  rw [Nat.and_one_is_mod, e x, e y, e z]
  have m2 : ∀ a b : Nat, (a ^^^ b) % 2 = (a % 2) ^^^ (b % 2) := fun a b => by
    have := Nat.xor_mod_two_pow (a := a) (b := b) (n := 1)
    simpa using this
  rw [m2, m2]
end Go.Proofs.YtfdggelojmofmaaDoor
namespace Go.Proofs.YtfdggelojmofmaaDoor
open Go.Rv
variable {β : Type}
def in64 (n : Int) : Prop := -9223372036854775808 ≤ n ∧ n ≤ 9223372036854775807
theorem w64_in (x : Int) : in64 (w64 x) := by
  show -9223372036854775808 ≤ IntKind.wrap .i64 x ∧ _
  rw [show w64 x = IntKind.wrap .i64 x from rfl, IntKind.wrap_i64]
  omega

def dgs (m : Nat) : List UInt8 := if m = 0 then [] else Lib.decDigits m
theorem dgs_step (m : Nat) (h : 0 < m) : dgs m = dgs (m / 10) ++ [UInt8.ofNat (48 + m % 10)] := by
  unfold dgs
  rw [if_neg (by omega)]
  by_cases h1 : m < 10
  · rw [Lib.decDigits, dif_pos h1, if_pos (by omega), Nat.mod_eq_of_lt h1]
    rfl
  · rw [if_neg (by omega), Lib.decDigits, dif_neg h1]
theorem dgs_len : ∀ (d m : Nat), m < 10 ^ d → (dgs m).length ≤ d := by
  intro d
  induction d with
  | zero => intro m h; have : m = 0 := by simpa using h
            subst this; simp [dgs]
  | succ d ih =>
    intro m h
    by_cases h0 : m = 0
    · subst h0; simp [dgs]
    · rw [dgs_step m (by omega)]
      have := ih (m / 10) (by rw [Nat.pow_succ] at h; omega)
      simp
      exact this

def sgn (s : Bool) (m : Nat) : Int := cond s (-(m : Int)) m
theorem rem_sgn (s : Bool) (m : Nat) : remI (sgn s m) 10 = sgn s (m % 10) := by
  cases s with
  | false => rfl
  | true =>
    show (-(m : Int)).tmod 10 = -((m % 10 : Nat) : Int)
    rw [Int.neg_tmod]
    rfl
theorem quo_sgn (s : Bool) (m : Nat) (h : m ≤ 9223372036854775808) : quoI .i64 (sgn s m) 10 = sgn s (m / 10) := by
  show w64 ((sgn s m).tdiv 10) = _
  have e : (sgn s m).tdiv 10 = sgn s (m / 10) := by
    cases s with
    | false => rfl
    | true =>
      show (-(m : Int)).tdiv 10 = -((m / 10 : Nat) : Int)
      rw [Int.neg_tdiv]
      rfl
  rw [e]
  cases s <;> simp only [sgn, cond_true, cond_false] <;> rw [w64_id] <;> omega

theorem w8_small (n : Nat) (h : n < 256) : w8 (n : Int) = n := by
  have := IntKind.wrap_u8 (n : Int)
  show IntKind.wrap .u8 (n : Int) = n
  rw [this]
  omega

theorem format_loop (N : Nat) (neg : Bool) (k0 : ByteArray → Bool → Option β) : ∀ (d F m : Nat) (s : Bool) (out : List UInt8), m < 10 ^ d → d < F → out.length + d ≤ 1000 → m ≤ 9223372036854775808 →
    zj20 N F (sgn s m) (B out) neg k0 = k0 (B (dgs m ++ out)) neg := by
  intro d
  induction d with
  | zero =>
    intro F m s out h hF _ _
    obtain ⟨F, rfl⟩ : ∃ G, F = G + 1 := ⟨F - 1, by omega⟩
    have : m = 0 := by simpa using h
    subst this
    cases s <;> rfl
  | succ d ih =>
    intro F m s out h hF ho hm
    obtain ⟨F, rfl⟩ : ∃ G, F = G + 1 := ⟨F - 1, by omega⟩
    by_cases h0 : m = 0
    · subst h0; cases s <;> rfl
    · simp only [zj20, zj19]
      have hne : (sgn s m != 0) = true := by
        rw [bne_iff_ne]
        cases s <;> simp only [sgn, cond_true, cond_false] <;> omega
      rw [hne, cond_true, rem_sgn, quo_sgn s m hm]
      have hd : w8 (w64 (48 + ((m % 10 : Nat) : Int))) = ((48 + m % 10 : Nat) : Int) := by
        rw [w64_id (by omega) (by omega), show (48 : Int) + ((m % 10 : Nat) : Int) = ((48 + m % 10 : Nat) : Int) by omega, w8_small _ (by omega)]
      have goal : ∀ x : Int, w8 (w64 (48 + x)) = ((48 + m % 10 : Nat) : Int) → gd (decide ((strOf (([] : List Int) ++ [w8 (w64 (48 + x))])).size + (B out).size ≤ 9223372036854775807)) (zj20 N F (sgn s (m / 10)) (strOf (([] : List Int) ++ [w8 (w64 (48 + x))]) ++ B out) neg k0) = k0 (B (dgs m ++ out)) neg := by
        intro x hx
        rw [hx, B_one, B_size, B_size, gd_true (decide_eq_true (by simp; omega)), B_app, Int.toNat_natCast, ih F (m / 10) s _ (by rw [Nat.pow_succ] at h; omega) (by omega) (by simp; omega) (by omega), dgs_step m (by omega)]
        simp
      cases s with
      | false =>
        rw [decide_eq_false (by simp only [sgn, cond_false]; omega), cond_false]
        exact goal _ hd
      | true =>
        by_cases hr : m % 10 = 0
        · rw [decide_eq_false (by simp only [sgn, cond_true]; omega), cond_false]
          exact goal _ (by rw [hr] at hd ⊢; exact hd)
        · rw [decide_eq_true (by simp only [sgn, cond_true]; omega), cond_true]
          refine goal _ ?_
          simp only [sgn, cond_true]
          rw [show w64 (0 - -((m % 10 : Nat) : Int)) = ((m % 10 : Nat) : Int) by rw [w64_id] <;> omega]
          exact hd

theorem itoaB_eq (n : Int) : itoaB n = B (Lib.itoa n) := rfl
theorem pow19 : (9223372036854775808 : Nat) < 10 ^ 19 := by decide
theorem itoa_len (n : Int) (h : in64 n) : (Lib.itoa n).length ≤ 20 ∧ 0 < (Lib.itoa n).length := by
  have key : ∀ m : Nat, m ≤ 9223372036854775808 → (Lib.decDigits m).length ≤ 19 ∧ 0 < (Lib.decDigits m).length := by
    intro m hm
    by_cases h0 : m = 0
    · subst h0; rw [Lib.decDigits, dif_pos (by decide)]; simp
    · have e : dgs m = Lib.decDigits m := if_neg h0
      rw [← e]
      refine ⟨dgs_len 19 m (Nat.lt_of_le_of_lt hm pow19), ?_⟩
      rw [dgs_step m (by omega)]
      simp
  obtain ⟨h1, h2⟩ := h
  unfold Lib.itoa
  split
  · have := key n.natAbs (by omega)
    simp; omega
  · have := key n.toNat (by omega)
    omega

theorem spec_FormatInt_eq (N : Nat) (hN : 64 < N) (n : Int) (h : in64 n) (k : ByteArray → Option β) : zj21 N n k = k (B (Lib.itoa n)) := by
  obtain ⟨h1, h2⟩ := h
  unfold zj21
  by_cases h0 : n = 0
  · subst h0
    show k (strOf [48]) = _
    congr 1
    unfold Lib.itoa
    rw [if_neg (by decide), Lib.decDigits, dif_pos (by decide)]
    rfl
  · rw [beq_eq_false_iff_ne.2 h0, cond_false, B_nil]
    have e : n = sgn (decide (n < 0)) n.natAbs := by
      by_cases hn : n < 0
      · rw [decide_eq_true hn]; simp only [sgn, cond_true]; omega
      · rw [decide_eq_false hn]; simp only [sgn, cond_false]; omega
    have hl := format_loop N (decide (n < 0)) (fun e0 e1 => cond e1 (gd (decide ((strOf [45]).size + e0.size ≤ 9223372036854775807)) (k (strOf [45] ++ e0))) (k e0)) 19 N n.natAbs (decide (n < 0)) [] (Nat.lt_of_le_of_lt (by omega) pow19) (by omega) (by simp) (by omega)
    rw [← e] at hl
    rw [hl, List.append_nil]
    have hd : dgs n.natAbs = Lib.decDigits n.natAbs := if_neg (by omega)
    have hlen := dgs_len 19 n.natAbs (Nat.lt_of_le_of_lt (by omega) pow19)
    unfold Lib.itoa
    by_cases hn : n < 0
    · rw [decide_eq_true hn, if_pos hn, cond_true, B_strOf, B_size, B_size, gd_true (decide_eq_true (by simp; omega)), B_app, hd]
      rfl
    · rw [decide_eq_false hn, if_neg hn, cond_false, hd, show n.natAbs = n.toNat by omega]
theorem impl_FormatInt_eq (N : Nat) (n : Int) (h : in64 n) (k : ByteArray → Option β) : zj82 N n k = k (B (Lib.itoa n)) := by
  unfold zj82 strconv_Itoa
  rw [gd_true (decide_eq_true h.1), gd_true (decide_eq_true h.2)]
  rfl

/-! ### Lists of numbers -/
def jn (l : List Int) : Nat → List UInt8
  | 0 => []
  | i + 1 => cond (decide (0 < i)) (jn l i ++ [44]) (jn l i) ++ Lib.itoa (rd 0 l (i : Int))
def textL (l : List Int) : List UInt8 := if l = [] then [110, 111, 110, 101] else jn l l.length
theorem rd_in (l : List Int) (hr : ∀ x ∈ l, in64 x) (i : Nat) (h : i < l.length) : in64 (rd 0 l (i : Int)) := by
  rw [rd_nat 0 l i h]
  exact hr _ (List.getElem_mem h)
theorem jn_len (l : List Int) (hr : ∀ x ∈ l, in64 x) : ∀ i, i ≤ l.length → (jn l i).length ≤ 21 * i ∧ (0 < i → 0 < (jn l i).length)
  | 0, _ => by simp [jn]
  | i + 1, h => by
    have h1 := jn_len l hr i (by omega)
    have h2 := itoa_len _ (rd_in l hr i (by omega))
    simp only [jn]
    cases decide (0 < i) <;> simp only [cond_true, cond_false, List.length_append, List.length_cons, List.length_nil] <;> omega
theorem textL_len (l : List Int) (hr : ∀ x ∈ l, in64 x) : (textL l).length ≤ 21 * l.length + 4 := by
  unfold textL
  split
  · simp
  · have := jn_len l hr l.length (Nat.le_refl _); omega

theorem jn_join (l : List Int) : ∀ (x : Int) (i : Nat), i ≤ l.length → jn (x :: l) (i + 1) = Lib.itoa x ++ Lib.joinTail [44] ((l.map Lib.itoa).take i) := by
  intro x i
  induction i with
  | zero =>
    intro _
    simp [jn, Lib.joinTail, rd, List.getD]
  | succ i ih =>
    intro h
    have e : (l.map Lib.itoa)[i]? = some (Lib.itoa l[i]) := by rw [List.getElem?_map, List.getElem?_eq_getElem (by omega)]; rfl
    rw [Lib.joinTail_take_succ [44] _ i _ e]
    have e2 : jn (x :: l) (i + 1 + 1) = jn (x :: l) (i + 1) ++ [44] ++ Lib.itoa (rd 0 (x :: l) ((i + 1 : Nat) : Int)) := rfl
    rw [e2, ih (by omega), rd_nat 0 (x :: l) (i + 1) (by simp; omega)]
    simp
theorem textL_join (l : List Int) (h : l ≠ []) : textL l = Lib.join (l.map Lib.itoa) [44] := by
  unfold textL
  rw [if_neg h]
  cases l with
  | nil => exact absurd rfl h
  | cons x l =>
    rw [List.length_cons, jn_join l x l.length (Nat.le_refl _), List.map_cons, Lib.join_cons, List.take_of_length_le (by simp)]

theorem spec_l34Numbers_eq (N : Nat) (hN : 1048576 < N) (l : List Int) (hl : l.length ≤ 1000) (hr : ∀ x ∈ l, in64 x) (k : ByteArray → Option β) : zj24 N l k = k (B (textL l)) := by
  unfold zj24
  have main : ∀ (F i : Nat), i ≤ l.length → l.length - i < F → zj23 N F l (B (jn l i)) (i : Int) (fun e => cond (e.toList == ByteArray.empty.toList) (k (strOf [110, 111, 110, 101])) (k e)) = k (B (textL l)) := by
    intro F
    induction F with
    | zero => intro i _ h; omega
    | succ F ih =>
      intro i hi hF
      simp only [zj23, zj22]
      rcases Nat.lt_or_ge i l.length with h | h
      · have j1 := jn_len l hr i hi
        have j2 := itoa_len _ (rd_in l hr i h)
        have g1 : decide ((i : Int) < (l.length : Int)) = true := decide_eq_true (by omega)
        have g2 : decide ((0 : Int) ≤ (i : Int)) = true := decide_eq_true (by omega)
        simp only [g1, g2, gd, cond_true, spec_FormatInt_eq N (by omega) _ (rd_in l hr i h)]
        rw [show w64 ((i : Int) + 1) = ((i + 1 : Nat) : Int) by rw [w64_id] <;> omega]
        by_cases h0 : 0 < i
        · rw [decide_eq_true (show (i : Int) > 0 by omega)]
          simp only [cond_true, B_strOf, B_size, B_app]
          rw [decide_eq_true (by simp; omega), cond_true, decide_eq_true (by simp; omega), cond_true]
          have e : jn l (i + 1) = jn l i ++ List.map (fun n => UInt8.ofNat n.toNat) [(44 : Int)] ++ Lib.itoa (rd 0 l (i : Int)) := by
            simp only [jn]
            rw [decide_eq_true h0]
            rfl
          rw [← e]
          exact ih (i + 1) h (by omega)
        · rw [decide_eq_false (show ¬ (i : Int) > 0 by omega)]
          simp only [cond_false, B_size, B_app]
          rw [decide_eq_true (by omega), cond_true]
          have e : jn l (i + 1) = jn l i ++ Lib.itoa (rd 0 l (i : Int)) := by
            simp only [jn]
            rw [decide_eq_false h0]
            rfl
          rw [← e]
          exact ih (i + 1) h (by omega)
      · have : i = l.length := by omega
        subst this
        rw [decide_eq_false (by omega), cond_false, B_nil, B_toList, B_toList]
        unfold textL
        by_cases h0 : l = []
        · subst h0; rfl
        · have j1 := (jn_len l hr l.length hi).2 (by have := List.length_pos_iff.2 h0; omega)
          rw [if_neg h0]
          cases hj : jn l l.length with
          | nil => rw [hj] at j1; simp at j1
          | cons => rfl
  have := main N 0 (by omega) (by omega)
  exact this

theorem impl_listText_eq (N : Nat) (hN : 1048576 < N) (l : List Int) (hl : l.length ≤ 1000) (hr : ∀ x ∈ l, in64 x) (k : ByteArray → Option β) : zj85 N l k = k (B (textL l)) := by
  unfold zj85
  by_cases h0 : l = []
  · subst h0; rfl
  · have hp := List.length_pos_iff.2 h0
    rw [beq_eq_false_iff_ne.2 (by omega), cond_false, gd_true (decide_eq_true (by omega)), gd_true (decide_eq_true (by omega)), gd_true (decide_eq_true (by omega)), Int.toNat_natCast]
    have main : ∀ (F i : Nat), i ≤ l.length → l.length - i < F → ∀ k0 : List ByteArray → Option β, zj84 N F l (l.length : Int) (i : Int) ((l.take i).map itoaB ++ List.replicate (l.length - i) ByteArray.empty) k0 = k0 (l.map itoaB) := by
      intro F
      induction F with
      | zero => intro i _ h; omega
      | succ F ih =>
        intro i hi hF k0
        simp only [zj84, zj83]
        rcases Nat.lt_or_ge i l.length with h | h
        · have g1 : decide ((i : Int) < (l.length : Int)) = true := decide_eq_true (by omega)
          have g2 : decide ((0 : Int) ≤ (i : Int)) = true := decide_eq_true (by omega)
          simp only [g1, g2, gd, cond_true]
          rw [impl_FormatInt_eq N _ (rd_in l hr i h), decide_eq_true (by simp; omega), cond_true]
          rw [show w64 ((i : Int) + 1) = ((i + 1 : Nat) : Int) by rw [w64_id] <;> omega, show l.length - i = (l.length - (i + 1)) + 1 by omega, List.replicate_succ]
          have e : wr ((l.take i).map itoaB ++ ByteArray.empty :: List.replicate (l.length - (i + 1)) ByteArray.empty) (i : Int) (B (Lib.itoa (rd 0 l (i : Int)))) = (l.take (i + 1)).map itoaB ++ List.replicate (l.length - (i + 1)) ByteArray.empty := by
            rw [rd_nat 0 l i h, List.take_add_one, List.getElem?_eq_getElem h]
            have hlen : ((l.take i).map itoaB).length = i := by simp; omega
            have hw : ∀ (p r : List ByteArray) (y z : ByteArray), wr (p ++ y :: r) (p.length : Int) z = p ++ z :: r := by intro p r y z; simp [wr]
            have := hw ((l.take i).map itoaB) (List.replicate (l.length - (i + 1)) ByteArray.empty) ByteArray.empty (B (Lib.itoa l[i]))
            rw [hlen] at this
            rw [this, List.map_append, List.append_assoc]
            rfl
          rw [e]
          exact ih (i + 1) h (by omega) k0
        · have : i = l.length := by omega
          subst this
          rw [decide_eq_false (by omega), cond_false]
          simp
    have := main N 0 (by omega) (by omega) fun e => strings_Join N e (strOf [44]) fun r4 => k r4
    simp only [List.take_zero, List.map_nil, List.nil_append, Nat.sub_zero] at this
    refine this.trans ?_
    have hj : joinB (l.map itoaB) (strOf [44]) = B (textL l) := by
      rw [textL_join l h0]
      unfold joinB B
      rw [List.map_map]
      congr 3
    have htl := textL_len l hr
    unfold strings_Join
    rw [hj, gd_true (decide_eq_true (by simp; omega)), gd_true (decide_eq_true (by rw [B_size]; omega))]
end Go.Proofs.YtfdggelojmofmaaDoor
namespace Go.Proofs.YtfdggelojmofmaaDoor
open Go.Rv
set_option linter.unusedVariables false
variable {β : Type}
theorem sz4 {n : Nat} (h : n ≤ 4) : 2 ^ n ≤ 16 := Nat.le_trans (Nat.pow_le_pow_right (by decide) h) (by decide)
/-- That all from a place on are such. -/
def allF (p : Nat → Bool) : Nat → Nat → Bool
  | 0, _ => true
  | d + 1, i => p i && allF p d (i + 1)
theorem allF_loop (g : Nat → Nat → Option β) (p : Nat → Bool) (ka ke : Option β) (m : Nat) (hs : ∀ F i, i < m → g (F + 1) i = cond (p i) (g F (i + 1)) ke) (he : ∀ F, g (F + 1) m = ka) :
    ∀ (d F i : Nat), i + d = m → d < F → g F i = cond (allF p d i) ka ke
  | 0, F, i, h, hF => by
    obtain ⟨G, rfl⟩ : ∃ G, F = G + 1 := ⟨F - 1, by omega⟩
    rw [show i = m by omega, he]
    rfl
  | d + 1, F, i, h, hF => by
    obtain ⟨G, rfl⟩ : ∃ G, F = G + 1 := ⟨F - 1, by omega⟩
    rw [hs G i (by omega)]
    simp only [allF]
    cases p i with
    | false => rfl
    | true => exact allF_loop g p ka ke m hs he d G (i + 1) (by omega) (by omega)
theorem allF_congr {p q : Nat → Bool} : ∀ {d i : Nat}, (∀ j, i ≤ j → j < i + d → p j = q j) → allF p d i = allF q d i
  | 0, _, _ => rfl
  | d + 1, i, h => by
    simp only [allF]
    rw [h i (Nat.le_refl _) (by omega), allF_congr fun j h1 h2 => h j (by omega) (by omega)]
theorem allF_snoc (p : Nat → Bool) : ∀ d i, allF p (d + 1) i = (allF p d i && p (i + d))
  | 0, i => by simp [allF]
  | d + 1, i => by
    rw [allF, allF_snoc p d (i + 1), allF, Bool.and_assoc, show i + 1 + d = i + (d + 1) by omega]
theorem allF_true {p : Nat → Bool} : ∀ {d i : Nat}, allF p d i = true → ∀ j, i ≤ j → j < i + d → p j = true
  | 0, i, _, j, h1, h2 => by omega
  | d + 1, i, h, j, h1, h2 => by
    simp only [allF, Bool.and_eq_true] at h
    rcases Nat.eq_or_lt_of_le h1 with rfl | h3
    · exact h.1
    · exact allF_true h.2 j h3 (by omega)

theorem ContainsFunc_mem (N : Nat) (l : List Int) (hl : l.length ≤ 1048576) (hN : 1048576 < N) (f : Int → (Bool → Option β) → Option β) (p : Int → Bool) (hf : ∀ x ∈ l, ∀ k, f x k = k (p x)) (k : Bool → Option β) :
    zj74 N l f k = k (l.any p) := by
  unfold zj74 zj73
  have main : ∀ (F i : Nat), l.length - i < F → i ≤ l.length →
      zj72 N f F l (l.length : Int) (i : Int) (fun e => k (decide (e ≥ 0))) (k (decide ((-1 : Int) ≥ 0))) = k ((l.drop i).any p) := by
    intro F
    induction F with
    | zero => intro i h; omega
    | succ F ih =>
      intro i hF hi
      simp only [zj72, zj71]
      rcases Nat.lt_or_ge i l.length with h | h
      · have hx := List.getElem_mem h
        rw [decide_eq_true (by omega), cond_true, gd_true (decide_eq_true (by omega)), gd_true rfl, rd_nat 0 l i h, hf _ hx, List.drop_eq_getElem_cons h, List.any_cons]
        cases p l[i] with
        | true =>
          rw [cond_true, decide_eq_true (by omega)]
          rfl
        | false =>
          rw [cond_false, w64_succ i (by omega), ih (i + 1) (by omega) h, Bool.false_or]
      · have : i = l.length := by omega
        subst this
        rw [decide_eq_false (by omega), cond_false, List.drop_length]
        rfl
  have := main N 0 (by omega) (by omega)
  rw [List.drop_zero] at this
  exact this

/-- The input with one's row and the other's column. -/
def cr (k x y : Nat) : Nat := (x &&& (2 ^ k - 1)) ||| (y ^^^ (y &&& (2 ^ k - 1)))
theorem cr_spec : ∀ k, k ≤ 4 → ∀ x, x < 16 → ∀ y, y < 16 → ((x &&& (2 ^ k - 1)) + y - (y &&& (2 ^ k - 1)) = cr k x y ∧ (y &&& (2 ^ k - 1)) ≤ y) ∧ (cr k x y < 16 ∧ (x &&& (2 ^ k - 1)) < 16 ∧ (y ^^^ (y &&& (2 ^ k - 1))) < 16) := by decide +kernel
/-- Whether two inputs are apart. -/
def apt (W k v x y : Nat) : Bool := (bw W (cr k x y) != v) || (bw W (cr k y x) != v)
theorem apt_comm (W k v x y : Nat) : apt W k v x y = apt W k v y x := by unfold apt; rw [Bool.or_comm]
def li (l : List Nat) : List Int := l.map Int.ofNat
theorem li_len (l : List Nat) : (li l).length = l.length := by simp [li]
theorem li_rd (l : List Nat) (i : Nat) : rd 0 (li l) (i : Int) = ((l.getD i 0 : Nat) : Int) := by
  simp only [rd, li, Int.toNat_natCast, List.getD_eq_getElem?_getD, List.getElem?_map]
  cases l[i]? <;> rfl
theorem li_snoc (l : List Nat) (x : Nat) : li (l ++ [x]) = li l ++ [(x : Int)] := by simp [li]
theorem low_mask (k : Nat) (h : k ≤ 4) : w64 (shlI .i64 1 (k : Int) - 1) = ((2 ^ k - 1 : Nat) : Int) := by
  have h1 : 2 ^ k ≤ 16 := Nat.le_trans (Nat.pow_le_pow_right (by decide) h) (by decide)
  have h2 := Nat.two_pow_pos k
  rw [shl_one k (by omega), w64_id (by omega) (by omega)]
  omega
/-- Whether a set may go on with an input. -/
def ext (W k v : Nat) (l : List Nat) (x : Nat) : Bool := (bw W x == v) && l.all fun y => apt W k v y x
/-- The length of the longest set that goes on. -/
def ml (W k v : Nat) : Nat → Nat → List Nat → Nat
  | 0, _, l => l.length
  | d + 1, x, l => if ext W k v l x then max (ml W k v d (x + 1) (l ++ [x])) (ml W k v d (x + 1) l) else ml W k v d (x + 1) l
theorem ml_bound (W k v : Nat) : ∀ d x l, l.length ≤ ml W k v d x l ∧ ml W k v d x l ≤ l.length + d
  | 0, _, l => ⟨Nat.le_refl _, Nat.le_refl _⟩
  | d + 1, x, l => by
    have h1 := ml_bound W k v d (x + 1) l
    have h2 := ml_bound W k v d (x + 1) (l ++ [x])
    simp only [List.length_append, List.length_cons, List.length_nil] at h2
    simp only [ml]
    split <;> omega
/-- What is asked of each element of a set. -/
def pf (W n k v : Nat) (L : List Nat) (i : Nat) : Bool :=
  decide (L.getD i 0 < 2 ^ n) && ((i == 0 || decide (L.getD (i - 1) 0 < L.getD i 0)) && ((bw W (L.getD i 0) == v) && allF (fun j => apt W k v (L.getD j 0) (L.getD i 0)) i 0))
def Val (W n k v : Nat) (L : List Nat) : Prop := allF (pf W n k v L) L.length 0 = true

section
variable (N W n k v : Nat) (hN : 64 < N) (hn : n ≤ 4) (hk : k ≤ n) (hW : W < 2 ^ 2 ^ n) (hv : v ≤ 1)
include hN hn hk hW hv
theorem spec_fool_inner (L : List Nat) (hL : L.length ≤ 20) (hb : ∀ y ∈ L, y < 16) (i : Nat) (hi : i < L.length) (k0 : Bool → Option β) (k1 : Int → List Int → Int → Int → Int → Int → Option β) :
    zj9 N N (v : Int) (li L) ((2 ^ k - 1 : Nat) : Int) (i : Int) 0 (n : Int) (W : Int) k0 k1 = cond (allF (fun j => apt W k v (L.getD j 0) (L.getD i 0)) i 0) (k1 v (li L) ((2 ^ k - 1 : Nat) : Int) i n W) (k0 false) := by
  have _ := hv
  have hW' := two32 (by omega) hW
  have hk4 : 2 ^ k ≤ 16 := Nat.le_trans (Nat.pow_le_pow_right (by decide) (by omega : k ≤ 4)) (by decide)
  refine allF_loop (fun F j => zj9 N F (v : Int) (li L) ((2 ^ k - 1 : Nat) : Int) (i : Int) (j : Int) (n : Int) (W : Int) k0 k1) _ _ _ i (fun F j hj => ?_) (fun F => ?_) i N 0 (by omega) (by omega)
  · simp only [zj9, zj8, li_rd, li_len]
    have b1 : L.getD i 0 < 16 := by rw [List.getD_eq_getElem?_getD, List.getElem?_eq_getElem hi]; exact hb _ (List.getElem_mem hi)
    have b2 : L.getD j 0 < 16 := by rw [List.getD_eq_getElem?_getD, List.getElem?_eq_getElem (by omega : j < L.length)]; exact hb _ (List.getElem_mem _)
    generalize L.getD i 0 = x at b1 ⊢
    generalize L.getD j 0 = y at b2 ⊢
    obtain ⟨⟨a1, a2⟩, a3, a4, a5⟩ := cr_spec k (by omega) x b1 y b2
    obtain ⟨⟨c1, c2⟩, c3, c4, c5⟩ := cr_spec k (by omega) y b2 x b1
    rw [decide_eq_true (by omega : (j : Int) < (i : Int)), decide_eq_true (by omega : (0 : Int) ≤ (i : Int)), decide_eq_true (by omega : (i : Int) < (L.length : Int)), decide_eq_true (by omega : (0 : Int) ≤ (j : Int)), decide_eq_true (by omega : (j : Int) < (L.length : Int))]
    simp only [gd, cond_true]
    have e1 : w64 (w64 (bits .and .i64 (x : Int) ((2 ^ k - 1 : Nat) : Int) + (y : Int)) - bits .and .i64 (y : Int) ((2 ^ k - 1 : Nat) : Int)) = (cr k x y : Int) := by
      rw [bAnd x _ (by omega) (by omega), bAnd y _ (by omega) (by omega), w64_id (x := ((x &&& (2 ^ k - 1) : Nat) : Int) + (y : Int)) (by omega) (by omega), w64_id (by omega) (by omega)]
      omega
    have e2 : w64 (w64 (bits .and .i64 (y : Int) ((2 ^ k - 1 : Nat) : Int) + (x : Int)) - bits .and .i64 (x : Int) ((2 ^ k - 1 : Nat) : Int)) = (cr k y x : Int) := by
      rw [bAnd x _ (by omega) (by omega), bAnd y _ (by omega) (by omega), w64_id (x := ((y &&& (2 ^ k - 1) : Nat) : Int) + (x : Int)) (by omega) (by omega), w64_id (by omega) (by omega)]
      omega
    have ev : ∀ b : Nat, (((b : Nat) : Int) == (v : Int)) = (b == v) := fun b => by rw [Bool.eq_iff_iff, beq_iff_eq, beq_iff_eq]; exact Int.ofNat_inj
    rw [e1, e2, decide_eq_true (Int.natCast_nonneg (cr k x y)), decide_eq_true (Int.natCast_nonneg (cr k y x)), cond_true, cond_true, bit_at W _ (by omega), bit_at W _ (by omega), w64_succ j (by omega)]
    show cond (((bw W (cr k x y) : Nat) : Int) == (v : Int)) (cond (((bw W (cr k y x) : Nat) : Int) == (v : Int)) _ _) _ = _
    rw [ev, ev, apt_comm W k v y x]
    unfold apt bne
    cases bw W (cr k x y) == v with
    | false => rfl
    | true =>
      cases bw W (cr k y x) == v with
      | false => rfl
      | true => rfl
  · simp only [zj9, zj8]
    rw [decide_eq_false (by omega), cond_false]

theorem spec_IsFooling_n (L : List Nat) (hL : L.length ≤ 20) (hb : ∀ y ∈ L, y < 16) (K : Bool → Option β) :
    zj12 N (n : Int) (W : Int) (k : Int) (v : Int) (li L) K = K (allF (pf W n k v L) L.length 0) := by
  have hW' := two32 (by omega) hW
  have hs := sz4 hn
  have hz := Nat.two_pow_pos n
  have hz2 : (0 : Int) ≤ ((2 ^ n : Nat) : Int) := Int.natCast_nonneg _
  unfold zj12
  simp only [spec_IsTable_eq, isTn (by omega : n ≤ 5) hW, spec_l1In_eq]
  rw [decide_eq_true (by omega : (0 : Int) ≤ (k : Int)), decide_eq_true (by omega : (k : Int) ≤ (n : Int)), decide_eq_true (by omega : (0 : Int) ≤ (v : Int)), decide_eq_true (by omega : (v : Int) ≤ 1)]
  simp only [Bool.and_self, Bool.not_true, cond_false, gd, cond_true]
  rw [low_mask k (by omega)]
  refine (allF_loop (fun F i => zj11 N F (v : Int) (li L) ((2 ^ k - 1 : Nat) : Int) (i : Int) (n : Int) (W : Int) (fun e => K e) (K true)) (pf W n k v L) (K true) (K false) L.length (fun F i hi => ?_) (fun F => ?_) L.length N 0 (by omega) (by omega)).trans ?_
  · simp only [zj11, zj10, li_rd, li_len]
    have b1 : L.getD i 0 < 16 := by rw [List.getD_eq_getElem?_getD, List.getElem?_eq_getElem hi]; exact hb _ (List.getElem_mem hi)
    have hin := fun k0 k1 => spec_fool_inner (β := β) N W n k v hN hn hk hW hv L hL hb i hi k0 k1
    unfold pf
    generalize hx : L.getD i 0 = x at b1 hin ⊢
    rw [decide_eq_true (by omega : (i : Int) < (L.length : Int)), decide_eq_true (by omega : (0 : Int) ≤ (i : Int)), decide_eq_true (by omega : (0 : Int) ≤ (n : Int)), decide_eq_true (by omega : (0 : Int) ≤ (x : Int))]
    simp only [gd, cond_true, spec_l1In_eq]
    rw [shl_one n (by omega), w64_id (by omega) (by omega), decide_eq_true (by omega : (0 : Int) ≤ (x : Int)), Bool.true_and, show decide ((x : Int) ≤ ((2 ^ n : Nat) : Int) - 1) = decide (x < 2 ^ n) from decide_eq_decide.2 (by omega)]
    have ev : ((bits .and .i64 (shrI .i64 (W : Int) (x : Int)) 1) != (v : Int)) = !(bw W x == v) := by
      rw [bit_at W x (by omega)]
      show (!(((bw W x : Nat) : Int) == (v : Int))) = _
      congr 1
      rw [Bool.eq_iff_iff, beq_iff_eq, beq_iff_eq]; exact Int.ofNat_inj
    simp only [ev, hin]
    cases decide (x < 2 ^ n) with
    | false => rfl
    | true =>
      rw [Bool.not_true, cond_false, Bool.true_and]
      rcases Nat.eq_zero_or_pos i with h0 | h0
      · subst h0
        rw [decide_eq_false (by omega), cond_false]
        cases bw W x == v with
        | false => rfl
        | true => rfl
      · rw [decide_eq_true (by omega), cond_true, beq_eq_false_iff_ne.2 (by omega : i ≠ 0), Bool.false_or]
        rw [show w64 ((i : Int) - 1) = ((i - 1 : Nat) : Int) by rw [w64_id (by omega) (by omega)]; omega, decide_eq_true (by omega : (0 : Int) ≤ ((i - 1 : Nat) : Int)), decide_eq_true (by omega : ((i - 1 : Nat) : Int) < (L.length : Int)), cond_true, cond_true, li_rd, show decide ((x : Int) ≤ ((L.getD (i - 1) 0 : Nat) : Int)) = !decide (L.getD (i - 1) 0 < x) by
          rw [← decide_not]; exact decide_eq_decide.2 (by omega)]
        cases decide (L.getD (i - 1) 0 < x) with
        | false => rfl
        | true =>
          rw [Bool.not_true, cond_false, Bool.true_and]
          cases bw W x == v with
          | false => rfl
          | true =>
            rw [Bool.not_true, cond_false, Bool.true_and]
            cases allF (fun j => apt W k v (L.getD j 0) x) i 0 with
            | false => rfl
            | true =>
              rw [cond_true, cond_true, w64_succ i (by omega)]
  · simp only [zj11, zj10, li_len]
    rw [decide_eq_false (by omega), cond_false]
  · cases allF (pf W n k v L) L.length 0 <;> rfl
end

theorem getD_left (l : List Nat) (x i : Nat) (h : i < l.length) : (l ++ [x]).getD i 0 = l.getD i 0 := by
  simp only [List.getD_eq_getElem?_getD, List.getElem?_append_left h]
theorem getD_last (l : List Nat) (x : Nat) : (l ++ [x]).getD l.length 0 = x := by
  simp [List.getD_eq_getElem?_getD]
theorem allF_all (l : List Nat) (p : Nat → Bool) : ∀ d i, i + d = l.length → allF (fun j => p (l.getD j 0)) d i = (l.drop i).all p
  | 0, i, h => by rw [List.drop_eq_nil_of_le (by omega)]; rfl
  | d + 1, i, h => by
    have hi : i < l.length := by omega
    rw [List.drop_eq_getElem_cons hi, List.all_cons, allF, allF_all l p d (i + 1) (by omega), List.getD_eq_getElem?_getD, List.getElem?_eq_getElem hi]
    rfl
theorem val_snoc {W n k v : Nat} {l : List Nat} (hl : Val W n k v l) {x : Nat} (hx : x < 2 ^ n) (hlt : ∀ y ∈ l, y < x) : allF (pf W n k v (l ++ [x])) (l ++ [x]).length 0 = ext W k v l x := by
  rw [List.length_append, List.length_cons, List.length_nil, allF_snoc, Nat.zero_add]
  have h1 : allF (pf W n k v (l ++ [x])) l.length 0 = true := by
    rw [← hl]
    refine allF_congr fun j _ hj => ?_
    rw [Nat.zero_add] at hj
    unfold pf
    rw [getD_left l x j hj]
    congr 2
    · rcases Nat.eq_zero_or_pos j with rfl | h0
      · rfl
      · rw [getD_left l x (j - 1) (by omega)]
    · congr 1
      exact allF_congr fun i _ hi => by rw [getD_left l x i (by omega)]
  rw [h1, Bool.true_and]
  unfold pf ext
  rw [getD_last, decide_eq_true hx, Bool.true_and]
  have h2 : (l.length == 0 || decide ((l ++ [x]).getD (l.length - 1) 0 < x)) = true := by
    rcases Nat.eq_zero_or_pos l.length with h0 | h0
    · rw [h0]; rfl
    · rw [getD_left l x _ (by omega), decide_eq_true, Bool.or_true]
      rw [List.getD_eq_getElem?_getD, List.getElem?_eq_getElem (by omega : l.length - 1 < l.length)]
      exact hlt _ (List.getElem_mem _)
  rw [h2, Bool.true_and]
  congr 1
  rw [allF_congr (q := fun j => (fun y => apt W k v y x) (l.getD j 0)) (fun j _ hj => by rw [getD_left l x j (by omega)]), allF_all l (fun y => apt W k v y x) l.length 0 (by omega), List.drop_zero]
theorem val_next {W n k v : Nat} {l : List Nat} (hl : Val W n k v l) {x : Nat} (hx : x < 2 ^ n) (hlt : ∀ y ∈ l, y < x) (he : ext W k v l x = true) : Val W n k v (l ++ [x]) ∧ ∀ y ∈ l ++ [x], y < x + 1 := by
  refine ⟨by unfold Val; rw [val_snoc hl hx hlt, he], fun y hy => ?_⟩
  rcases List.mem_append.1 hy with hy | hy
  · have := hlt y hy; omega
  · simp only [List.mem_singleton] at hy; omega
theorem len_le {W n k v : Nat} {l : List Nat} {x : Nat} (hl : Val W n k v l) (hlt : ∀ y ∈ l, y < x) : l.length ≤ x := by
  have key : ∀ i, i < l.length → i ≤ l.getD i 0 := by
    intro i
    induction i with
    | zero => intro _; exact Nat.zero_le _
    | succ i ih =>
      intro hi
      have h1 := allF_true hl (i + 1) (Nat.zero_le _) (by omega)
      unfold pf at h1
      simp only [Bool.and_eq_true, Bool.or_eq_true, beq_iff_eq, decide_eq_true_eq] at h1
      have h2 := ih (by omega)
      rcases h1.2.1 with h3 | h3
      · omega
      · simp only [Nat.add_sub_cancel] at h3; omega
  rcases Nat.eq_zero_or_pos l.length with h0 | h0
  · omega
  · have h1 := key (l.length - 1) (by omega)
    have h2 : l.getD (l.length - 1) 0 < x := by
      rw [List.getD_eq_getElem?_getD, List.getElem?_eq_getElem (by omega : l.length - 1 < l.length)]
      exact hlt _ (List.getElem_mem _)
    omega

section
variable (N W n k v : Nat) (hN : 64 < N) (hn : n ≤ 4) (hk : k ≤ n) (hW : W < 2 ^ 2 ^ n) (hv : v ≤ 1)
include hN hn hk hW hv
theorem spec_l20_f : ∀ (d F x : Nat) (l : List Nat), x + d = 2 ^ n → d < F → Val W n k v l → (∀ y ∈ l, y < x) →
    ∃ r : List Int, r.length = ml W k v d x l ∧ ∀ K : List Int → Option β, zj16 N F (n : Int) (W : Int) (k : Int) (v : Int) (li l) (x : Int) K = K r := by
  have hs := sz4 hn
  have hz2 : (0 : Int) ≤ ((2 ^ n : Nat) : Int) := Int.natCast_nonneg _
  intro d
  induction d using Nat.strongRecOn with
  | _ d ihd =>
    intro F x l hx hF hl hlt
    obtain ⟨G, rfl⟩ : ∃ G, F = G + 1 := ⟨F - 1, by omega⟩
    have hll := len_le hl hlt
    have loop : ∀ (e H y : Nat) (best : List Int), y + e = 2 ^ n → e < H → x ≤ y → e ≤ d → l.length ≤ best.length →
        ∃ r : List Int, r.length = max best.length (ml W k v e y l) ∧ ∀ K : List Int → Option β, zj14 N (zj16 N G) H (k : Int) (v : Int) (li l) best (y : Int) (n : Int) (W : Int) K = K r := by
      intro e
      induction e with
      | zero =>
        intro H y best hy hH _ _ hb
        obtain ⟨H, rfl⟩ : ∃ H', H = H' + 1 := ⟨H - 1, by omega⟩
        refine ⟨best, by simp only [ml]; omega, fun K => ?_⟩
        simp only [zj14, zj13]
        rw [gd_true (decide_eq_true (by omega)), shl_one n (by omega), decide_eq_false (by omega), cond_false]
      | succ e ihe =>
        intro H y best hy hH hxy hed hb
        obtain ⟨H, rfl⟩ : ∃ H', H = H' + 1 := ⟨H - 1, by omega⟩
        have hyn : y < 2 ^ n := by omega
        have hlty : ∀ z ∈ l, z < y := fun z hz => by have := hlt z hz; omega
        have hb16 : ∀ z ∈ l ++ [y], z < 16 := fun z hz => by
          rcases List.mem_append.1 hz with hz | hz
          · have := hlty z hz; omega
          · simp only [List.mem_singleton] at hz; omega
        have hfool := fun K => spec_IsFooling_n (β := β) N W n k v hN hn hk hW hv (l ++ [y]) (by simp; omega) hb16 K
        rw [val_snoc hl hyn hlty, li_snoc] at hfool
        have step : ∀ K : List Int → Option β, zj14 N (zj16 N G) (H + 1) (k : Int) (v : Int) (li l) best (y : Int) (n : Int) (W : Int) K =
            cond (!ext W k v l y) (zj14 N (zj16 N G) H (k : Int) (v : Int) (li l) best ((y + 1 : Nat) : Int) (n : Int) (W : Int) K)
              (zj16 N G (n : Int) (W : Int) (k : Int) (v : Int) (li l ++ [(y : Int)]) ((y + 1 : Nat) : Int) fun r8 => cond (decide ((r8.length : Int) > (best.length : Int)))
                (zj14 N (zj16 N G) H (k : Int) (v : Int) (li l) r8 ((y + 1 : Nat) : Int) (n : Int) (W : Int) K)
                (zj14 N (zj16 N G) H (k : Int) (v : Int) (li l) best ((y + 1 : Nat) : Int) (n : Int) (W : Int) K)) := fun K => by
          simp only [zj14, zj13, List.nil_append]
          rw [gd_true (decide_eq_true (by omega)), shl_one n (by omega), decide_eq_true (by omega), cond_true, gd_true (decide_eq_true (by simp [li_len]; omega)), gd_true (decide_eq_true (by simp [li_len]; omega)), hfool, w64_succ y (by omega)]
        simp only [step, ml]
        cases he : ext W k v l y with
        | false =>
          obtain ⟨r, h1, h2⟩ := ihe H (y + 1) best (by omega) (by omega) (by omega) (by omega) hb
          refine ⟨r, by rw [h1, if_neg (by decide)], fun K => ?_⟩
          rw [Bool.not_false, cond_true, h2]
        | true =>
          obtain ⟨hv1, hv2⟩ := val_next hl hyn hlty he
          obtain ⟨r8, h1, h2⟩ := ihd e (by omega) G (y + 1) (l ++ [y]) (by omega) (by omega) hv1 hv2
          rw [li_snoc] at h2
          simp only [Bool.not_true, cond_false, h2]
          have hmb := ml_bound W k v e (y + 1) (l ++ [y])
          simp only [List.length_append, List.length_cons, List.length_nil] at hmb
          by_cases hgt : best.length < r8.length
          · obtain ⟨r, h3, h4⟩ := ihe H (y + 1) r8 (by omega) (by omega) (by omega) (by omega) (by omega)
            refine ⟨r, by rw [h3, if_pos trivial]; omega, fun K => ?_⟩
            rw [decide_eq_true (by omega), cond_true, h4]
          · obtain ⟨r, h3, h4⟩ := ihe H (y + 1) best (by omega) (by omega) (by omega) (by omega) hb
            refine ⟨r, by rw [h3, if_pos trivial]; omega, fun K => ?_⟩
            rw [decide_eq_false (by omega), cond_false, h4]
    obtain ⟨r, h1, h2⟩ := loop d N x (li l) hx (by omega) (Nat.le_refl _) (Nat.le_refl _) (by rw [li_len]; exact Nat.le_refl _)
    have hmb := ml_bound W k v d x l
    refine ⟨r, by rw [h1, li_len]; omega, fun K => ?_⟩
    simp only [zj16, zj15]
    exact h2 K

theorem impl_apart_eq (x y : Nat) (hx : x < 16) (hy : y < 16) (b : List Int) (K : Bool → Option β) : zj69 N (y : Int) (n : Int) (W : Int) (k : Int) (v : Int) b (x : Int) K = K (!apt W k v y x) := by
  have _ := hv; have _ := hN
  have hW' := two32 (by omega) hW
  have hk4 : 2 ^ k ≤ 16 := Nat.le_trans (Nat.pow_le_pow_right (by decide) (by omega : k ≤ 4)) (by decide)
  obtain ⟨⟨a1, a2⟩, a3, a4, a5⟩ := cr_spec k (by omega) x hx y hy
  obtain ⟨⟨c1, c2⟩, c3, c4, c5⟩ := cr_spec k (by omega) y hy x hx
  have ev : ∀ b : Nat, (((b : Nat) : Int) != (v : Int)) = (b != v) := fun b => by unfold bne; congr 1; rw [Bool.eq_iff_iff, beq_iff_eq, beq_iff_eq]; exact Int.ofNat_inj
  unfold zj69 zj68
  rw [gd_true (decide_eq_true (by omega)), low_mask k (by omega), bAnd x _ (by omega) (by omega), bAnd y _ (by omega) (by omega), bAndNot x _ (by omega) (by omega), bAndNot y _ (by omega) (by omega), bOr _ _ (by omega) (by omega), bOr _ _ (by omega) (by omega)]
  rw [show ((y &&& (2 ^ k - 1)) ||| (x ^^^ (x &&& (2 ^ k - 1)))) = cr k y x from rfl, show ((x &&& (2 ^ k - 1)) ||| (y ^^^ (y &&& (2 ^ k - 1)))) = cr k x y from rfl, impl_Table_at_eq N W _ _ hW', impl_Table_at_eq N W _ _ hW', ev, ev]
  unfold apt
  cases bw W (cr k y x) != v with
  | true => rfl
  | false => rfl
end
end Go.Proofs.YtfdggelojmofmaaDoor
namespace Go.Proofs.YtfdggelojmofmaaDoor
open Go.Rv
set_option linter.unusedVariables false
variable {β : Type}
theorem spec_LargestFooling_n (N W n k v : Nat) (hN : 64 < N) (hn : n ≤ 4) (hk : k ≤ n) (hW : W < 2 ^ 2 ^ n) (hv : v ≤ 1) :
    ∃ r : List Int, r.length = ml W k v (2 ^ n) 0 [] ∧ ∀ K : List Int → Bool → Option β, zj18 N (n : Int) (W : Int) (k : Int) (v : Int) K = K r true := by
  have hs := sz4 hn
  obtain ⟨r, h1, h2⟩ := spec_l20_f (β := β) N W n k v hN hn hk hW hv (2 ^ n) N 0 [] (by omega) (by omega) rfl (fun y hy => by cases hy)
  refine ⟨r, h1, fun K => ?_⟩
  unfold zj18
  simp only [spec_IsTable_eq, isTn (by omega : n ≤ 5) hW, spec_l1In_eq]
  rw [decide_eq_true (by omega : (0 : Int) ≤ (k : Int)), decide_eq_true (by omega : (k : Int) ≤ (n : Int)), decide_eq_true (by omega : (0 : Int) ≤ (v : Int)), decide_eq_true (by omega : (v : Int) ≤ 1), decide_eq_false (by omega : ¬ (n : Int) > 4)]
  simp only [Bool.and_self, Bool.not_true, cond_false]
  exact h2 fun r9 => K r9 true

section
variable (N W n k v : Nat) (hN : 1048576 < N) (hn : n ≤ 4) (hk : k ≤ n) (hW : W < 2 ^ 2 ^ n) (hv : v ≤ 1)
include hN hn hk hW hv
theorem impl_Contains_ext (l : List Nat) (hl : l.length ≤ 16) (hlt : ∀ y ∈ l, y < 16) (x : Nat) (hx : x < 16) (b : List Int) (K : Bool → Option β) :
    zj74 N (li l) (fun x0 k' => zj69 N x0 (n : Int) (W : Int) (k : Int) (v : Int) b (x : Int) k') K = K (!l.all fun y => apt W k v y x) := by
  rw [ContainsFunc_mem N (li l) (by rw [li_len]; omega) hN _ (fun y => !apt W k v y.toNat x)]
  · congr 1
    unfold li
    rw [List.any_map, List.not_all_eq_any_not]
    rfl
  · intro y hy K
    unfold li at hy
    obtain ⟨z, hz, rfl⟩ := List.mem_map.1 hy
    exact impl_apart_eq N W n k v (by omega) hn hk hW hv x z hx (hlt z hz) b K

theorem grow_f : ∀ (d F x : Nat) (l : List Nat) (best : List Int), x + d = 2 ^ n → d < F → Val W n k v l → (∀ y ∈ l, y < x) → best.length ≤ 16 →
    ∃ r : List Int, r.length = max best.length (ml W k v d x l) ∧ ∀ K : Int → Int → Int → Int → List Int → List Int → Option β, zj79 N F (x : Int) (n : Int) (W : Int) (k : Int) (v : Int) best (li l) K = K n W k v r (li l) := by
  have hs := sz4 hn
  have hW' := two32 (by omega) hW
  have hz2 : (0 : Int) ≤ ((2 ^ n : Nat) : Int) := Int.natCast_nonneg _
  intro d
  induction d using Nat.strongRecOn with
  | _ d ihd =>
    intro F x l best0 hx hF hl hlt hb0
    obtain ⟨G, rfl⟩ : ∃ G, F = G + 1 := ⟨F - 1, by omega⟩
    have hll := len_le hl hlt
    have hcl : ∀ m : List Int, m.length ≤ 16 → ∀ K : List Int → Option β, slices_Clone_Sint_int N m K = K m := fun m hm K => by
      unfold slices_Clone_Sint_int
      rw [gd_true (decide_eq_true (by omega))]
    have hli : (li l).length ≤ 16 := by rw [li_len]; omega
    have loop : ∀ (e H y : Nat) (best : List Int), y + e = 2 ^ n → e < H → x ≤ y → e ≤ d → l.length ≤ best.length → best.length ≤ 16 →
        ∃ r : List Int, r.length = max best.length (ml W k v e y l) ∧ ∀ K : Int → Int → Int → Int → List Int → List Int → Option β,
          zj77 N (zj79 N G) H (n : Int) (W : Int) (k : Int) (v : Int) best (li l) (y : Int) K = K n W k v r (li l) := by
      intro e
      induction e with
      | zero =>
        intro H y best hy hH _ _ hb hb2
        obtain ⟨H, rfl⟩ : ∃ H', H = H' + 1 := ⟨H - 1, by omega⟩
        refine ⟨best, by simp only [ml]; omega, fun K => ?_⟩
        simp only [zj77, zj76]
        rw [impl_Table_size_eq N n _ (by omega), decide_eq_false (by omega), cond_false]
      | succ e ihe =>
        intro H y best hy hH hxy hed hb hb2
        obtain ⟨H, rfl⟩ : ∃ H', H = H' + 1 := ⟨H - 1, by omega⟩
        have hyn : y < 2 ^ n := by omega
        have hlty : ∀ z ∈ l, z < y := fun z hz => by have := hlt z hz; omega
        have hb16 : ∀ z ∈ l, z < 16 := fun z hz => by have := hlty z hz; omega
        have step : ∀ K : Int → Int → Int → Int → List Int → List Int → Option β, zj77 N (zj79 N G) (H + 1) (n : Int) (W : Int) (k : Int) (v : Int) best (li l) (y : Int) K =
            cond (decide (((l.length + 2 ^ n - y : Nat) : Int) > (best.length : Int)))
              (cond (bw W y == v)
                (cond (l.all fun z => apt W k v z y)
                  (zj79 N G ((y + 1 : Nat) : Int) (n : Int) (W : Int) (k : Int) (v : Int) best (li l ++ [(y : Int)]) fun r0 r1 r2 r3 r4 r5 =>
                    zj79 N G ((y + 1 : Nat) : Int) (n : Int) (W : Int) (k : Int) (v : Int) best (li l ++ [(y : Int)]) fun u0 u1 u2 u3 u4 u5 =>
                      zj75 r0 r1 r2 r3 r4 (li l) (y : Int) u0 u1 u2 u3 u4 (li l) (y : Int) (zj77 N (zj79 N G) H r0 r1 r2 r3 r4 (li l) ((y + 1 : Nat) : Int) K))
                  (zj77 N (zj79 N G) H (n : Int) (W : Int) (k : Int) (v : Int) best (li l) ((y + 1 : Nat) : Int) K))
                (zj77 N (zj79 N G) H (n : Int) (W : Int) (k : Int) (v : Int) best (li l) ((y + 1 : Nat) : Int) K))
              (K n W k v best (li l)) := fun K => by
          have hcon := fun K => impl_Contains_ext (β := β) N W n k v hN hn hk hW hv l (by omega) hb16 y (by omega) best K
          have ev : (((bw W y : Nat) : Int) == (v : Int)) = (bw W y == v) := by rw [Bool.eq_iff_iff, beq_iff_eq, beq_iff_eq]; exact Int.ofNat_inj
          have ew : w64 (w64 (((li l).length : Int) + ((2 ^ n : Nat) : Int)) - (y : Int)) = ((l.length + 2 ^ n - y : Nat) : Int) := by
            rw [li_len, w64_id (x := (l.length : Int) + ((2 ^ n : Nat) : Int)) (by omega) (by omega), w64_id (by omega) (by omega)]
            omega
          have hg8 : decide (((li l).length + ([(y : Int)] : List Int).length) * 8 ≤ 140737488355328) = true := decide_eq_true (by simp only [List.length_cons, List.length_nil]; omega)
          simp only [zj77, zj76, impl_Table_size_eq N n _ (by omega : n ≤ 5), impl_Table_at_eq N W _ _ hW', hcon, hcl _ hli, List.nil_append, ev, ew, hg8, Bool.not_not, w64_succ y (by omega)]
          rw [decide_eq_true (by omega : (y : Int) < ((2 ^ n : Nat) : Int)), cond_true]
          rfl
        have hmb := ml_bound W k v e (y + 1) (l ++ [y])
        have hmb2 := ml_bound W k v e (y + 1) l
        simp only [List.length_append, List.length_cons, List.length_nil] at hmb
        simp only [step, ml]
        by_cases hgt : best.length < l.length + 2 ^ n - y
        · simp only [decide_eq_true (by omega : ((l.length + 2 ^ n - y : Nat) : Int) > (best.length : Int)), cond_true]
          cases h1 : bw W y == v with
          | false =>
            have he : ext W k v l y = false := by unfold ext; rw [h1]; rfl
            obtain ⟨r, h3, h4⟩ := ihe H (y + 1) best (by omega) (by omega) (by omega) (by omega) hb hb2
            refine ⟨r, by rw [h3, he, if_neg (by decide)], fun K => ?_⟩
            rw [cond_false, h4]
          | true =>
            cases h2 : l.all fun z => apt W k v z y with
            | false =>
              have he : ext W k v l y = false := by unfold ext; rw [h1, h2]; rfl
              obtain ⟨r, h3, h4⟩ := ihe H (y + 1) best (by omega) (by omega) (by omega) (by omega) hb hb2
              refine ⟨r, by rw [h3, he, if_neg (by decide)], fun K => ?_⟩
              rw [cond_true, cond_false, h4]
            | true =>
              have he : ext W k v l y = true := by unfold ext; rw [h1, h2]; rfl
              obtain ⟨hv1, hv2⟩ := val_next hl hyn hlty he
              obtain ⟨r8, a1, a2⟩ := ihd e (by omega) G (y + 1) (l ++ [y]) best (by omega) (by omega) hv1 hv2 hb2
              rw [li_snoc] at a2
              obtain ⟨r, h3, h4⟩ := ihe H (y + 1) r8 (by omega) (by omega) (by omega) (by omega) (by omega) (by omega)
              refine ⟨r, by rw [h3, he, if_pos rfl]; omega, fun K => ?_⟩
              rw [cond_true, cond_true, a2, a2]
              unfold zj75
              simp only [beq_self_eq_true, gd, cond_true]
              exact h4 K
        · simp only [decide_eq_false (by omega : ¬ ((l.length + 2 ^ n - y : Nat) : Int) > (best.length : Int)), cond_false]
          refine ⟨best, ?_, fun K => rfl⟩
          split <;> omega
    have hmb := ml_bound W k v d x l
    by_cases hgt : best0.length < l.length
    · obtain ⟨r, h1, h2⟩ := loop d N x (li l) hx (by omega) (Nat.le_refl _) (Nat.le_refl _) (by rw [li_len]; exact Nat.le_refl _) hli
      refine ⟨r, by rw [h1, li_len]; omega, fun K => ?_⟩
      simp only [zj79, zj78, hcl _ hli]
      rw [decide_eq_true (by rw [li_len]; omega), cond_true]
      exact h2 K
    · obtain ⟨r, h1, h2⟩ := loop d N x best0 hx (by omega) (Nat.le_refl _) (Nat.le_refl _) (by omega) hb0
      refine ⟨r, by rw [h1], fun K => ?_⟩
      simp only [zj79, zj78]
      rw [decide_eq_false (by rw [li_len]; omega), cond_false]
      exact h2 K

theorem impl_LargestFooling_n : ∃ r : List Int, r.length = ml W k v (2 ^ n) 0 [] ∧ ∀ K : List Int → Bool → Option β, zj81 N (n : Int) (W : Int) (k : Int) (v : Int) K = K r true := by
  have hs := sz4 hn
  have hW' := two32 (by omega) hW
  have hz2 : (0 : Int) ≤ ((2 ^ n : Nat) : Int) := Int.natCast_nonneg _
  obtain ⟨r, h1, h2⟩ := grow_f (β := β) N W n k v hN hn hk hW hv (2 ^ n) N 0 [] [] (by omega) (by omega) rfl (fun y hy => by cases hy) (Nat.zero_le _)
  have hmb := ml_bound W k v (2 ^ n) 0 []
  refine ⟨r, by rw [h1]; simp, fun K => ?_⟩
  unfold zj81 zj62 zj67
  rw [impl_IsTable_eq N _ _ (by omega), isTn (by omega) hW, cond_true, decide_eq_true (by omega : (k : Int) ≥ 0), cond_true, decide_eq_true (by omega : (k : Int) ≤ (n : Int)), decide_eq_false (by omega : ¬ (n : Int) > 4)]
  simp only [Bool.not_true, cond_false]
  unfold zj80
  rcases (show v = 0 ∨ v = 1 by omega) with rfl | rfl
  · exact h2 _
  · exact h2 _
end
end Go.Proofs.YtfdggelojmofmaaDoor
