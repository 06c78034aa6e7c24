/- Spectra: both texts reckon the same sums of signs. -/
import Derived.Test.YtfdggelojmofmaaDoorP40
namespace Go.Proofs.YtfdggelojmofmaaDoor
open Go.Rv
variable {β : Type}
/-- A loop that counts up. -/
theorem loop_st (g : Nat → Nat → Option β) (m : Nat) (r : Option β) (hs : ∀ F i, i < m → g (F + 1) i = g F (i + 1)) (he : ∀ F, g (F + 1) m = r) :
    ∀ (F i : Nat), i ≤ m → m - i < F → g F i = r := by
  intro F
  induction F with
  | zero => intro i _ h; omega
  | succ F ih =>
    intro i hi hF
    rcases Nat.lt_or_ge i m with h | h
    · rw [hs F i h]; exact ih (i + 1) h (by omega)
    · have : i = m := by omega
      subst this; exact he F

/-- A loop that counts up from a place. -/
theorem loop_from (g : Nat → Nat → Option β) (i0 m : Nat) (r : Option β) (hs : ∀ F i, i0 ≤ i → i < m → g (F + 1) i = g F (i + 1)) (he : ∀ F, g (F + 1) m = r) :
    ∀ (F i : Nat), i0 ≤ i → i ≤ m → m - i < F → g F i = r := by
  intro F
  induction F with
  | zero => intro i _ _ h; omega
  | succ F ih =>
    intro i h0 hi hF
    rcases Nat.lt_or_ge i m with h | h
    · rw [hs F i h0 h]; exact ih (i + 1) (by omega) h (by omega)
    · have : i = m := by omega
      subst this; exact he F

def sumTo (h : Nat → Int) : Nat → Int
  | 0 => 0
  | m + 1 => sumTo h m + h m
theorem sumTo_le (h : Nat → Int) (hb : ∀ i, -1 ≤ h i ∧ h i ≤ 1) : ∀ m : Nat, -(m : Int) ≤ sumTo h m ∧ sumTo h m ≤ (m : Int)
  | 0 => by simp [sumTo]
  | m + 1 => by have := sumTo_le h hb m; have := hb m; simp only [sumTo]; omega

def sg (m : Nat) : Int := if m % 2 = 1 then -1 else 1
theorem sg_add (a b : Nat) : sg (a + b) = sg a * sg b := by
  unfold sg
  rcases Nat.mod_two_eq_zero_or_one a with h1 | h1 <;> rcases Nat.mod_two_eq_zero_or_one b with h2 | h2 <;> simp [h1, h2, Nat.add_mod]
theorem sg_range (a b : Nat) : -1 ≤ sg a * sg b ∧ sg a * sg b ≤ 1 := by
  rw [← sg_add]
  unfold sg
  split <;> simp
def bw (w x : Nat) : Nat := if w.testBit x then 1 else 0
theorem ones_bw (w x : Nat) : ones (bw w x) = bw w x := by
  unfold bw
  split <;> rfl
theorem bw_le (w x : Nat) : bw w x ≤ 1 := by unfold bw; split <;> omega

/-- The term of a set and an input. -/
def tm (w u x : Nat) : Int := sg (bw w x) * sg (ones (u &&& x))
theorem tm_range (w u x : Nat) : -1 ≤ tm w u x ∧ tm w u x ≤ 1 := sg_range _ _
def sps (w n m : Nat) : List Int := (List.range m).map fun u => sumTo (tm w u) (2 ^ n)
theorem sps_len (w n m : Nat) : (sps w n m).length = m := by simp [sps]
theorem sps_succ (w n m : Nat) : sps w n (m + 1) = sps w n m ++ [sumTo (tm w m) (2 ^ n)] := by simp [sps, List.range_succ]
theorem isTn {n w : Nat} (hn : n ≤ 5) (hw : w < 2 ^ 2 ^ n) : isT (n : Int) (w : Int) = true := by
  have h4 : ((w : Nat) : Int) < 2 ^ 2 ^ n := by exact_mod_cast hw
  simp only [isT, Bool.and_eq_true, decide_eq_true_eq, Int.toNat_natCast]
  exact ⟨⟨⟨by omega, by omega⟩, by omega⟩, h4⟩
theorem w_small {n w : Nat} (hn : n ≤ 5) (hw : w < 2 ^ 2 ^ n) : w < 4294967296 :=
  Nat.lt_of_lt_of_le hw (Nat.le_trans (Nat.pow_le_pow_right (by decide) (size_le hn)) (by decide))

theorem rd_mid (p : List Int) (y : Int) (r : List Int) : rd 0 (p ++ y :: r) (p.length : Int) = y := by
  simp [rd, List.getD]
theorem wr_mid {α : Type} (p : List α) (y z : α) (r : List α) : wr (p ++ y :: r) (p.length : Int) z = p ++ z :: r := by
  simp [wr]

/-! ### Energies -/
def en (l z : List Int) : Nat → List Int
  | 0 => z
  | i + 1 => wr (en l z i) (ones i : Int) (w64 (rd 0 (en l z i) (ones i : Int) + w64 (rd 0 l (i : Int) * rd 0 l (i : Int))))
theorem en_len (l z : List Int) : ∀ i, (en l z i).length = z.length
  | 0 => rfl
  | i + 1 => by simp [en, wr, en_len l z i]
theorem ones_small : ∀ n, n ≤ 5 → ∀ i, i < 2 ^ n → ones i ≤ n := by decide +kernel

/-! ### Nonlinearity -/
def pkS (l : List Int) : Nat → Int
  | 0 => 0
  | i + 1 => mxI (pkS l i) (mxI (rd 0 l (i : Int)) (w64 (0 - rd 0 l (i : Int))))
def nonl (w n : Nat) : Int := quoI .i64 (w64 (((2 ^ n : Nat) : Int) - pkS (sps w n (2 ^ n)) (2 ^ n))) 2
theorem two_pos (n : Nat) : 0 < 2 ^ n := Nat.pow_pos (by decide)
/-! ### Immunity -/
def ci (l : List Int) (n : Int) : Nat → Int
  | 0 => n
  | i + 1 => cond (decide (0 < i) && (rd 0 l (i : Int) != 0)) (mnI (ci l n i) (w64 ((ones i : Int) - 1))) (ci l n i)
/-! ### Rejects -/
def rj (w x y : Nat) : Int := bits .xor .i64 (bits .xor .i64 (bw w x : Int) (bw w y : Int)) (bw w (x ^^^ y) : Int)
def rj2 (w x : Nat) (s : Int) : Nat → Int
  | 0 => s
  | y + 1 => w64 (rj2 w x s y + rj w x y)
def rj1 (w m : Nat) : Nat → Int
  | 0 => 0
  | x + 1 => rj2 w x (rj1 w m x) m
theorem bit3 (w x y z : Nat) (hw : w < 4294967296) : bits .and .i64 (bits .xor .i64 (bits .xor .i64 (shrI .i64 (w : Int) (x : Int)) (shrI .i64 (w : Int) (y : Int))) (shrI .i64 (w : Int) (z : Int))) 1 = bits .xor .i64 (bits .xor .i64 (bw w x : Int) (bw w y : Int)) (bw w z : Int) := by
  have hx := Nat.div_le_self w (2 ^ x); have hy := Nat.div_le_self w (2 ^ y); have hz := Nat.div_le_self w (2 ^ z)
  have b1 := bw_le w x; have b2 := bw_le w y; have b3 := bw_le w z
  have e : ∀ i, bw w i = w / 2 ^ i % 2 := fun i => by
    unfold bw
    rw [Nat.testBit_eq_decide_div_mod_eq]
    rcases Nat.mod_two_eq_zero_or_one (w / 2 ^ i) with h | h <;> simp [h]
  have c1 : w / 2 ^ x ^^^ w / 2 ^ y < 2 ^ 32 := Nat.xor_lt_two_pow (by omega) (by omega)
  have c2 : (w / 2 ^ x ^^^ w / 2 ^ y) ^^^ w / 2 ^ z < 2 ^ 32 := Nat.xor_lt_two_pow c1 (by omega)
  have d1 : bw w x ^^^ bw w y < 2 ^ 1 := Nat.xor_lt_two_pow (by omega) (by omega)
  rw [shr_nat w x (by omega), shr_nat w y (by omega), shr_nat w z (by omega), bXor _ _ (by omega) (by omega), bXor _ _ (by omega) (by omega), show (1 : Int) = ((1 : Nat) : Int) from rfl, bAnd _ _ (by omega) (by omega), bXor _ _ (by omega) (by omega), bXor _ _ (by omega) (by omega)]
  congr 1
  rw [Nat.and_one_is_mod, e x, e y, e z]
  have m2 : ∀ a b : Nat, (a ^^^ b) % 2 = (a % 2) ^^^ (b % 2) := fun a b => by
    have := Nat.xor_mod_two_pow (a := a) (b := b) (n := 1)
    simpa using this
  rw [m2, m2]
end Go.Proofs.YtfdggelojmofmaaDoor
