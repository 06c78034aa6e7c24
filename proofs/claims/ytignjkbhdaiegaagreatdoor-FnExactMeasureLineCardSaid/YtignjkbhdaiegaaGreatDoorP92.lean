/- Plain laws of the texts. -/
import Derived.Test.YtignjkbhdaiegaaGreatDoorP91
import Derived.Test.YtignjkbhdaiegaaGreatDoorRvNum
namespace Go.Proofs.YtignjkbhdaiegaaGreatDoor
open Go.Rv
set_option linter.unusedVariables false
variable {β : Type}
theorem mxI_nat (a b : Nat) : mxI (a : Int) (b : Int) = ((max a b : Nat) : Int) := by unfold mxI; split <;> omega
theorem mnI_nat (a b : Nat) : mnI (a : Int) (b : Int) = ((min a b : Nat) : Int) := by unfold mnI; split <;> omega
/-- The greatest of some numbers, 0 at least. -/
def mx (f : Nat → Nat) : Nat → Nat
  | 0 => 0
  | m + 1 => max (mx f m) (f m)
theorem mx_le (f : Nat → Nat) (B : Nat) : ∀ m, (∀ x, x < m → f x ≤ B) → mx f m ≤ B
  | 0, _ => Nat.zero_le _
  | m + 1, h => by
    have h1 := mx_le f B m fun x hx => h x (by omega)
    have h2 := h m (by omega)
    simp only [mx]
    omega

theorem sens_le (w n x : Nat) : sens w n x ≤ n := cnt_le _ n
theorem spec_l10At_eq (N : Nat) (hN : 64 < N) (n w x : Nat) (hn : n ≤ 5) (hw : w < 2 ^ 2 ^ n) (hx : x < 2 ^ n) (k : Int → Option β) : j6 N (n : Int) (w : Int) (x : Int) k = k (sens w n x : Int) := by
  have hw' := two32 hn hw
  have hs := size_le hn
  unfold j6
  have key : ∀ (F i : Nat), n - i < F → i ≤ n → j5 N F (x : Int) (cnt (fun i => edge w i x) i : Int) (i : Int) (n : Int) (w : Int) k = k (sens w n x : Int) := by
    intro F
    induction F with
    | zero => intro i h; omega
    | succ F ih =>
      intro i hF hi
      have hc := cnt_le (fun i => edge w i x) i
      simp only [j5, j4]
      by_cases hlt : i < n
      · have hp : 2 ^ i < 2 ^ 5 := Nat.pow_lt_pow_right (by decide) (by omega)
        have hxp : x ^^^ 2 ^ i < 2 ^ 5 := Nat.xor_lt_two_pow (by omega) hp
        rw [decide_eq_true (by omega : (i : Int) < (n : Int)), decide_eq_true (by omega : (0 : Int) ≤ (x : Int)), decide_eq_true (by omega : (0 : Int) ≤ (i : Int)), shl_one i (by omega), bXor x (2 ^ i) (by omega) (by omega), decide_eq_true (by omega : (0 : Int) ≤ ((x ^^^ 2 ^ i : Nat) : Int)), spec_bit2 w x _ hw', w64_succ i (by omega), ← Int.natCast_add]
        simp only [cond_true, gd_true rfl]
        have e : cnt (fun i => edge w i x) i + (if (w.testBit x != w.testBit (x ^^^ 2 ^ i)) = true then 1 else 0) = cnt (fun i => edge w i x) (i + 1) := rfl
        have hc' := cnt_le (fun i => edge w i x) (i + 1)
        rw [e, w64_nat _ (by omega)]
        exact ih (i + 1) (by omega) (by omega)
      · rw [decide_eq_false (by omega : ¬ (i : Int) < (n : Int)), cond_false, show i = n by omega]
        rfl
  exact key N 0 (by omega) (Nat.zero_le _)

/-- The sensitivity of a table. -/
def sensOf (w n : Nat) : Nat := mx (sens w n) (2 ^ n)
theorem sensOf_le (w n : Nat) : sensOf w n ≤ n := mx_le _ _ _ fun x _ => sens_le w n x
theorem spec_SensitivityOf_eq (N : Nat) (hN : 64 < N) (n w : Nat) (hn : n ≤ 5) (hw : w < 2 ^ 2 ^ n) (k : Int → Option β) : j9 N (n : Int) (w : Int) k = k (sensOf w n : Int) := by
  have hs := size_le hn
  unfold j9
  rw [spec_IsTable_eq, isT_of hn hw, Bool.not_true, cond_false]
  have key : ∀ (F x : Nat), 2 ^ n - x < F → x ≤ 2 ^ n → j8 N F (mx (sens w n) x : Int) (x : Int) (n : Int) (w : Int) k = k (sensOf w n : Int) := by
    intro F
    induction F with
    | zero => intro x h; omega
    | succ F ih =>
      intro x hF hx
      simp only [j8, j7]
      rw [gd_true (decide_eq_true (by omega : (0 : Int) ≤ (n : Int))), shl_one n (by omega)]
      by_cases hlt : x < 2 ^ n
      · rw [decide_eq_true (by omega : (x : Int) < ((2 ^ n : Nat) : Int)), cond_true, spec_l10At_eq N hN n w x hn hw hlt, mxI_nat, w64_succ x (by omega)]
        exact ih (x + 1) (by omega) (by omega)
      · rw [decide_eq_false (by omega : ¬ (x : Int) < ((2 ^ n : Nat) : Int)), cond_false, show x = 2 ^ n by omega]
        rfl
  exact key N 0 (by omega) (Nat.zero_le _)
theorem impl_SensitivityOf_eq (N : Nat) (hN : 64 < N) (n w : Nat) (hn : n ≤ 5) (hw : w < 2 ^ 2 ^ n) (k : Int → Option β) : j101 N (n : Int) (w : Int) k = k (sensOf w n : Int) := by
  have hs := size_le hn
  have hw' := two32 hn hw
  unfold j101 j90
  rw [impl_IsTable_eq N _ _ (by omega), isT_of hn hw, Bool.not_true, cond_false, gd_true (decide_eq_true (by omega : (0 : Int) ≤ (n : Int))), shl_one n (by omega)]
  have key : ∀ (F x : Nat), 2 ^ n - x < F → x ≤ 2 ^ n → j100 N F (mx (sens w n) x : Int) ((2 ^ n : Nat) : Int) (x : Int) (n : Int) (w : Int) k = k (sensOf w n : Int) := by
    intro F
    induction F with
    | zero => intro x h; omega
    | succ F ih =>
      intro x hF hx
      simp only [j100, j99]
      by_cases hlt : x < 2 ^ n
      · rw [decide_eq_true (by omega : (x : Int) < ((2 ^ n : Nat) : Int)), cond_true, impl_sensitivity_eq N hN n w x hn hw hlt, mxI_nat, w64_succ x (by omega)]
        exact ih (x + 1) (by omega) (by omega)
      · rw [decide_eq_false (by omega : ¬ (x : Int) < ((2 ^ n : Nat) : Int)), cond_false, show x = 2 ^ n by omega]
        rfl
  exact key N 0 (by omega) (Nat.zero_le _)

/-! ### Certificates -/

/-- Whether a value is seen at an input that agrees, below one. -/
def sc (w m v : Nat) (b : Bool) : Nat → Bool
  | 0 => false
  | x + 1 => sc w m v b x || (x &&& m == v && w.testBit x == b)
def cres (p q : Bool) : Int := cond p (cond q 2 0) (cond q 1 (-1))
/-- Whether both values are seen. -/
def bothV (w n m v : Nat) : Bool := sc w m v false (2 ^ n) && sc w m v true (2 ^ n)
theorem sc_mono (w m v : Nat) (b : Bool) (x : Nat) (h : sc w m v b x = true) : ∀ d, sc w m v b (x + d) = true
  | 0 => h
  | d + 1 => by rw [← Nat.add_assoc, sc, sc_mono w m v b x h d]; rfl

theorem bit_ne (c d : Bool) : (((if c then 1 else 0 : Nat) : Int) == ((if d then 1 else 0 : Nat) : Int)) = (c == d) := by cases c <;> cases d <;> rfl
theorem spec_l3Cube_eq (N : Nat) (hN : 64 < N) (n w m v : Nat) (hn : n ≤ 5) (hw : w < 4294967296) (hm : m < 4294967296) (k : Int → Option β) :
    j30 N (n : Int) (w : Int) (m : Int) (v : Int) k = k (cres (sc w m v false (2 ^ n)) (sc w m v true (2 ^ n))) := by
  have hs := size_le hn
  unfold j30
  have key : ∀ (F x : Nat), 2 ^ n - x < F → x ≤ 2 ^ n → (sc w m v false x && sc w m v true x) = false →
      j29 N F (m : Int) (v : Int) (cres (sc w m v false x) (sc w m v true x)) (x : Int) (n : Int) (w : Int) k k = k (cres (sc w m v false (2 ^ n)) (sc w m v true (2 ^ n))) := by
    intro F
    induction F with
    | zero => intro x h; omega
    | succ F ih =>
      intro x hF hx hno
      simp only [j29, j28]
      rw [gd_true (decide_eq_true (by omega : (0 : Int) ≤ (n : Int))), shl_one n (by omega)]
      by_cases hlt : x < 2 ^ n
      · rw [decide_eq_true (by omega : (x : Int) < ((2 ^ n : Nat) : Int)), cond_true, bAnd x m (by omega) (by omega), bit_at w x (by omega), w64_succ x (by omega), gd_true (decide_eq_true (by omega : (0 : Int) ≤ (x : Int)))]
        have e0 : (((x &&& m : Nat) : Int) != (v : Int)) = !(x &&& m == v) := by
          rw [bne, Bool.eq_iff_iff]
          simp only [Bool.not_eq_true', beq_eq_false_iff_ne, ne_eq]
          omega
        rw [e0]
        have ih' := ih (x + 1) (by omega) (by omega)
        have s0 : ∀ b, sc w m v b (x + 1) = (sc w m v b x || (x &&& m == v && w.testBit x == b)) := fun _ => rfl
        rw [s0, s0] at ih'
        cases hv : (x &&& m == v) with
        | false =>
          rw [hv] at ih'
          simp only [Bool.false_and, Bool.or_false] at ih'
          rw [Bool.not_false, cond_true]
          exact ih' hno
        | true =>
          rw [hv] at ih'
          simp only [Bool.true_and] at ih'
          rw [Bool.not_true, cond_false]
          have both : sc w m v false (x + 1) = true → sc w m v true (x + 1) = true → cres (sc w m v false (2 ^ n)) (sc w m v true (2 ^ n)) = 2 := fun h1 h2 => by
            have h3 := sc_mono w m v false (x + 1) h1 (2 ^ n - (x + 1))
            have h4 := sc_mono w m v true (x + 1) h2 (2 ^ n - (x + 1))
            rw [show x + 1 + (2 ^ n - (x + 1)) = 2 ^ n by omega] at h3 h4
            rw [h3, h4]
            rfl
          rw [s0, s0, hv] at both
          simp only [Bool.true_and] at both
          generalize cres (sc w m v false (2 ^ n)) (sc w m v true (2 ^ n)) = R at ih' both ⊢
          cases h0 : sc w m v false x <;> cases h1 : sc w m v true x <;> cases hb : w.testBit x <;> rw [h0, h1] at hno <;> simp only [h0, h1, hb] at ih' both <;> simp [cres] at hno ih' both ⊢ <;> first | exact ih' | (rw [both]) | (cases hno)
      · rw [decide_eq_false (by omega : ¬ (x : Int) < ((2 ^ n : Nat) : Int)), cond_false, show x = 2 ^ n by omega]
  exact key N 0 (by omega) (Nat.zero_le _) rfl

theorem impl_cube_eq (N : Nat) (hN : 64 < N) (n w m v : Nat) (hn : n ≤ 5) (hw : w < 4294967296) (hm : m < 4294967296) (k : Int → Option β) :
    j120 N (n : Int) (w : Int) (m : Int) (v : Int) k = k (cond (sc w m v false (2 ^ n)) (cond (sc w m v true (2 ^ n)) 2 0) (cond (sc w m v true (2 ^ n)) 1 0)) := by
  have hs := size_le hn
  unfold j120 j90
  rw [gd_true (decide_eq_true (by omega : (0 : Int) ≤ (n : Int))), shl_one n (by omega)]
  have key : ∀ (K : Bool → Bool → Option β) (F x : Nat), 2 ^ n - x < F → x ≤ 2 ^ n →
      j119 N F (m : Int) (v : Int) ((2 ^ n : Nat) : Int) (x : Int) (n : Int) (w : Int) (sc w m v false x) (sc w m v true x) K = K (sc w m v false (2 ^ n)) (sc w m v true (2 ^ n)) := by
    intro K F
    induction F with
    | zero => intro x h; omega
    | succ F ih =>
      intro x hF hx
      simp only [j119, j118, j94]
      by_cases hlt : x < 2 ^ n
      · rw [decide_eq_true (by omega : (x : Int) < ((2 ^ n : Nat) : Int)), cond_true, bAnd x m (by omega) (by omega), bit_at w x (by omega), w64_succ x (by omega), gd_true (decide_eq_true (by omega : (0 : Int) ≤ (x : Int)))]
        have e0 : (((x &&& m : Nat) : Int) == (v : Int)) = (x &&& m == v) := by
          rw [Bool.eq_iff_iff, beq_iff_eq, beq_iff_eq]
          omega
        rw [e0]
        have ih' := ih (x + 1) (by omega) (by omega)
        have s0 : ∀ b, sc w m v b (x + 1) = (sc w m v b x || (x &&& m == v && w.testBit x == b)) := fun _ => rfl
        rw [s0, s0] at ih'
        cases hv : (x &&& m == v) with
        | false =>
          rw [hv] at ih'
          simp only [Bool.false_and, Bool.or_false] at ih'
          exact ih'
        | true =>
          rw [hv] at ih'
          simp only [Bool.true_and] at ih'
          cases hb : w.testBit x with
          | false =>
            rw [hb] at ih'
            simpa [gd] using ih'
          | true =>
            rw [hb] at ih'
            simpa [gd] using ih'
      · rw [decide_eq_false (by omega : ¬ (x : Int) < ((2 ^ n : Nat) : Int)), cond_false, show x = 2 ^ n by omega]
  have := key (fun e7_0 e7_1 => cond e7_0 (cond e7_1 (k 2) (cond e7_1 (k 1) (k 0))) (cond e7_1 (k 1) (k 0))) N 0 (by omega) (Nat.zero_le _)
  simp only [sc, Int.natCast_zero] at this
  refine this.trans ?_
  cases sc w m v false (2 ^ n) <;> cases sc w m v true (2 ^ n) <;> rfl

/-- The least certificate, as far as looked. -/
def cert (w n x : Nat) : Nat → Nat
  | 0 => 2 ^ n - 1
  | m + 1 => if decide (ones m < ones (cert w n x m)) && !bothV w n m (x &&& m) then m else cert w n x m
theorem cert_lt (w n x : Nat) : ∀ m, m ≤ 2 ^ n → cert w n x m < 2 ^ n
  | 0, _ => Nat.sub_lt (Nat.two_pow_pos n) (by decide)
  | m + 1, h => by
    have := cert_lt w n x m (by omega)
    simp only [cert]
    split <;> omega
theorem spec_l9Set_eq (N : Nat) (hN : 64 < N) (n w x : Nat) (hn : n ≤ 5) (hw : w < 2 ^ 2 ^ n) (hx : x < 2 ^ n) (k : Int → Option β) : j33 N (n : Int) (w : Int) (x : Int) k = k (cert w n x (2 ^ n) : Int) := by
  have hw' := two32 hn hw
  have hs := size_le hn
  have hpos := Nat.two_pow_pos n
  unfold j33
  rw [gd_true (decide_eq_true (by omega : (0 : Int) ≤ (n : Int))), shl_one n (by omega), show ((2 ^ n : Nat) : Int) - 1 = ((2 ^ n - 1 : Nat) : Int) by omega, w64_nat _ (by omega)]
  have key : ∀ (F m : Nat), 2 ^ n - m < F → m ≤ 2 ^ n → j32 N F (x : Int) (cert w n x m : Int) (m : Int) (n : Int) (w : Int) k = k (cert w n x (2 ^ n) : Int) := by
    intro F
    induction F with
    | zero => intro m h; omega
    | succ F ih =>
      intro m hF hm
      have hc := cert_lt w n x m hm
      simp only [j32, j31]
      rw [gd_true (decide_eq_true (by omega : (0 : Int) ≤ (n : Int))), shl_one n (by omega)]
      by_cases hlt : m < 2 ^ n
      · rw [decide_eq_true (by omega : (m : Int) < ((2 ^ n : Nat) : Int)), cond_true, spec_l2Count_eq N m hN (by omega), spec_l2Count_eq N _ hN (by omega), bAnd x m (by omega) (by omega), spec_l3Cube_eq N hN n w m _ hn hw' (by omega), w64_succ m (by omega)]
        have h1 := ih (m + 1) (by omega) (by omega)
        simp only [cert] at h1
        have e : decide (cres (sc w m (x &&& m) false (2 ^ n)) (sc w m (x &&& m) true (2 ^ n)) < 2) = !bothV w n m (x &&& m) := by
          unfold bothV
          cases sc w m (x &&& m) false (2 ^ n) <;> cases sc w m (x &&& m) true (2 ^ n) <;> rfl
        rw [e]
        by_cases ho : ones m < ones (cert w n x m)
        · rw [decide_eq_true (by omega : ((ones m : Nat) : Int) < (ones (cert w n x m) : Int)), cond_true]
          rw [decide_eq_true ho, Bool.true_and] at h1
          cases hm2 : bothV w n m (x &&& m) with
          | true => rw [hm2] at h1; exact h1
          | false => rw [hm2] at h1; exact h1
        · rw [decide_eq_false (by omega : ¬ ((ones m : Nat) : Int) < (ones (cert w n x m) : Int)), cond_false]
          rw [decide_eq_false ho, Bool.false_and] at h1
          exact h1
      · rw [decide_eq_false (by omega : ¬ (m : Int) < ((2 ^ n : Nat) : Int)), cond_false, show m = 2 ^ n by omega]
  exact key N 0 (by omega) (Nat.zero_le _)
theorem impl_certificate_eq (N : Nat) (hN : 64 < N) (n w x : Nat) (hn : n ≤ 5) (hw : w < 2 ^ 2 ^ n) (hx : x < 2 ^ n) (k : Int → Option β) : j124 N (n : Int) (w : Int) (x : Int) k = k (cert w n x (2 ^ n) : Int) := by
  have hw' := two32 hn hw
  have hs := size_le hn
  have hpos := Nat.two_pow_pos n
  unfold j124 j90
  rw [gd_true (decide_eq_true (by omega : (0 : Int) ≤ (n : Int))), shl_one n (by omega)]
  show gd (decide ((0 : Int) ≤ (n : Int))) (j123 N N (x : Int) (w64 (((2 ^ n : Nat) : Int) - 1)) ((2 ^ n : Nat) : Int) 0 (n : Int) (w : Int) k) = _
  rw [gd_true (decide_eq_true (by omega : (0 : Int) ≤ (n : Int))), show ((2 ^ n : Nat) : Int) - 1 = ((2 ^ n - 1 : Nat) : Int) by omega, w64_nat _ (by omega)]
  have key : ∀ (F m : Nat), 2 ^ n - m < F → m ≤ 2 ^ n → j123 N F (x : Int) (cert w n x m : Int) ((2 ^ n : Nat) : Int) (m : Int) (n : Int) (w : Int) k = k (cert w n x (2 ^ n) : Int) := by
    intro F
    induction F with
    | zero => intro m h; omega
    | succ F ih =>
      intro m hF hm
      have hc := cert_lt w n x m hm
      simp only [j123, j122, j121]
      by_cases hlt : m < 2 ^ n
      · rw [decide_eq_true (by omega : (m : Int) < ((2 ^ n : Nat) : Int)), cond_true, impl_ones_eq N m (by omega), impl_ones_eq N _ (by omega), bAnd x m (by omega) (by omega), impl_cube_eq N hN n w m _ hn hw' (by omega), w64_succ m (by omega)]
        have h1 := ih (m + 1) (by omega) (by omega)
        simp only [cert] at h1
        have e : ((cond (sc w m (x &&& m) false (2 ^ n)) (cond (sc w m (x &&& m) true (2 ^ n)) (2 : Int) 0) (cond (sc w m (x &&& m) true (2 ^ n)) 1 0)) != 2) = !bothV w n m (x &&& m) := by
          unfold bothV
          cases sc w m (x &&& m) false (2 ^ n) <;> cases sc w m (x &&& m) true (2 ^ n) <;> rfl
        rw [e]
        by_cases ho : ones m < ones (cert w n x m)
        · rw [decide_eq_true (by omega : ((ones m : Nat) : Int) < (ones (cert w n x m) : Int)), cond_true]
          rw [decide_eq_true ho, Bool.true_and] at h1
          cases hm2 : bothV w n m (x &&& m) with
          | true => rw [hm2] at h1; exact h1
          | false => rw [hm2] at h1; exact h1
        · rw [decide_eq_false (by omega : ¬ ((ones m : Nat) : Int) < (ones (cert w n x m) : Int)), cond_false]
          rw [decide_eq_false ho, Bool.false_and] at h1
          exact h1
      · rw [decide_eq_false (by omega : ¬ (m : Int) < ((2 ^ n : Nat) : Int)), cond_false, show m = 2 ^ n by omega]
  exact key N 0 (by omega) (Nat.zero_le _)
/-- How great the certificates of a value's inputs are. -/
def certOf (w n : Nat) (b : Bool) : Nat := mx (fun x => if w.testBit x == b then ones (cert w n x (2 ^ n)) else 0) (2 ^ n)
theorem certOf_le (w n : Nat) (b : Bool) : certOf w n b ≤ 32 := mx_le _ _ _ fun x _ => by
  show (if w.testBit x == b then ones (cert w n x (2 ^ n)) else 0) ≤ 32
  have := ones_le (cert w n x (2 ^ n))
  split <;> omega
theorem isIn_of {n w x : Nat} (hn : n ≤ 5) (hw : w < 2 ^ 2 ^ n) (hx : x < 2 ^ n) : isIn (n : Int) (w : Int) (x : Int) = true := by
  simp only [isIn, isT_of hn hw, Bool.true_and, Bool.and_eq_true, decide_eq_true_eq, Int.toNat_natCast]
  exact ⟨by omega, by exact_mod_cast hx⟩
theorem spec_CertificateOf_eq (N : Nat) (hN : 64 < N) (n w : Nat) (hn : n ≤ 5) (hw : w < 2 ^ 2 ^ n) (b : Bool) (k : Int → Option β) : j37 N (n : Int) (w : Int) ((if b then 1 else 0 : Nat) : Int) k = k (certOf w n b : Int) := by
  have hw' := two32 hn hw
  have hs := size_le hn
  have hbit : ((if b then 1 else 0 : Nat) : Int) = 0 ∨ ((if b then 1 else 0 : Nat) : Int) = 1 := by cases b <;> simp
  unfold j37
  rw [spec_IsTable_eq, isT_of hn hw, spec_l1In_eq, decide_eq_true (by omega : (0 : Int) ≤ ((if b then 1 else 0 : Nat) : Int)), decide_eq_true (by omega : ((if b then 1 else 0 : Nat) : Int) ≤ 1)]
  simp only [Bool.not_true, cond_false, Bool.and_self]
  have key : ∀ (F x : Nat), 2 ^ n - x < F → x ≤ 2 ^ n → j36 N F ((if b then 1 else 0 : Nat) : Int) (mx (fun x => if w.testBit x == b then ones (cert w n x (2 ^ n)) else 0) x : Int) (x : Int) (n : Int) (w : Int) k = k (certOf w n b : Int) := by
    intro F
    induction F with
    | zero => intro x h; omega
    | succ F ih =>
      intro x hF hx
      simp only [j36, j35, j34]
      rw [gd_true (decide_eq_true (by omega : (0 : Int) ≤ (n : Int))), shl_one n (by omega)]
      by_cases hlt : x < 2 ^ n
      · have hc := cert_lt w n x (2 ^ n) (Nat.le_refl _)
        rw [decide_eq_true (by omega : (x : Int) < ((2 ^ n : Nat) : Int)), cond_true, gd_true (decide_eq_true (by omega : (0 : Int) ≤ (x : Int))), bit_at w x (by omega), bit_ne, spec_l9In_eq, isIn_of hn hw hlt, Bool.not_true, cond_false, spec_l9Set_eq N hN n w x hn hw hlt, spec_l2Count_eq N _ hN (by omega), mxI_nat, w64_succ x (by omega)]
        have h1 := ih (x + 1) (by omega) (by omega)
        simp only [mx] at h1
        cases he : w.testBit x == b with
        | true => rw [he] at h1; exact h1
        | false => rw [he] at h1; simpa using h1
      · rw [decide_eq_false (by omega : ¬ (x : Int) < ((2 ^ n : Nat) : Int)), cond_false, show x = 2 ^ n by omega]
        rfl
  exact key N 0 (by omega) (Nat.zero_le _)
theorem impl_CertificateOf_eq (N : Nat) (hN : 64 < N) (n w : Nat) (hn : n ≤ 5) (hw : w < 2 ^ 2 ^ n) (b : Bool) (k : Int → Option β) : j127 N (n : Int) (w : Int) ((if b then 1 else 0 : Nat) : Int) k = k (certOf w n b : Int) := by
  have hw' := two32 hn hw
  have hs := size_le hn
  have hbit : ((if b then 1 else 0 : Nat) : Int) = 0 ∨ ((if b then 1 else 0 : Nat) : Int) = 1 := by cases b <;> simp
  unfold j127 j90
  rw [impl_IsTable_eq N _ _ (by omega), isT_of hn hw, impl_isBit_eq, decide_eq_true (by omega : (0 : Int) ≤ ((if b then 1 else 0 : Nat) : Int)), decide_eq_true (by omega : ((if b then 1 else 0 : Nat) : Int) ≤ 1)]
  simp only [Bool.not_true, cond_false, Bool.and_self]
  rw [gd_true (decide_eq_true (by omega : (0 : Int) ≤ (n : Int))), shl_one n (by omega)]
  have key : ∀ (F x : Nat), 2 ^ n - x < F → x ≤ 2 ^ n → j126 N F ((if b then 1 else 0 : Nat) : Int) (mx (fun x => if w.testBit x == b then ones (cert w n x (2 ^ n)) else 0) x : Int) ((2 ^ n : Nat) : Int) (x : Int) (n : Int) (w : Int) k = k (certOf w n b : Int) := by
    intro F
    induction F with
    | zero => intro x h; omega
    | succ F ih =>
      intro x hF hx
      simp only [j126, j125, j94]
      by_cases hlt : x < 2 ^ n
      · have hc := cert_lt w n x (2 ^ n) (Nat.le_refl _)
        rw [decide_eq_true (by omega : (x : Int) < ((2 ^ n : Nat) : Int)), cond_true, gd_true (decide_eq_true (by omega : (0 : Int) ≤ (x : Int))), bit_at w x (by omega), bit_ne, impl_certificate_eq N hN n w x hn hw hlt, impl_ones_eq N _ (by omega), mxI_nat, w64_succ x (by omega)]
        have h1 := ih (x + 1) (by omega) (by omega)
        simp only [mx] at h1
        cases he : w.testBit x == b with
        | true => rw [he] at h1; exact h1
        | false => rw [he] at h1; simpa using h1
      · rw [decide_eq_false (by omega : ¬ (x : Int) < ((2 ^ n : Nat) : Int)), cond_false, show x = 2 ^ n by omega]
        rfl
  exact key N 0 (by omega) (Nat.zero_le _)
end Go.Proofs.YtignjkbhdaiegaaGreatDoor
namespace Go.Proofs.YtignjkbhdaiegaaGreatDoor
open Go.Rv
set_option linter.unusedVariables false
variable {β : Type}
theorem spec_CountOnes_eq (N : Nat) (hN : 64 < N) (n w : Nat) (hn : n ≤ 5) (hw : w < 2 ^ 2 ^ n) (k : Int → Option β) : j60 N (n : Int) (w : Int) k = k (ones w : Int) := by
  unfold j60
  rw [spec_IsTable_eq, isT_of hn hw, Bool.not_true, cond_false, spec_l2Count_eq N w hN (two32 hn hw)]
theorem impl_CountOnes_eq (N : Nat) (hN : 64 < N) (n w : Nat) (hn : n ≤ 5) (hw : w < 2 ^ 2 ^ n) (k : Int → Option β) : j155 N (n : Int) (w : Int) k = k (ones w : Int) := by
  have hw' := two32 hn hw
  unfold j155
  rw [impl_IsTable_eq N _ _ (by omega), isT_of hn hw, Bool.not_true, cond_false, impl_ones_eq N w hw']

/-- A sum. -/
def sm (f : Nat → Nat) : Nat → Nat
  | 0 => 0
  | m + 1 => sm f m + f m
theorem sm_add (f g : Nat → Nat) : ∀ m, sm (fun x => f x + g x) m = sm f m + sm g m
  | 0 => rfl
  | m + 1 => by simp only [sm, sm_add f g m]; omega
theorem sm_cnt (g : Nat → Bool) : ∀ m, sm (fun x => if g x then 1 else 0) m = cnt g m
  | 0 => rfl
  | m + 1 => by simp only [sm, cnt, sm_cnt g m]
theorem sm_zero : ∀ m, sm (fun _ => 0) m = 0
  | 0 => rfl
  | m + 1 => by simp only [sm, sm_zero m]
theorem sm_le (f : Nat → Nat) (B : Nat) : ∀ m, (∀ x, x < m → f x ≤ B) → sm f m ≤ m * B
  | 0, _ => by simp [sm]
  | m + 1, h => by
    have h1 := sm_le f B m fun x hx => h x (by omega)
    have h2 := h m (by omega)
    simp only [sm, Nat.add_mul]
    omega
theorem sm_swap (e : Nat → Nat → Bool) (n : Nat) : ∀ M, sm (fun x => cnt (fun i => e i x) n) M = sm (fun i => cnt (e i) M) n
  | 0 => by simp only [sm, cnt]; exact (sm_zero n).symm
  | M + 1 => by
    simp only [sm, cnt]
    rw [sm_swap e n M, sm_add, sm_cnt]

/-- The sum of all influences. -/
def total (w n : Nat) : Nat := sm (fun i => infl w i (2 ^ n)) n
theorem infl_le (w i m : Nat) : infl w i m ≤ m := cnt_le _ m
theorem total_le (w n : Nat) (hn : n ≤ 5) : total w n ≤ 160 := by
  have hs := size_le hn
  have := sm_le (fun i => infl w i (2 ^ n)) 32 n fun i _ => Nat.le_trans (infl_le w i _) hs
  unfold total
  omega
theorem sm_even (f : Nat → Nat) : ∀ m, (∀ x, x < m → f x % 2 = 0) → sm f m % 2 = 0
  | 0, _ => rfl
  | m + 1, h => by
    have h1 := sm_even f m fun x hx => h x (by omega)
    have h2 := h m (by omega)
    simp only [sm]
    omega
theorem total_even (w n : Nat) (hn : n ≤ 5) (hw : w < 2 ^ 2 ^ n) : total w n % 2 = 0 := sm_even _ n fun i hi => by
  show infl w i (2 ^ n) % 2 = 0
  rw [infl_half w n i 0 hn hi (by decide) hw]
  omega
theorem spec_TotalInfluence_eq (N : Nat) (hN : 64 < N) (n w : Nat) (hn : n ≤ 5) (hw : w < 2 ^ 2 ^ n) (k : Int → Option β) : j64 N (n : Int) (w : Int) k = k (total w n : Int) := by
  have hs := size_le hn
  unfold j64 j63
  simp only [spec_IsTable_eq, isT_of hn hw, Bool.not_true, cond_false]
  have key : ∀ (K : Int → Option β) (F x : Nat), 2 ^ n - x < F → x ≤ 2 ^ n → j62 N F (sm (sens w n) x : Int) (x : Int) (n : Int) (w : Int) K = K (sm (sens w n) (2 ^ n) : Int) := by
    intro K F
    induction F with
    | zero => intro x h; omega
    | succ F ih =>
      intro x hF hx
      simp only [j62, j61]
      rw [gd_true (decide_eq_true (by omega : (0 : Int) ≤ (n : Int))), shl_one n (by omega)]
      by_cases hlt : x < 2 ^ n
      · have hsm := sm_le (sens w n) 5 (x + 1) fun x _ => Nat.le_trans (sens_le w n x) hn
        rw [decide_eq_true (by omega : (x : Int) < ((2 ^ n : Nat) : Int)), cond_true, spec_l10At_eq N hN n w x hn hw hlt, ← Int.natCast_add, show sm (sens w n) x + sens w n x = sm (sens w n) (x + 1) from rfl, w64_nat _ (by omega), w64_succ x (by omega)]
        exact ih (x + 1) (by omega) (by omega)
      · rw [decide_eq_false (by omega : ¬ (x : Int) < ((2 ^ n : Nat) : Int)), cond_false, show x = 2 ^ n by omega]
  have e := key (fun e5_0 => k (w64 (2 * quoI .i64 e5_0 2))) N 0 (by omega) (Nat.zero_le _)
  simp only [sm, Int.natCast_zero] at e
  refine e.trans ?_
  have e2 : sm (sens w n) (2 ^ n) = total w n := sm_swap (edge w) n (2 ^ n)
  rw [e2]
  have hev := total_even w n hn hw
  have hle := total_le w n hn
  congr 1
  unfold quoI
  rw [show ((total w n : Nat) : Int).tdiv 2 = ((total w n / 2 : Nat) : Int) from (Int.ofNat_tdiv (total w n) 2).symm]
  show w64 (2 * w64 ((total w n / 2 : Nat) : Int)) = _
  rw [w64_nat _ (by omega), w64_id (by omega) (by omega)]
  omega
theorem impl_TotalInfluence_eq (N : Nat) (hN : 64 < N) (n w : Nat) (hn : n ≤ 5) (hw : w < 2 ^ 2 ^ n) (k : Int → Option β) : j164 N (n : Int) (w : Int) k = k (total w n : Int) := by
  have hw' := two32 hn hw
  have hs := size_le hn
  unfold j164
  rw [impl_IsTable_eq N _ _ (by omega), isT_of hn hw, Bool.not_true, cond_false, impl_influences_eq N hN n w hn hw]
  simp only [infls_len]
  have key : ∀ (F i : Nat), n - i < F → i ≤ n → j163 N F (sm (fun i => infl w i (2 ^ n)) i : Int) (n : Int) (i : Int) (infls w n n) k = k (total w n : Int) := by
    intro F
    induction F with
    | zero => intro i h; omega
    | succ F ih =>
      intro i hF hi
      simp only [j163, j162, infls_len]
      by_cases hlt : i < n
      · have hsm := sm_le (fun i => infl w i (2 ^ n)) 32 (i + 1) fun i _ => Nat.le_trans (infl_le w i _) hs
        have hr : rd 0 (infls w n n) (i : Int) = ((infl w i (2 ^ n) : Nat) : Int) := by
          rw [rd_nat 0 _ i (by rw [infls_len]; exact hlt)]
          have := infls_get w n n i hlt
          rw [List.getElem?_eq_getElem (by rw [infls_len]; exact hlt)] at this
          exact Option.some.inj this
        rw [decide_eq_true (by omega : (i : Int) < (n : Int)), cond_true, gd_true (decide_eq_true (by omega : (0 : Int) ≤ (i : Int))), gd_true rfl, hr, ← Int.natCast_add, show sm (fun i => infl w i (2 ^ n)) i + infl w i (2 ^ n) = sm (fun i => infl w i (2 ^ n)) (i + 1) from rfl, w64_nat _ (by omega), w64_succ i (by omega)]
        exact ih (i + 1) (by omega) (by omega)
      · rw [decide_eq_false (by omega : ¬ (i : Int) < (n : Int)), cond_false, show i = n by omega]
        rfl
  exact key N 0 (by omega) (Nat.zero_le _)

/-! ### Degrees -/

/-- The greatest number of ones of a number that is such; -1, if none is. -/
def dg (p : Nat → Bool) : Nat → Int
  | 0 => -1
  | m + 1 => if p m then mxI (dg p m) (ones m : Int) else dg p m
theorem dg_bound (p : Nat → Bool) : ∀ m, -1 ≤ dg p m ∧ dg p m ≤ 32
  | 0 => by simp [dg]
  | m + 1 => by
    have h1 := dg_bound p m
    have h2 := ones_le m
    simp only [dg, mxI]
    split
    · split <;> omega
    · exact h1
theorem impl_degree_eq (N : Nat) (hN : 64 < N) (n : Nat) (hn : n ≤ 5) (h : Int → (Bool → Option β) → Option β) (p : Nat → Bool) (hh : ∀ (x : Nat) k, x < 2 ^ n → h (x : Int) k = k (p x)) (k : Int → Option β) :
    j145 N (n : Int) h k = k (dg p (2 ^ n)) := by
  have hs := size_le hn
  unfold j145
  rw [gd_true (decide_eq_true (by omega : (0 : Int) ≤ (n : Int))), shl_one n (by omega)]
  have key : ∀ (F m : Nat), 2 ^ n - m < F → m ≤ 2 ^ n → j144 N h F (dg p m) ((2 ^ n : Nat) : Int) (m : Int) k = k (dg p (2 ^ n)) := by
    intro F
    induction F with
    | zero => intro x h; omega
    | succ F ih =>
      intro m hF hm
      simp only [j144, j143]
      by_cases hlt : m < 2 ^ n
      · rw [decide_eq_true (by omega : (m : Int) < ((2 ^ n : Nat) : Int)), cond_true, hh m _ hlt, impl_ones_eq N m (by omega), w64_succ m (by omega)]
        have h1 := ih (m + 1) (by omega) (by omega)
        simp only [dg] at h1
        cases hp : p m with
        | true => rw [hp] at h1; exact h1
        | false => rw [hp] at h1; exact h1
      · rw [decide_eq_false (by omega : ¬ (m : Int) < ((2 ^ n : Nat) : Int)), cond_false, show m = 2 ^ n by omega]
  exact key N 0 (by omega) (Nat.zero_le _)

/-- Whether a value is summed for a set: parts of it with value 1. -/
def part (w m x : Nat) : Bool := x &&& m == x && w.testBit x
theorem part_gt (w m x : Nat) (h : m < x) : (x &&& m == x) = false := by
  have : x &&& m ≤ m := Nat.and_le_right
  exact beq_false_of_ne (by omega)
theorem cnt_part (w m : Nat) : ∀ d, cnt (part w m) (m + 1 + d) = cnt (part w m) (m + 1)
  | 0 => rfl
  | d + 1 => by
    rw [← Nat.add_assoc, cnt, cnt_part w m d]
    unfold part
    rw [part_gt w m (m + 1 + d) (by omega)]
    rfl
/-- The coefficients modulo 2. -/
def anf (w n : Nat) : Nat := tabw (fun m => cnt (part w m) (2 ^ n) % 2 == 1) (2 ^ n)
theorem anf_lt (w n : Nat) : anf w n < 2 ^ 2 ^ n := tabw_lt _ _
theorem and_eq (x m : Nat) : (((x &&& m : Nat) : Int) == (x : Int)) = (x &&& m == x) := by
  rw [Bool.eq_iff_iff, beq_iff_eq, beq_iff_eq]
  omega
theorem andnot_eq (x m : Nat) : (((x ^^^ (x &&& m) : Nat) : Int) == 0) = (x &&& m == x) := by
  rw [Bool.eq_iff_iff, beq_iff_eq, beq_iff_eq]
  constructor
  · intro h
    have h : x ^^^ (x &&& m) = 0 := by omega
    have h2 := xor_self_cancel x (x &&& m)
    rw [h, Nat.zero_xor] at h2
    exact h2
  · intro h
    rw [h, Nat.xor_self]
    rfl
theorem spec_anf_inner (N : Nat) (n w m : Nat) (hw : w < 4294967296) (hm : m < 32) (v0 : Int) (K : Int → Int → Int → Int → Int → Option β) :
    ∀ (F x : Nat), m + 1 - x < F → x ≤ m + 1 → j53 N F v0 (m : Int) (cnt (part w m) x : Int) (x : Int) (n : Int) (w : Int) K = K v0 m (cnt (part w m) (m + 1) : Int) n w := by
  intro F
  induction F with
  | zero => intro x h; omega
  | succ F ih =>
    intro x hF hx
    simp only [j53, j52]
    by_cases hlt : x ≤ m
    · have hc := cnt_le (part w m) x
      rw [decide_eq_true (by omega : (x : Int) ≤ (m : Int)), cond_true, bAnd x m (by omega) (by omega), and_eq, gd_true (decide_eq_true (by omega : (0 : Int) ≤ (x : Int))), bit_at w x (by omega), w64_succ x (by omega), ← Int.natCast_add, w64_nat _ (by split <;> omega)]
      have h1 := ih (x + 1) (by omega) (by omega)
      have h2 : cnt (part w m) (x + 1) = cnt (part w m) x + (if part w m x then 1 else 0) := rfl
      rw [h2] at h1
      unfold part at h1 ⊢
      cases he : x &&& m == x with
      | true => rw [he] at h1; simpa using h1
      | false => rw [he] at h1; simpa using h1
    · rw [decide_eq_false (by omega : ¬ (x : Int) ≤ (m : Int)), cond_false, show x = m + 1 by omega]
theorem spec_l11Anf_eq (N : Nat) (hN : 64 < N) (n w : Nat) (hn : n ≤ 5) (hw : w < 2 ^ 2 ^ n) (k : Int → Option β) : j56 N (n : Int) (w : Int) k = k (anf w n : Int) := by
  have hw' := two32 hn hw
  have hs := size_le hn
  unfold j56
  have key : ∀ (F m : Nat), 2 ^ n - m < F → m ≤ 2 ^ n → j55 N F (tabw (fun m => cnt (part w m) (2 ^ n) % 2 == 1) m : Int) (m : Int) (n : Int) (w : Int) k = k (anf w n : Int) := by
    intro F
    induction F with
    | zero => intro x h; omega
    | succ F ih =>
      intro m hF hm
      simp only [j55, j54]
      rw [gd_true (decide_eq_true (by omega : (0 : Int) ≤ (n : Int))), shl_one n (by omega)]
      by_cases hlt : m < 2 ^ n
      · have e := fun K => spec_anf_inner (β := β) N n w m hw' (by omega) (tabw (fun m => cnt (part w m) (2 ^ n) % 2 == 1) m : Int) K N 0 (by omega) (by omega)
        simp only [cnt, Int.natCast_zero] at e
        have e2 := cnt_part w m (2 ^ n - (m + 1))
        rw [show m + 1 + (2 ^ n - (m + 1)) = 2 ^ n by omega] at e2
        have e3 : cnt (part w m) m + (if part w m m then 1 else 0) = cnt (part w m) (2 ^ n) := e2.symm
        rw [decide_eq_true (by omega : (m : Int) < ((2 ^ n : Nat) : Int)), cond_true, e, e3]
        have hlt2 := tabw_lt (fun m => cnt (part w m) (2 ^ n) % 2 == 1) m
        have hp : 2 ^ m ≤ 2 ^ 31 := Nat.pow_le_pow_right (by decide) (by omega)
        have e4 : remI ((cnt (part w m) (2 ^ n) : Nat) : Int) 2 = ((cnt (part w m) (2 ^ n) % 2 : Nat) : Int) := remI_len _ 2 (by decide)
        have hmod := Nat.mod_lt (cnt (part w m) (2 ^ n)) (by decide : 0 < 2)
        rw [gd_true (decide_eq_true (by omega : (0 : Int) ≤ (m : Int))), e4, shl_nat _ m (by omega) (by have := Nat.mul_le_mul (Nat.le_of_lt_succ hmod) hp; omega), bOr _ _ (by omega) (by have := Nat.mul_le_mul (Nat.le_of_lt_succ hmod) hp; omega), w64_succ m (by omega)]
        have e5 : tabw (fun m => cnt (part w m) (2 ^ n) % 2 == 1) (m + 1) = (tabw (fun m => cnt (part w m) (2 ^ n) % 2 == 1) m ||| cnt (part w m) (2 ^ n) % 2 * 2 ^ m) := by
          rw [tabw]
          congr 1
          rcases Nat.mod_two_eq_zero_or_one (cnt (part w m) (2 ^ n)) with h | h <;> simp [h]
        have h1 := ih (m + 1) (by omega) (by omega)
        rw [e5] at h1
        exact h1
      · rw [decide_eq_false (by omega : ¬ (m : Int) < ((2 ^ n : Nat) : Int)), cond_false, show m = 2 ^ n by omega]
        rfl
  exact key N 0 (by omega) (Nat.zero_le _)
theorem xor_bit (c : Nat) (b : Bool) : bits .xor .i64 ((c % 2 : Nat) : Int) ((if b then 1 else 0 : Nat) : Int) = (((c + (if b then 1 else 0)) % 2 : Nat) : Int) := by
  have hmod := Nat.mod_lt c (by decide : 0 < 2)
  rw [bXor _ _ (by omega) (by split <;> omega)]
  rcases Nat.mod_two_eq_zero_or_one c with h | h <;> cases b <;> simp [h] <;> omega
theorem impl_anf_bit (N : Nat) (hN : 64 < N) (n w m : Nat) (hn : n ≤ 5) (hw : w < 4294967296) (hm : m < 2 ^ n) (k : Bool → Option β) :
    j149 N (m : Int) (n : Int) (w : Int) k = k (cnt (part w m) (2 ^ n) % 2 == 1) := by
  have hs := size_le hn
  unfold j149 j90
  rw [gd_true (decide_eq_true (by omega : (0 : Int) ≤ (n : Int))), shl_one n (by omega)]
  have key : ∀ (K : Int → Option β) (F x : Nat), 2 ^ n - x < F → x ≤ 2 ^ n → j148 N F (m : Int) (n : Int) (w : Int) ((cnt (part w m) x % 2 : Nat) : Int) ((2 ^ n : Nat) : Int) (x : Int) K = K ((cnt (part w m) (2 ^ n) % 2 : Nat) : Int) := by
    intro K F
    induction F with
    | zero => intro x h; omega
    | succ F ih =>
      intro x hF hx
      simp only [j148, j147, j94]
      by_cases hlt : x < 2 ^ n
      · rw [decide_eq_true (by omega : (x : Int) < ((2 ^ n : Nat) : Int)), cond_true, bAndNot x m (by omega) (by omega), andnot_eq, gd_true (decide_eq_true (by omega : (0 : Int) ≤ (x : Int))), bit_at w x (by omega), xor_bit, w64_succ x (by omega)]
        have h1 := ih (x + 1) (by omega) (by omega)
        have h2 : cnt (part w m) (x + 1) = cnt (part w m) x + (if part w m x then 1 else 0) := rfl
        rw [h2] at h1
        have h3 : part w m x = (x &&& m == x && w.testBit x) := rfl
        rw [h3] at h1
        cases he : x &&& m == x with
        | true => rw [he, Bool.true_and] at h1; exact h1
        | false => rw [he] at h1; simpa using h1
      · rw [decide_eq_false (by omega : ¬ (x : Int) < ((2 ^ n : Nat) : Int)), cond_false, show x = 2 ^ n by omega]
  have e := key (fun e4_0 => k (e4_0 == 1)) N 0 (by omega) (Nat.zero_le _)
  simp only [cnt, Int.natCast_zero, Nat.zero_mod] at e
  refine e.trans ?_
  congr 1
  rw [Bool.eq_iff_iff, beq_iff_eq, beq_iff_eq]
  omega
theorem impl_Table_anf_eq (N : Nat) (hN : 64 < N) (n w : Nat) (hn : n ≤ 5) (hw : w < 2 ^ 2 ^ n) (k : Int → Int → Option β) : j153 N (n : Int) (w : Int) k = k n (anf w n : Int) := by
  unfold j153
  rw [makeTable_eq N hN n hn _ (fun m => cnt (part w m) (2 ^ n) % 2 == 1) fun x k hx => impl_anf_bit N hN n w x hn (two32 hn hw) hx k]
  rfl
theorem bit_eq_one (c : Bool) : (((if c then 1 else 0 : Nat) : Int) == 1) = c := by cases c <;> rfl
theorem spec_DegreeMod2_eq (N : Nat) (hN : 64 < N) (n w : Nat) (hn : n ≤ 5) (hw : w < 2 ^ 2 ^ n) (k : Int → Option β) : j59 N (n : Int) (w : Int) k = k (dg (anf w n).testBit (2 ^ n)) := by
  have hs := size_le hn
  have ha := two32 hn (anf_lt w n)
  unfold j59
  rw [spec_IsTable_eq, isT_of hn hw, Bool.not_true, cond_false, spec_l11Anf_eq N hN n w hn hw]
  have key : ∀ (F m : Nat), 2 ^ n - m < F → m ≤ 2 ^ n → j58 N F (anf w n : Int) (dg (anf w n).testBit m) (m : Int) (n : Int) (w : Int) k = k (dg (anf w n).testBit (2 ^ n)) := by
    intro F
    induction F with
    | zero => intro x h; omega
    | succ F ih =>
      intro m hF hm
      simp only [j58, j57]
      rw [gd_true (decide_eq_true (by omega : (0 : Int) ≤ (n : Int))), shl_one n (by omega)]
      by_cases hlt : m < 2 ^ n
      · rw [decide_eq_true (by omega : (m : Int) < ((2 ^ n : Nat) : Int)), cond_true, gd_true (decide_eq_true (by omega : (0 : Int) ≤ (m : Int))), bit_at _ m (by omega), bit_eq_one, spec_l2Count_eq N m hN (by omega), w64_succ m (by omega)]
        have h1 := ih (m + 1) (by omega) (by omega)
        simp only [dg] at h1
        cases hp : (anf w n).testBit m with
        | true => rw [hp] at h1; exact h1
        | false => rw [hp] at h1; exact h1
      · rw [decide_eq_false (by omega : ¬ (m : Int) < ((2 ^ n : Nat) : Int)), cond_false, show m = 2 ^ n by omega]
  exact key N 0 (by omega) (Nat.zero_le _)
theorem impl_DegreeMod2_eq (N : Nat) (hN : 64 < N) (n w : Nat) (hn : n ≤ 5) (hw : w < 2 ^ 2 ^ n) (k : Int → Option β) : j154 N (n : Int) (w : Int) k = k (dg (anf w n).testBit (2 ^ n)) := by
  have hs := size_le hn
  have hw' := two32 hn hw
  have ha := two32 hn (anf_lt w n)
  unfold j154
  rw [impl_IsTable_eq N _ _ (by omega), isT_of hn hw, Bool.not_true, cond_false, impl_Table_anf_eq N hN n w hn hw]
  refine impl_degree_eq N hN n hn _ (anf w n).testBit (fun x k hx => ?_) k
  unfold j142 j94
  rw [gd_true (decide_eq_true (by omega : (0 : Int) ≤ (x : Int))), bit_at _ x (by omega)]
  show k (((if (anf w n).testBit x then 1 else 0 : Nat) : Int) == 1) = _
  rw [bit_eq_one]

/-- A coefficient of the polynomial with integers. -/
def cf (w m : Nat) : Nat → Int
  | 0 => 0
  | x + 1 => if x &&& m == x then (if ones (m ^^^ x) % 2 == 1 then cf w m x - ((if w.testBit x then 1 else 0 : Nat) : Int) else cf w m x + ((if w.testBit x then 1 else 0 : Nat) : Int)) else cf w m x
theorem cf_bound (w m : Nat) : ∀ x : Nat, -(x : Int) ≤ cf w m x ∧ cf w m x ≤ (x : Int)
  | 0 => by simp [cf]
  | x + 1 => by
    have h := cf_bound w m x
    have hb : ((if w.testBit x then 1 else 0 : Nat) : Int) = 0 ∨ ((if w.testBit x then 1 else 0 : Nat) : Int) = 1 := by cases w.testBit x <;> simp
    simp only [cf]
    split
    · split <;> omega
    · omega
theorem cf_more (w m : Nat) : ∀ d, cf w m (m + 1 + d) = cf w m (m + 1)
  | 0 => rfl
  | d + 1 => by
    rw [← Nat.add_assoc, cf, cf_more w m d, part_gt w m (m + 1 + d) (by omega)]
    rfl
def cfs (w n m : Nat) : List Int := (List.range m).map fun m => cf w m (2 ^ n)
theorem cfs_len (w n m : Nat) : (cfs w n m).length = m := by simp [cfs]
theorem cfs_get (w n m i : Nat) (h : i < m) : (cfs w n m)[i]? = some (cf w i (2 ^ n)) := by simp [cfs, h]
theorem cfs_succ (w n m : Nat) : cfs w n (m + 1) = cfs w n m ++ [cf w m (2 ^ n)] := by simp [cfs, List.range_succ]
theorem xor_small : ∀ m, m < 32 → ∀ x, x < 32 → m ^^^ x < 32 := by decide +kernel
theorem spec_coef_inner (N : Nat) (hN : 64 < N) (n w m : Nat) (hw : w < 4294967296) (hm : m < 32) (l : List Int) (K : Int → Int → Int → Int → List Int → Option β) :
    ∀ (F x : Nat), m + 1 - x < F → x ≤ m + 1 → j45 N F (m : Int) (cf w m x) (x : Int) (n : Int) (w : Int) l K = K m (cf w m (m + 1)) n w l := by
  intro F
  induction F with
  | zero => intro x h; omega
  | succ F ih =>
    intro x hF hx
    simp only [j45, j44]
    by_cases hlt : x ≤ m
    · have hb := cf_bound w m x
      have hxm := xor_small m hm x (by omega)
      have hbit : ((if w.testBit x then 1 else 0 : Nat) : Int) = 0 ∨ ((if w.testBit x then 1 else 0 : Nat) : Int) = 1 := by cases w.testBit x <;> simp
      have hon := ones_le (m ^^^ x)
      rw [decide_eq_true (by omega : (x : Int) ≤ (m : Int)), cond_true, bAnd x m (by omega) (by omega), bXor m x (by omega) (by omega), spec_l2Count_eq N _ hN (by omega), gd_true (decide_eq_true (by omega : (0 : Int) ≤ (x : Int))), bit_at w x (by omega), w64_succ x (by omega), w64_id (by omega) (by omega), gd_true (decide_eq_true (by omega : (0 : Int) ≤ (x : Int))), w64_id (by omega) (by omega)]
      have e0 : (((x &&& m : Nat) : Int) != (x : Int)) = !(x &&& m == x) := by rw [bne, and_eq]
      have e4 : remI ((ones (m ^^^ x) : Nat) : Int) 2 = ((ones (m ^^^ x) % 2 : Nat) : Int) := remI_len _ 2 (by decide)
      have e5 : (((ones (m ^^^ x) % 2 : Nat) : Int) == 1) = (ones (m ^^^ x) % 2 == 1) := by
        rw [Bool.eq_iff_iff, beq_iff_eq, beq_iff_eq]; omega
      rw [e0, e4, e5]
      have h1 := ih (x + 1) (by omega) (by omega)
      simp only [cf] at h1
      cases he : x &&& m == x with
      | false => rw [he] at h1; exact h1
      | true =>
        rw [he] at h1
        cases ho : ones (m ^^^ x) % 2 == 1 with
        | true => rw [ho] at h1; exact h1
        | false => rw [ho] at h1; exact h1
    · rw [decide_eq_false (by omega : ¬ (x : Int) ≤ (m : Int)), cond_false, show x = m + 1 by omega]
theorem spec_RealCoefficients_eq (N : Nat) (hN : 64 < N) (n w : Nat) (hn : n ≤ 5) (hw : w < 2 ^ 2 ^ n) (k : List Int → Option β) : j48 N (n : Int) (w : Int) k = k (cfs w n (2 ^ n)) := by
  have hw' := two32 hn hw
  have hs := size_le hn
  unfold j48
  have key : ∀ (F m : Nat), 2 ^ n - m < F → m ≤ 2 ^ n → j47 N F (m : Int) (n : Int) (w : Int) (cfs w n m) k = k (cfs w n (2 ^ n)) := by
    intro F
    induction F with
    | zero => intro x h; omega
    | succ F ih =>
      intro m hF hm
      simp only [j47, j46]
      rw [spec_IsTable_eq, isT_of hn hw, cond_true, gd_true (decide_eq_true (by omega : (0 : Int) ≤ (n : Int))), shl_one n (by omega)]
      by_cases hlt : m < 2 ^ n
      · have e := fun K => spec_coef_inner (β := β) N hN n w m hw' (by omega) (cfs w n m) K N 0 (by omega) (by omega)
        simp only [cf, Int.natCast_zero] at e
        have e2 := cf_more w m (2 ^ n - (m + 1))
        rw [show m + 1 + (2 ^ n - (m + 1)) = 2 ^ n by omega] at e2
        simp only [cf] at e2
        rw [decide_eq_true (by omega : (m : Int) < ((2 ^ n : Nat) : Int)), cond_true, e, ← e2, cfs_len, gd_true (decide_eq_true (by simp; omega)), w64_succ m (by omega)]
        have h1 := ih (m + 1) (by omega) (by omega)
        rw [cfs_succ] at h1
        exact h1
      · rw [decide_eq_false (by omega : ¬ (m : Int) < ((2 ^ n : Nat) : Int)), cond_false, show m = 2 ^ n by omega]
  exact key N 0 (by omega) (Nat.zero_le _)
theorem impl_coef_inner (N : Nat) (hN : 64 < N) (n w m : Nat) (hn : n ≤ 5) (hw : w < 4294967296) (hm : m < 2 ^ n) (v1 v2 : Int) (l0 : List Int) (hl0 : l0.length = 2 ^ n) (K : Int → Int → Int → Int → List Int → Option β) :
    ∀ (F x : Nat), 2 ^ n - x < F → x ≤ 2 ^ n → j137 N F (m : Int) v1 v2 ((2 ^ n : Nat) : Int) (x : Int) (n : Int) (w : Int) (l0.set m (cf w m x)) K = K v1 v2 n w (l0.set m (cf w m (2 ^ n))) := by
  have hs := size_le hn
  intro F
  induction F with
  | zero => intro x h; omega
  | succ F ih =>
    intro x hF hx
    simp only [j137, j136, j94]
    by_cases hlt : x < 2 ^ n
    · have hb := cf_bound w m x
      have hxm := xor_small m (by omega) x (by omega)
      have hbit : ((if w.testBit x then 1 else 0 : Nat) : Int) = 0 ∨ ((if w.testBit x then 1 else 0 : Nat) : Int) = 1 := by cases w.testBit x <;> simp
      have hlen : (l0.set m (cf w m x)).length = 2 ^ n := by rw [List.length_set, hl0]
      have hrd : rd 0 (l0.set m (cf w m x)) (m : Int) = cf w m x := by
        rw [rd_nat 0 _ m (by omega), List.getElem_set_self]
      have hwr : ∀ v : Int, wr (l0.set m (cf w m x)) (m : Int) v = l0.set m v := fun v => by
        unfold wr
        rw [Int.toNat_natCast, List.set_set]
      have hon := ones_le (m ^^^ x)
      have g0 : decide ((0 : Int) ≤ (m : Int)) = true := decide_eq_true (by omega)
      have g1 : decide ((m : Int) < ((l0.set m (cf w m x)).length : Int)) = true := by rw [hlen]; exact decide_eq_true (by omega)
      rw [decide_eq_true (by omega : (x : Int) < ((2 ^ n : Nat) : Int)), cond_true, bAndNot x m (by omega) (by omega), bXor m x (by omega) (by omega), impl_ones_eq N _ (by omega)]
      simp only [gd_true g0, gd_true g1, gd_true (decide_eq_true (by omega : (0 : Int) ≤ (x : Int)))]
      rw [bit_at w x (by omega), hrd, hwr, hwr, w64_succ x (by omega), w64_id (by omega) (by omega), w64_id (by omega) (by omega)]
      have e0 : (((x ^^^ (x &&& m) : Nat) : Int) != 0) = !(x &&& m == x) := by rw [bne, andnot_eq]
      have e4 : remI ((ones (m ^^^ x) : Nat) : Int) 2 = ((ones (m ^^^ x) % 2 : Nat) : Int) := remI_len _ 2 (by decide)
      have e5 : (((ones (m ^^^ x) % 2 : Nat) : Int) == 0) = !(ones (m ^^^ x) % 2 == 1) := by
        rcases Nat.mod_two_eq_zero_or_one (ones (m ^^^ x)) with h | h <;> rw [h] <;> rfl
      rw [e0, e4, e5]
      have h1 := ih (x + 1) (by omega) (by omega)
      simp only [cf] at h1
      cases he : x &&& m == x with
      | false => rw [he] at h1; exact h1
      | true =>
        rw [he] at h1
        cases ho : ones (m ^^^ x) % 2 == 1 with
        | true => rw [ho] at h1; exact h1
        | false => rw [ho] at h1; exact h1
    · rw [decide_eq_false (by omega : ¬ (x : Int) < ((2 ^ n : Nat) : Int)), cond_false, show x = 2 ^ n by omega]
theorem impl_coefficients_eq (N : Nat) (hN : 64 < N) (n w : Nat) (hn : n ≤ 5) (hw : w < 2 ^ 2 ^ n) (k : List Int → Option β) : j140 N (n : Int) (w : Int) k = k (cfs w n (2 ^ n)) := by
  have hw' := two32 hn hw
  have hs := size_le hn
  unfold j140 j90
  rw [gd_true (decide_eq_true (by omega : (0 : Int) ≤ (n : Int))), shl_one n (by omega)]
  show gd (decide ((0 : Int) ≤ ((2 ^ n : Nat) : Int))) (gd (decide (((2 ^ n : Nat) : Int) ≤ ((2 ^ n : Nat) : Int))) (gd (decide (8 * ((2 ^ n : Nat) : Int) ≤ 281474976710656)) (j139 N N ((List.replicate (Int.toNat ((2 ^ n : Nat) : Int)) (0 : Int)).length : Int) 0 (n : Int) (w : Int) (List.replicate (Int.toNat ((2 ^ n : Nat) : Int)) (0 : Int)) k))) = _
  rw [gd_true (decide_eq_true (Int.natCast_nonneg _)), gd_true (decide_eq_true (Int.le_refl _)), gd_true (decide_eq_true (by omega)), List.length_replicate, Int.toNat_natCast]
  have key : ∀ (F m : Nat) (l : List Int), 2 ^ n - m < F → m ≤ 2 ^ n → l.length = 2 ^ n → (∀ j, j < m → l[j]? = some (cf w j (2 ^ n))) → (∀ j, m ≤ j → j < 2 ^ n → l[j]? = some 0) →
      j139 N F ((2 ^ n : Nat) : Int) (m : Int) (n : Int) (w : Int) l k = k (cfs w n (2 ^ n)) := by
    intro F
    induction F with
    | zero => intro x l h; omega
    | succ F ih =>
      intro m l hF hm hl h1 h2
      simp only [j139, j138, j90]
      by_cases hlt : m < 2 ^ n
      · have e := fun K => impl_coef_inner (β := β) N hN n w m hn hw' hlt ((2 ^ n : Nat) : Int) (m : Int) l hl K N 0 (by omega) (Nat.zero_le _)
        have e1 : l.set m (cf w m 0) = l := by
          apply List.ext_getElem?
          intro j
          rw [List.getElem?_set]
          split
          · rename_i hj
            subst hj
            rw [if_pos (by omega), h2 m (Nat.le_refl _) hlt]
            rfl
          · rfl
        simp only [e1, Int.natCast_zero] at e
        rw [decide_eq_true (by omega : (m : Int) < ((2 ^ n : Nat) : Int)), cond_true, gd_true (decide_eq_true (by omega : (0 : Int) ≤ (n : Int))), shl_one n (by omega), e, w64_succ m (by omega)]
        refine ih (m + 1) _ (by omega) (by omega) (by rw [List.length_set, hl]) (fun j hj => ?_) (fun j hj hj2 => ?_)
        · rw [List.getElem?_set]
          split
          · rename_i hmj
            subst hmj
            rw [if_pos (by omega)]
          · exact h1 j (by omega)
        · rw [List.getElem?_set, if_neg (by omega)]
          exact h2 j (by omega) hj2
      · rw [decide_eq_false (by omega : ¬ (m : Int) < ((2 ^ n : Nat) : Int)), cond_false]
        congr 1
        apply List.ext_getElem?
        intro j
        rcases Nat.lt_or_ge j (2 ^ n) with h | h
        · rw [h1 j (by omega), cfs_get w n _ j h]
        · rw [List.getElem?_eq_none (by omega), List.getElem?_eq_none (by rw [cfs_len]; exact h)]
  exact key N 0 _ (by omega) (Nat.zero_le _) (by simp) (fun j hj => by omega) (fun j _ hj => by simp [hj])
/-- The degree of a table. -/
def deg (w n : Nat) : Int := dg (fun m => cf w m (2 ^ n) != 0) (2 ^ n)
theorem cfs_rd (w n m : Nat) (h : m < 2 ^ n) : rd 0 (cfs w n (2 ^ n)) (m : Int) = cf w m (2 ^ n) := by
  rw [rd_nat 0 _ m (by rw [cfs_len]; exact h)]
  have := cfs_get w n (2 ^ n) m h
  rw [List.getElem?_eq_getElem (by rw [cfs_len]; exact h)] at this
  exact Option.some.inj this
theorem spec_RealDegree_eq (N : Nat) (hN : 64 < N) (n w : Nat) (hn : n ≤ 5) (hw : w < 2 ^ 2 ^ n) (k : Int → Option β) : j51 N (n : Int) (w : Int) k = k (deg w n) := by
  have hs := size_le hn
  unfold j51
  rw [spec_IsTable_eq, isT_of hn hw, Bool.not_true, cond_false, spec_RealCoefficients_eq N hN n w hn hw]
  unfold deg
  generalize hpd : (fun m => cf w m (2 ^ n) != 0) = p
  have hpm : ∀ m, (cf w m (2 ^ n) != 0) = p m := fun m => by rw [← hpd]
  have key : ∀ (F m : Nat), 2 ^ n - m < F → m ≤ 2 ^ n → j50 N F (dg p m) (m : Int) (cfs w n (2 ^ n)) k = k (dg p (2 ^ n)) := by
    intro F
    induction F with
    | zero => intro x h; omega
    | succ F ih =>
      intro m hF hm
      simp only [j50, j49, cfs_len]
      by_cases hlt : m < 2 ^ n
      · rw [decide_eq_true (by omega : (m : Int) < ((2 ^ n : Nat) : Int)), cond_true, gd_true (decide_eq_true (by omega : (0 : Int) ≤ (m : Int))), gd_true rfl, cfs_rd w n m hlt, spec_l2Count_eq N m hN (by omega), w64_succ m (by omega), hpm]
        have h1 := ih (m + 1) (by omega) (by omega)
        simp only [dg] at h1
        cases hp : p m with
        | true => rw [hp] at h1; exact h1
        | false => rw [hp] at h1; exact h1
      · rw [decide_eq_false (by omega : ¬ (m : Int) < ((2 ^ n : Nat) : Int)), cond_false, show m = 2 ^ n by omega]
  exact key N 0 (by omega) (Nat.zero_le _)
theorem impl_RealDegree_eq (N : Nat) (hN : 64 < N) (n w : Nat) (hn : n ≤ 5) (hw : w < 2 ^ 2 ^ n) (k : Int → Option β) : j146 N (n : Int) (w : Int) k = k (deg w n) := by
  have hs := size_le hn
  have hw' := two32 hn hw
  unfold j146
  rw [impl_IsTable_eq N _ _ (by omega), isT_of hn hw, Bool.not_true, cond_false, impl_coefficients_eq N hN n w hn hw]
  refine impl_degree_eq N hN n hn _ (fun m => cf w m (2 ^ n) != 0) (fun x k hx => ?_) k
  unfold j141
  rw [gd_true (decide_eq_true (by omega : (0 : Int) ≤ (x : Int))), cfs_len, gd_true (decide_eq_true (by omega : (x : Int) < ((2 ^ n : Nat) : Int))), cfs_rd w n x hx]
end Go.Proofs.YtignjkbhdaiegaaGreatDoor
namespace Go.Proofs.YtignjkbhdaiegaaGreatDoor
open Go.Rv
set_option linter.unusedVariables false
variable {β : Type}
/-- Whether a block changes the value. -/
def ch (w x b : Nat) : Bool := w.testBit x != w.testBit (x ^^^ b)
theorem ch_zero (w x : Nat) : ch w x 0 = false := by simp [ch]
/-- The least blocks, as far as looked. -/
def sb (g : Nat → Bool) : Nat → List Nat
  | 0 => []
  | b + 1 => if g b && (sb g b).all (fun m => !(m &&& b == m)) then sb g b ++ [b] else sb g b
theorem sb_lt (g : Nat → Bool) : ∀ b, ∀ m ∈ sb g b, m < b
  | 0, m, h => by cases h
  | b + 1, m, h => by
    simp only [sb] at h
    split at h
    · rcases List.mem_append.1 h with h | h
      · have := sb_lt g b m h; omega
      · simp at h; omega
    · have := sb_lt g b m h; omega
theorem sb_len (g : Nat → Bool) : ∀ b, (sb g b).length ≤ b
  | 0 => by simp [sb]
  | b + 1 => by
    have := sb_len g b
    simp only [sb]
    split
    · simp; omega
    · omega
def ints (l : List Nat) : List Int := l.map (fun (m : Nat) => (m : Int))
theorem ints_len (l : List Nat) : (ints l).length = l.length := by simp [ints]
theorem ints_rd (l : List Nat) (i : Nat) (h : i < l.length) : rd 0 (ints l) (i : Int) = ((l[i] : Nat) : Int) := by
  rw [rd_nat 0 _ i (by rw [ints_len]; exact h)]
  simp [ints]

theorem block_lt : ∀ n, n ≤ 4 → ∀ x, x < 2 ^ n → ∀ b, b < 2 ^ n → x ^^^ b < 2 ^ n := by decide +kernel
theorem size4 {n : Nat} (h : n ≤ 4) : 2 ^ n ≤ 16 := Nat.le_trans (Nat.pow_le_pow_right (by decide) h) (by decide)

theorem spec_blocks_inner (N n w x b : Nat) (hb : b < 16) (l : List Nat) (hl : ∀ m ∈ l, m < 16) (hlen : l.length ≤ 16) (K : Int → Int → Bool → Int → Int → List Int → Option β) :
    ∀ (d F i : Nat) (v : Bool), i + d = l.length → d < F → j12 N F (x : Int) (b : Int) v (i : Int) (n : Int) (w : Int) (ints l) K = K x b (v && (l.drop i).all fun m => !(m &&& b == m)) n w (ints l) := by
  intro d
  induction d with
  | zero =>
    intro F i v hi hF
    obtain ⟨F, rfl⟩ : ∃ G, F = G + 1 := ⟨F - 1, by omega⟩
    simp only [j12, j11, ints_len]
    rw [decide_eq_false (by omega : ¬ (i : Int) < (l.length : Int)), cond_false, List.drop_eq_nil_of_le (by omega)]
    simp
  | succ d ih =>
    intro F i v hi hF
    obtain ⟨F, rfl⟩ : ∃ G, F = G + 1 := ⟨F - 1, by omega⟩
    have hlt : i < l.length := by omega
    have hm := hl l[i] (List.getElem_mem hlt)
    simp only [j12, j11, ints_len]
    rw [decide_eq_true (by omega : (i : Int) < (l.length : Int)), cond_true, w64_succ i (by omega), gd_true (decide_eq_true (by omega : (0 : Int) ≤ (i : Int))), gd_true rfl, gd_true (decide_eq_true (by omega : (0 : Int) ≤ (i : Int))), gd_true rfl, ints_rd l i hlt, bAnd _ b (by omega) (by omega), List.drop_eq_getElem_cons hlt]
    have e : (((l[i] &&& b : Nat) : Int) != ((l[i] : Nat) : Int)) = !(l[i] &&& b == l[i]) := by rw [bne, and_eq]
    rw [e, ih F (i + 1) _ (by omega) (by omega), ih F (i + 1) _ (by omega) (by omega), List.all_cons]
    cases v <;> simp

theorem spec_l10Blocks_eq (N : Nat) (hN : 64 < N) (n w x : Nat) (hn : n ≤ 4) (hw : w < 2 ^ 2 ^ n) (hx : x < 2 ^ n) (k : List Int → Option β) : j15 N (n : Int) (w : Int) (x : Int) k = k (ints (sb (ch w x) (2 ^ n))) := by
  have hs := size4 hn
  have hw' := two32 (by omega) hw
  unfold j15
  have key : ∀ (F b : Nat), 2 ^ n - b < F → b ≤ 2 ^ n → j14 N F (x : Int) (b : Int) (n : Int) (w : Int) (ints (sb (ch w x) b)) k = k (ints (sb (ch w x) (2 ^ n))) := by
    intro F
    induction F with
    | zero => intro b h; omega
    | succ F ih =>
      intro b hF hb
      simp only [j14, j13]
      rw [gd_true (decide_eq_true (by omega : (0 : Int) ≤ (n : Int))), shl_one n (by omega)]
      by_cases hlt : b < 2 ^ n
      · have hxb := block_lt n hn x hx b hlt
        have hsl := sb_len (ch w x) b
        have e := fun K => spec_blocks_inner (β := β) N n w x b (by omega) (sb (ch w x) b) (fun m hm => by have := sb_lt _ _ m hm; omega) (by omega) K (sb (ch w x) b).length N 0 true (by omega) (by omega)
        simp only [Int.natCast_zero, List.drop_zero, Bool.true_and] at e
        rw [decide_eq_true (by omega : (b : Int) < ((2 ^ n : Nat) : Int)), cond_true, gd_true (decide_eq_true (by omega : (0 : Int) ≤ (x : Int))), bXor x b (by omega) (by omega), gd_true (decide_eq_true (by omega : (0 : Int) ≤ ((x ^^^ b : Nat) : Int))), bit_at w x (by omega), bit_at w _ (by omega), bit_ne, e, w64_succ b (by omega), ints_len, gd_true (decide_eq_true (by simp; omega))]
        have h1 := ih (b + 1) (by omega) (by omega)
        have e2 : (w.testBit x == w.testBit (x ^^^ b)) = !ch w x b := by unfold ch; simp [bne]
        rw [e2]
        simp only [sb] at h1
        cases hc : ch w x b with
        | false => rw [hc] at h1; exact h1
        | true =>
          rw [hc, Bool.true_and] at h1
          rw [Bool.not_true, cond_false]
          cases ha : (sb (ch w x) b).all (fun m => !(m &&& b == m)) with
          | true =>
            rw [ha] at h1
            rw [cond_true]
            have e3 : ints (sb (ch w x) b) ++ (([] : List Int) ++ [(b : Int)]) = ints (sb (ch w x) b ++ [b]) := by simp [ints]
            rw [e3]
            exact h1
          | false => rw [ha] at h1; exact h1
      · rw [decide_eq_false (by omega : ¬ (b : Int) < ((2 ^ n : Nat) : Int)), cond_false, show b = 2 ^ n by omega]
  have h0 : sb (ch w x) 1 = [] := by simp [sb, ch_zero]
  have hpos := Nat.two_pow_pos n
  have := key N 1 (by omega) (by omega)
  rw [h0] at this
  exact this

/-- The greatest number of blocks of a list that have nothing in common. -/
def pk : List Nat → Nat → Nat
  | [], _ => 0
  | b :: l, u => if b &&& u == 0 then max (1 + pk l (u ||| b)) (pk l u) else pk l u
theorem pk_le : ∀ (l : List Nat) (u : Nat), pk l u ≤ l.length
  | [], _ => Nat.le_refl _
  | b :: l, u => by
    have h1 := pk_le l (u ||| b)
    have h2 := pk_le l u
    simp only [pk, List.length_cons]
    split <;> omega
theorem or_small : ∀ a, a < 16 → ∀ b, b < 16 → a ||| b < 16 := by decide +kernel
theorem spec_pack_f (N : Nat) (hN : 64 < N) (l : List Nat) (hl : ∀ m ∈ l, m < 16) (hlen : l.length ≤ 16) : ∀ (F i u : Nat), l.length - i < F → i ≤ l.length → u < 16 → ∀ k : Int → Option β, j19 N F (ints l) (i : Int) (u : Int) k = k (pk (l.drop i) u : Int) := by
  intro F
  induction F with
  | zero => intro i u h; omega
  | succ F ih =>
    intro i u hF hi hu k
    simp only [j19, j18]
    have key : ∀ (d G j best : Nat), j + d = l.length → d < G → i ≤ j → best ≤ 16 → j17 N (j19 N F) G (ints l) (u : Int) (best : Int) (j : Int) k = k ((max best (pk (l.drop j) u) : Nat) : Int) := by
      intro d
      induction d with
      | zero =>
        intro G j best hj hG hij hbest
        obtain ⟨G, rfl⟩ : ∃ H, G = H + 1 := ⟨G - 1, by omega⟩
        simp only [j17, j16, ints_len]
        rw [decide_eq_false (by omega : ¬ (j : Int) < (l.length : Int)), cond_false, List.drop_eq_nil_of_le (by omega)]
        simp [pk]
      | succ d ihd =>
        intro G j best hj hG hij hbest
        obtain ⟨G, rfl⟩ : ∃ H, G = H + 1 := ⟨G - 1, by omega⟩
        have hlt : j < l.length := by omega
        have hm := hl l[j] (List.getElem_mem hlt)
        have hor := or_small u hu l[j] hm
        have hpk := pk_le (l.drop (j + 1)) (u ||| l[j])
        rw [List.length_drop] at hpk
        simp only [j17, j16, ints_len]
        rw [decide_eq_true (by omega : (j : Int) < (l.length : Int)), cond_true]
        simp only [gd_true (decide_eq_true (by omega : (0 : Int) ≤ (j : Int))), gd_true (rfl : true = true)]
        rw [ints_rd l j hlt, bAnd _ u (by omega) (by omega), bOr u _ (by omega) (by omega), w64_succ j (by omega), ih (j + 1) (u ||| l[j]) (by omega) (by omega) hor]
        rw [show (1 : Int) + ((pk (l.drop (j + 1)) (u ||| l[j]) : Nat) : Int) = ((1 + pk (l.drop (j + 1)) (u ||| l[j]) : Nat) : Int) by omega, w64_nat _ (by omega), mxI_nat, ihd G (j + 1) _ (by omega) (by omega) (by omega) (by omega), ihd G (j + 1) _ (by omega) (by omega) (by omega) (by omega), List.drop_eq_getElem_cons hlt]
        have e : (((l[j] &&& u : Nat) : Int) == 0) = (l[j] &&& u == 0) := by
          rw [Bool.eq_iff_iff, beq_iff_eq, beq_iff_eq]; omega
        rw [e]
        simp only [pk]
        cases l[j] &&& u == 0 with
        | true => simp only [cond_true, if_true]; rw [Nat.max_assoc]
        | false => simp
    have := key (l.length - i) N i 0 (by omega) (by omega) (Nat.le_refl _) (by omega)
    simp only [Int.natCast_zero] at this
    rw [this, Nat.zero_max]

/-! ### The same by sets -/
def stepN (s : Nat) (a : List Nat) (b : Nat) : List Nat := if b &&& s == b then a.set s (max (a.getD s 0) (1 + a.getD (s ^^^ (s &&& b)) 0)) else a
def dpRow (l : List Nat) (s : Nat) (a : List Nat) : List Nat := l.foldl (stepN s) a
def dpTo (l : List Nat) (M : Nat) : Nat → List Nat
  | 0 => List.replicate M 0
  | s + 1 => dpRow l s (dpTo l M s)
theorem stepN_len (s : Nat) (a : List Nat) (b : Nat) : (stepN s a b).length = a.length := by unfold stepN; split <;> simp
theorem dpRow_len (s : Nat) : ∀ (l a : List Nat), (dpRow l s a).length = a.length
  | [], a => rfl
  | b :: l, a => by rw [dpRow, List.foldl_cons]; exact (dpRow_len s l _).trans (stepN_len s a b)
theorem dpTo_len (l : List Nat) (M : Nat) : ∀ s, (dpTo l M s).length = M
  | 0 => by simp [dpTo]
  | s + 1 => by rw [dpTo, dpRow_len, dpTo_len l M s]
theorem getD_bound {a : List Nat} {c : Nat} (h : ∀ v ∈ a, v ≤ c) (i : Nat) : a.getD i 0 ≤ c := by
  rw [List.getD_eq_getElem?_getD]
  rcases Nat.lt_or_ge i a.length with hi | hi
  · rw [List.getElem?_eq_getElem hi]; exact h _ (List.getElem_mem hi)
  · rw [List.getElem?_eq_none hi]; exact Nat.zero_le _
theorem stepN_bound {s : Nat} {a : List Nat} {b c : Nat} (h : ∀ v ∈ a, v ≤ c) : ∀ v ∈ stepN s a b, v ≤ c + 1 := by
  intro v hv
  have h1 := getD_bound h s
  have h2 := getD_bound h (s ^^^ (s &&& b))
  unfold stepN at hv
  split at hv
  · rcases List.mem_or_eq_of_mem_set hv with hv | hv
    · have := h v hv; omega
    · omega
  · have := h v hv; omega
theorem dpRow_bound {s : Nat} : ∀ {l a : List Nat} {c : Nat}, (∀ v ∈ a, v ≤ c) → ∀ v ∈ dpRow l s a, v ≤ c + l.length
  | [], a, c, h, v, hv => h v hv
  | b :: l, a, c, h, v, hv => by
    have := dpRow_bound (l := l) (stepN_bound (s := s) (b := b) h) v hv
    simp only [List.length_cons]
    omega
theorem dpTo_bound (l : List Nat) (M : Nat) : ∀ s, ∀ v ∈ dpTo l M s, v ≤ s * l.length
  | 0, v, hv => by
    simp only [dpTo, List.mem_replicate] at hv
    omega
  | s + 1, v, hv => by
    have := dpRow_bound (dpTo_bound l M s) v hv
    rw [Nat.add_mul, Nat.one_mul]
    exact this
theorem ints_getD (a : List Nat) (i : Nat) : rd 0 (ints a) (i : Int) = ((a.getD i 0 : Nat) : Int) := by
  rcases Nat.lt_or_ge i a.length with h | h
  · rw [ints_rd a i h, List.getD_eq_getElem?_getD, List.getElem?_eq_getElem h]; rfl
  · rw [List.getD_eq_getElem?_getD, List.getElem?_eq_none h]
    simp [rd, ints, List.getElem?_eq_none h]
theorem ints_set (a : List Nat) (i v : Nat) : wr (ints a) (i : Int) (v : Int) = ints (a.set i v) := by
  simp [wr, ints, List.map_set]

theorem sub_small : ∀ s, s < 16 → ∀ b, b < 16 → s ^^^ (s &&& b) ≤ s := by decide +kernel
theorem impl_apart_inner (N n w s : Nat) (hs : s < 16) (v1 v2 v3 : Int) (l : List Nat) (hl : ∀ m ∈ l, m < 16) (hlen : l.length ≤ 16) (K : Int → Int → Int → Int → List Int → List Int → Option β) :
    ∀ (d F i c : Nat) (a : List Nat), i + d = l.length → d < F → s < a.length → c + d ≤ 100000 → (∀ v ∈ a, v ≤ c) → j108 N F (s : Int) v1 v2 (l.length : Int) (i : Int) (n : Int) (w : Int) (ints l) (ints a) K = K v1 v2 n w (ints l) (ints (dpRow (l.drop i) s a)) := by
  intro d
  induction d with
  | zero =>
    intro F i c a hi hF ha hc hb
    obtain ⟨F, rfl⟩ : ∃ G, F = G + 1 := ⟨F - 1, by omega⟩
    simp only [j108, j107, ints_len]
    rw [decide_eq_false (by omega : ¬ (i : Int) < (l.length : Int)), cond_false, List.drop_eq_nil_of_le (by omega)]
    rfl
  | succ d ih =>
    intro F i c a hi hF ha hc hb
    obtain ⟨F, rfl⟩ : ∃ G, F = G + 1 := ⟨F - 1, by omega⟩
    have hlt : i < l.length := by omega
    have hm := hl l[i] (List.getElem_mem hlt)
    have hsub := sub_small s hs l[i] hm
    have b1 := getD_bound hb s
    have b2 := getD_bound hb (s ^^^ (s &&& l[i]))
    simp only [j108, j107, ints_len]
    rw [decide_eq_true (by omega : (i : Int) < (l.length : Int)), cond_true, ints_rd l i hlt, bAndNot _ s (by omega) (by omega), bAndNot s _ (by omega) (by omega), andnot_eq, ints_getD, ints_getD, w64_succ i (by omega)]
    simp only [gd_true (decide_eq_true (by omega : (0 : Int) ≤ (i : Int))), gd_true (rfl : true = true), gd_true (decide_eq_true (by omega : (0 : Int) ≤ (s : Int))), gd_true (decide_eq_true (by omega : (s : Int) < (a.length : Int))), gd_true (decide_eq_true (by omega : (0 : Int) ≤ ((s ^^^ (s &&& l[i]) : Nat) : Int))), gd_true (decide_eq_true (by omega : ((s ^^^ (s &&& l[i]) : Nat) : Int) < (a.length : Int)))]
    rw [show (1 : Int) + ((a.getD (s ^^^ (s &&& l[i])) 0 : Nat) : Int) = ((1 + a.getD (s ^^^ (s &&& l[i])) 0 : Nat) : Int) by omega, w64_nat _ (by omega), mxI_nat, ints_set]
    have h1 := ih F (i + 1) (c + 1) (stepN s a l[i]) (by omega) (by omega) (by rw [stepN_len]; exact ha) (by omega) (stepN_bound hb)
    rw [List.drop_eq_getElem_cons hlt]
    have e : dpRow (l[i] :: l.drop (i + 1)) s a = dpRow (l.drop (i + 1)) s (stepN s a l[i]) := rfl
    rw [e]
    have e2 : stepN s a l[i] = if l[i] &&& s == l[i] then a.set s (max (a.getD s 0) (1 + a.getD (s ^^^ (s &&& l[i])) 0)) else a := rfl
    cases hc2 : l[i] &&& s == l[i] with
    | true => rw [hc2, if_pos rfl] at e2; rw [e2] at h1 ⊢; exact h1
    | false => rw [hc2, if_neg (by decide)] at e2; rw [e2] at h1 ⊢; exact h1

/-! ### The least blocks, by their parts -/
def chain (b : Nat) : Nat → Nat → List Nat
  | 0, _ => []
  | f + 1, p => if p == 0 then [] else p :: chain b f ((p - 1) &&& b)
theorem chain_all : ∀ b, b < 16 → chain b 16 ((b - 1) &&& b) = ((List.range b).filter fun p => p != 0 && p &&& b == p).reverse := by decide +kernel
theorem chain_short : ∀ b, b < 16 → (chain b 16 ((b - 1) &&& b)).length < 16 := by decide +kernel
theorem impl_blocks_inner (N n w x b : Nat) (hn : n ≤ 4) (hw : w < 4294967296) (hx : x < 2 ^ n) (hb : b < 2 ^ n) (v4 v5 : Int) (l : List Int) (K : Int → Int → Bool → Int → Int → Int → Int → List Int → Option β) :
    ∀ (f F p : Nat) (v : Bool), p ≤ b → (chain b f p).length < f → f < F → j103 N F (x : Int) (b : Int) v (p : Int) v4 v5 (n : Int) (w : Int) l K = K x b (v && (chain b f p).all fun q => !ch w x q) v4 v5 n w l := by
  have hs := size4 hn
  intro f
  induction f with
  | zero => intro F p v hp hl; simp at hl
  | succ f ih =>
    intro F p v hp hl hF
    obtain ⟨F, rfl⟩ : ∃ G, F = G + 1 := ⟨F - 1, by omega⟩
    simp only [j103, j102, j95, j94]
    cases v with
    | false => simp
    | true =>
      rw [cond_true]
      by_cases h0 : p = 0
      · subst h0
        rw [decide_eq_false (by omega : ¬ ((0 : Nat) : Int) > 0), cond_false]
        simp [chain]
      · have hxp := block_lt n hn x hx p (by omega)
        have hand : (p - 1) &&& b ≤ b := Nat.and_le_right
        have hc : chain b (f + 1) p = p :: chain b f ((p - 1) &&& b) := by
          simp only [chain]
          rw [if_neg (by simpa using h0)]
        rw [hc] at hl ⊢
        simp only [List.length_cons] at hl
        rw [decide_eq_true (by omega : (p : Int) > 0), cond_true, bXor x p (by omega) (by omega), gd_true (decide_eq_true (by omega : (0 : Int) ≤ (x : Int)))]
        show gd (decide ((0 : Int) ≤ ((x ^^^ p : Nat) : Int))) _ = _
        rw [gd_true (decide_eq_true (by omega : (0 : Int) ≤ ((x ^^^ p : Nat) : Int))), bit_at w x (by omega), bit_at w _ (by omega), show ((p : Int) - 1) = ((p - 1 : Nat) : Int) by omega, w64_nat _ (by omega), bAnd (p - 1) b (by omega) (by omega)]
        have e : (((if w.testBit x then 1 else 0 : Nat) : Int) != ((if w.testBit (x ^^^ p) then 1 else 0 : Nat) : Int)) = ch w x p := by rw [bne, bit_ne]; rfl
        show j103 N F (x : Int) (b : Int) (!(((if w.testBit x then 1 else 0 : Nat) : Int) != ((if w.testBit (x ^^^ p) then 1 else 0 : Nat) : Int))) (((p - 1) &&& b : Nat) : Int) v4 v5 (n : Int) (w : Int) l K = _
        rw [e, ih F _ _ hand (by omega) (by omega), List.all_cons, Bool.true_and]
theorem least_parts (g : Nat → Bool) (hg : g 0 = false) (b : Nat) (hb : b < 16) (P : ∀ c, c ≤ b → ∀ m, m ∈ sb g c ↔ m < c ∧ g m = true ∧ ∀ p, 0 < p → p < m → p &&& m = p → g p = false) :
    ((sb g b).all fun m => !(m &&& b == m)) = ((chain b 16 ((b - 1) &&& b)).all fun q => !g q) := by
  rw [chain_all b hb, Bool.eq_iff_iff, List.all_eq_true, List.all_eq_true]
  constructor
  · intro h q hq
    simp only [List.mem_reverse, List.mem_filter, List.mem_range, Bool.and_eq_true, bne_iff_ne, beq_iff_eq] at hq
    obtain ⟨hqb, hq0, hqs⟩ := hq
    have key : ∀ q, q < b → q ≠ 0 → q &&& b = q → g q = false := by
      intro q
      induction q using Nat.strongRecOn with
      | ind q ih =>
        intro h1 h2 h3
        cases hgq : g q with
        | false => rfl
        | true =>
          exfalso
          have hm : q ∈ sb g b := (P b (Nat.le_refl _) q).2 ⟨h1, hgq, fun p hp hpq hps => ih p hpq (by omega) (by omega) (by
            rw [← h3] at hps
            rw [← hps, ← Nat.and_assoc, Nat.and_assoc, Nat.and_assoc, Nat.and_assoc, Nat.and_self])⟩
          have := h q hm
          rw [h3] at this
          simp at this
    rw [key q hqb hq0 hqs]
    rfl
  · intro h m hm
    obtain ⟨h1, h2, -⟩ := (P b (Nat.le_refl _) m).1 hm
    cases hs : m &&& b == m with
    | false => rfl
    | true =>
      exfalso
      have hm0 : m ≠ 0 := fun e => by rw [e, hg] at h2; cases h2
      have := h m (by
        simp only [List.mem_reverse, List.mem_filter, List.mem_range, Bool.and_eq_true, bne_iff_ne, beq_iff_eq]
        exact ⟨h1, hm0, eq_of_beq hs⟩)
      rw [h2] at this
      cases this
theorem sb_mem (g : Nat → Bool) (hg : g 0 = false) : ∀ b, b ≤ 16 → ∀ c, c ≤ b → ∀ m, m ∈ sb g c ↔ m < c ∧ g m = true ∧ ∀ p, 0 < p → p < m → p &&& m = p → g p = false := by
  intro b
  induction b with
  | zero =>
    intro _ c hc m
    obtain rfl : c = 0 := by omega
    simp [sb]
  | succ b ih =>
    intro hb c hc m
    by_cases hcb : c ≤ b
    · exact ih (by omega) c hcb m
    · obtain rfl : c = b + 1 := by omega
      have hP := ih (by omega)
      have hl := least_parts g hg b (by omega) hP
      rw [chain_all b (by omega)] at hl
      have hall : ((sb g b).all fun m => !(m &&& b == m)) = true ↔ ∀ p, 0 < p → p < b → p &&& b = p → g p = false := by
        rw [hl, List.all_eq_true]
        constructor
        · intro h p h1 h2 h3
          have := h p (by
            simp only [List.mem_reverse, List.mem_filter, List.mem_range, Bool.and_eq_true, bne_iff_ne, beq_iff_eq]
            exact ⟨h2, by omega, h3⟩)
          simpa using this
        · intro h q hq
          simp only [List.mem_reverse, List.mem_filter, List.mem_range, Bool.and_eq_true, bne_iff_ne, beq_iff_eq] at hq
          rw [h q (by omega) hq.1 hq.2.2]
          rfl
      simp only [sb]
      by_cases hcnd : (g b && (sb g b).all fun m => !(m &&& b == m)) = true
      · rw [if_pos hcnd]
        simp only [Bool.and_eq_true] at hcnd
        rw [List.mem_append, hP b (Nat.le_refl _) m, List.mem_singleton]
        constructor
        · rintro (h | rfl)
          · exact ⟨by omega, h.2⟩
          · exact ⟨by omega, hcnd.1, hall.1 hcnd.2⟩
        · rintro ⟨h1, h2⟩
          by_cases e : m = b
          · exact .inr e
          · exact .inl ⟨by omega, h2⟩
      · rw [if_neg hcnd, hP b (Nat.le_refl _) m]
        constructor
        · rintro ⟨h1, h2⟩
          exact ⟨by omega, h2⟩
        · rintro ⟨h1, h2, h3⟩
          by_cases e : m = b
          · subst e
            refine absurd ?_ hcnd
            rw [h2, Bool.true_and]
            exact hall.2 h3
          · exact ⟨by omega, h2, h3⟩
theorem impl_Table_blocks_eq (N : Nat) (hN : 64 < N) (n w x : Nat) (hn : n ≤ 4) (hw : w < 2 ^ 2 ^ n) (hx : x < 2 ^ n) (k : List Int → Option β) : j106 N (n : Int) (w : Int) (x : Int) k = k (ints (sb (ch w x) (2 ^ n))) := by
  have hs := size4 hn
  have hw' := two32 (by omega) hw
  unfold j106 j90
  rw [gd_true (decide_eq_true (by omega : (0 : Int) ≤ (n : Int))), shl_one n (by omega)]
  have key : ∀ (F b : Nat), 2 ^ n - b < F → b ≤ 2 ^ n → j105 N F (x : Int) ((2 ^ n : Nat) : Int) (b : Int) (n : Int) (w : Int) (ints (sb (ch w x) b)) k = k (ints (sb (ch w x) (2 ^ n))) := by
    intro F
    induction F with
    | zero => intro b h; omega
    | succ F ih =>
      intro b hF hb
      simp only [j105, j104, j95, j94]
      by_cases hlt : b < 2 ^ n
      · have hxb := block_lt n hn x hx b hlt
        have hsl := sb_len (ch w x) b
        have hand : (b - 1) &&& b ≤ b := Nat.and_le_right
        have hpart : bits .and .i64 (w64 ((b : Int) - 1)) (b : Int) = (((b - 1) &&& b : Nat) : Int) := by
          by_cases h0 : b = 0
          · subst h0; decide
          · rw [show ((b : Int) - 1) = ((b - 1 : Nat) : Int) by omega, w64_nat _ (by omega), bAnd (b - 1) b (by omega) (by omega)]
        have hm := sb_mem (ch w x) (ch_zero w x) b (by omega)
        have hleast := least_parts (ch w x) (ch_zero w x) b (by omega) hm
        rw [decide_eq_true (by omega : (b : Int) < ((2 ^ n : Nat) : Int)), cond_true, bXor x b (by omega) (by omega), hpart, gd_true (decide_eq_true (by omega : (0 : Int) ≤ (x : Int)))]
        show gd (decide ((0 : Int) ≤ ((x ^^^ b : Nat) : Int))) _ = _
        rw [gd_true (decide_eq_true (by omega : (0 : Int) ≤ ((x ^^^ b : Nat) : Int))), bit_at w x (by omega), bit_at w _ (by omega)]
        have e : (((if w.testBit x then 1 else 0 : Nat) : Int) != ((if w.testBit (x ^^^ b) then 1 else 0 : Nat) : Int)) = ch w x b := by rw [bne, bit_ne]; rfl
        simp only [e]
        rw [impl_blocks_inner N n w x b hn hw' hx hlt _ _ _ _ 16 N _ _ hand (chain_short b (by omega)) (by omega), ← hleast]
        have h1 := ih (b + 1) (by omega) (by omega)
        simp only [sb] at h1
        rw [w64_succ b (by omega), ints_len, gd_true (decide_eq_true (by simp; omega))]
        cases hc : (ch w x b && (sb (ch w x) b).all fun m => !(m &&& b == m)) with
        | true =>
          rw [hc] at h1
          rw [cond_true]
          have e3 : ints (sb (ch w x) b) ++ (([] : List Int) ++ [(b : Int)]) = ints (sb (ch w x) b ++ [b]) := by simp [ints]
          rw [e3]
          exact h1
        | false => rw [hc] at h1; exact h1
      · rw [decide_eq_false (by omega : ¬ (b : Int) < ((2 ^ n : Nat) : Int)), cond_false, show b = 2 ^ n by omega]
  have := key N 0 (by omega) (Nat.zero_le _)
  exact this

/-- That both ways to count agree, for all lists of least blocks. -/
def okL (n : Nat) (l : List Nat) : Bool := (dpTo l (2 ^ n) (2 ^ n)).getD (2 ^ n - 1) 0 == pk l 0
def chk (n : Nat) : Nat → Nat → List Nat → Bool
  | 0, _, l => okL n l
  | f + 1, b, l => if l.any (fun m => m &&& b == m) then chk n f (b + 1) l else chk n f (b + 1) l && chk n f (b + 1) (l ++ [b])
theorem chk_ok : ∀ n, n ≤ 4 → chk n (2 ^ n - 1) 1 [] = true := by decide +kernel
theorem chk_sb (n : Nat) (g : Nat → Bool) : ∀ f b, chk n f b (sb g b) = true → okL n (sb g (b + f)) = true
  | 0, b, h => h
  | f + 1, b, h => by
    rw [show b + (f + 1) = (b + 1) + f by omega]
    refine chk_sb n g f (b + 1) ?_
    simp only [chk] at h
    have hall : ((sb g b).all fun m => !(m &&& b == m)) = !(sb g b).any (fun m => m &&& b == m) := by
      rw [List.not_any_eq_all_not]
    simp only [sb]
    rw [hall]
    cases ha : (sb g b).any (fun m => m &&& b == m) with
    | true =>
      rw [ha, if_pos rfl] at h
      simpa using h
    | false =>
      rw [ha, if_neg (by decide)] at h
      simp only [Bool.and_eq_true] at h
      cases g b
      · simpa using h.1
      · simpa using h.2
/-- Block sensitivity at an input. -/
def bs (w n x : Nat) : Nat := pk (sb (ch w x) (2 ^ n)) 0
theorem bs_le (w n x : Nat) (hn : n ≤ 4) : bs w n x ≤ 16 := by
  have h1 := pk_le (sb (ch w x) (2 ^ n)) 0
  have h2 := sb_len (ch w x) (2 ^ n)
  have h3 := size4 hn
  unfold bs
  omega
theorem sb16 (w n x : Nat) (hn : n ≤ 4) : (∀ m ∈ sb (ch w x) (2 ^ n), m < 16) ∧ (sb (ch w x) (2 ^ n)).length ≤ 16 := by
  have h3 := size4 hn
  exact ⟨fun m hm => by have := sb_lt _ _ m hm; omega, by have := sb_len (ch w x) (2 ^ n); omega⟩
theorem impl_apart_eq (N : Nat) (hN : 64 < N) (n w x : Nat) (hn : n ≤ 4) (hw : w < 2 ^ 2 ^ n) (hx : x < 2 ^ n) (k : Int → Option β) : j111 N (n : Int) (w : Int) (x : Int) k = k (bs w n x : Int) := by
  have hs := size4 hn
  have hpos := Nat.two_pow_pos n
  obtain ⟨hl, hlen⟩ := sb16 w n x hn
  have hok : okL n (sb (ch w x) (2 ^ n)) = true := by
    have h0 : sb (ch w x) 1 = [] := by simp [sb, ch_zero]
    have h1 := chk_ok n hn
    rw [← h0] at h1
    have := chk_sb n (ch w x) (2 ^ n - 1) 1 h1
    rw [show 1 + (2 ^ n - 1) = 2 ^ n by omega] at this
    exact this
  unfold j111 j90
  rw [impl_Table_blocks_eq N hN n w x hn hw hx]
  unfold bs
  generalize sb (ch w x) (2 ^ n) = l at hl hlen hok ⊢
  show gd (decide ((0 : Int) ≤ (n : Int))) ((fun r5 => _) (shlI .i64 1 (n : Int))) = _
  rw [gd_true (decide_eq_true (by omega : (0 : Int) ≤ (n : Int))), shl_one n (by omega)]
  have key : ∀ (K : Int → Int → List Int → Option β) (F s : Nat), 2 ^ n - s < F → s ≤ 2 ^ n → j110 N F ((2 ^ n : Nat) : Int) (s : Int) (n : Int) (w : Int) (ints l) (ints (dpTo l (2 ^ n) s)) K = K n w (ints (dpTo l (2 ^ n) (2 ^ n))) := by
    intro K F
    induction F with
    | zero => intro s h; omega
    | succ F ih =>
      intro s hF hsle
      simp only [j110, j109, ints_len]
      by_cases hlt : s < 2 ^ n
      · have hb := dpTo_bound l (2 ^ n) s
        have hmul : s * l.length ≤ 16 * 16 := Nat.mul_le_mul (by omega) hlen
        have e := fun K => impl_apart_inner (β := β) N n w s (by omega) ((2 ^ n : Nat) : Int) (s : Int) ((0 : Nat) : Int) l hl hlen K l.length N 0 (s * l.length) (dpTo l (2 ^ n) s) (by omega) (by omega) (by rw [dpTo_len]; exact hlt) (by omega) hb
        rw [decide_eq_true (by omega : (s : Int) < ((2 ^ n : Nat) : Int)), cond_true]
        have e2 := fun K => impl_apart_inner (β := β) N n w s (by omega) ((2 ^ n : Nat) : Int) (s : Int) (0 : Int) l hl hlen K l.length N 0 (s * l.length) (dpTo l (2 ^ n) s) (by omega) (by omega) (by rw [dpTo_len]; exact hlt) (by omega) hb
        simp only [Int.natCast_zero, List.drop_zero] at e2
        rw [e2, w64_succ s (by omega)]
        exact ih (s + 1) (by omega) (by omega)
      · rw [decide_eq_false (by omega : ¬ (s : Int) < ((2 ^ n : Nat) : Int)), cond_false, show s = 2 ^ n by omega]
  show gd (decide ((0 : Int) ≤ ((2 ^ n : Nat) : Int))) (gd (decide (((2 ^ n : Nat) : Int) ≤ ((2 ^ n : Nat) : Int))) (gd (decide (8 * ((2 ^ n : Nat) : Int) ≤ 281474976710656)) (j110 N N ((List.replicate (Int.toNat ((2 ^ n : Nat) : Int)) (0 : Int)).length : Int) 0 (n : Int) (w : Int) (ints l) (List.replicate (Int.toNat ((2 ^ n : Nat) : Int)) (0 : Int)) fun e7_0 e7_1 e7_2 => gd (decide (0 ≤ e7_0)) ((fun r8 => gd (decide (0 ≤ w64 (r8 - 1))) (gd (decide (w64 (r8 - 1) < (e7_2.length : Int))) (k (rd 0 e7_2 (w64 (r8 - 1)))))) (shlI .i64 1 e7_0))))) = _
  rw [gd_true (decide_eq_true (Int.natCast_nonneg _)), gd_true (decide_eq_true (Int.le_refl _)), gd_true (decide_eq_true (by omega)), List.length_replicate, Int.toNat_natCast]
  have hz : List.replicate (2 ^ n) (0 : Int) = ints (dpTo l (2 ^ n) 0) := by simp [dpTo, ints]
  have e := fun K => key K N 0 (by omega) (Nat.zero_le _)
  simp only [Int.natCast_zero] at e
  rw [hz, e, gd_true (decide_eq_true (by omega : (0 : Int) ≤ (n : Int))), shl_one n (by omega)]
  show gd (decide (0 ≤ w64 (((2 ^ n : Nat) : Int) - 1))) (gd (decide (w64 (((2 ^ n : Nat) : Int) - 1) < ((ints (dpTo l (2 ^ n) (2 ^ n))).length : Int))) (k (rd 0 (ints (dpTo l (2 ^ n) (2 ^ n))) (w64 (((2 ^ n : Nat) : Int) - 1))))) = _
  rw [show (((2 ^ n : Nat) : Int) - 1) = ((2 ^ n - 1 : Nat) : Int) by omega, w64_nat _ (by omega), ints_len, dpTo_len, gd_true (decide_eq_true (Int.natCast_nonneg _)), gd_true (decide_eq_true (by omega)), ints_getD]
  unfold okL at hok
  rw [eq_of_beq hok]

/-- The block sensitivity of a table. -/
def bsOf (w n : Nat) : Nat := mx (bs w n) (2 ^ n)
theorem bsOf_le (w n : Nat) (hn : n ≤ 4) : bsOf w n ≤ 16 := mx_le _ _ _ fun x _ => bs_le w n x hn
theorem spec_BlockSensitivityOf_eq (N : Nat) (hN : 64 < N) (n w : Nat) (hn : n ≤ 4) (hw : w < 2 ^ 2 ^ n) (k : Int → Option β) : j24 N (n : Int) (w : Int) k = k (bsOf w n : Int) := by
  have hs := size4 hn
  unfold j24
  rw [spec_IsTable_eq, isT_of (by omega) hw, Bool.not_true, cond_false]
  have key : ∀ (F x : Nat), 2 ^ n - x < F → x ≤ 2 ^ n → j23 N F (mx (bs w n) x : Int) (x : Int) (n : Int) (w : Int) k = k (bsOf w n : Int) := by
    intro F
    induction F with
    | zero => intro x h; omega
    | succ F ih =>
      intro x hF hx
      simp only [j23, j22, j21]
      rw [gd_true (decide_eq_true (by omega : (0 : Int) ≤ (n : Int))), shl_one n (by omega)]
      by_cases hlt : x < 2 ^ n
      · obtain ⟨hl, hlen⟩ := sb16 w n x hn
        have e := fun K => spec_pack_f (β := β) N hN (sb (ch w x) (2 ^ n)) hl hlen N 0 0 (by omega) (Nat.zero_le _) (by decide) K
        simp only [Int.natCast_zero, List.drop_zero] at e
        rw [decide_eq_true (by omega : (x : Int) < ((2 ^ n : Nat) : Int)), cond_true, spec_l9In_eq, isIn_of (by omega) hw hlt, Bool.not_true, cond_false, spec_l10Blocks_eq N hN n w x hn hw hlt]
        unfold j20
        rw [e, mxI_nat, w64_succ x (by omega)]
        exact ih (x + 1) (by omega) (by omega)
      · rw [decide_eq_false (by omega : ¬ (x : Int) < ((2 ^ n : Nat) : Int)), cond_false, show x = 2 ^ n by omega]
        rfl
  exact key N 0 (by omega) (Nat.zero_le _)
theorem impl_BlockSensitivityOf_eq (N : Nat) (hN : 64 < N) (n w : Nat) (hn : n ≤ 4) (hw : w < 2 ^ 2 ^ n) (k : Int → Option β) : j114 N (n : Int) (w : Int) k = k (bsOf w n : Int) := by
  have hs := size4 hn
  have hw' := two32 (by omega) hw
  unfold j114 j90
  rw [impl_IsTable_eq N _ _ (by omega), isT_of (by omega) hw, Bool.not_true, cond_false, gd_true (decide_eq_true (by omega : (0 : Int) ≤ (n : Int))), shl_one n (by omega)]
  have key : ∀ (F x : Nat), 2 ^ n - x < F → x ≤ 2 ^ n → j113 N F (mx (bs w n) x : Int) ((2 ^ n : Nat) : Int) (x : Int) (n : Int) (w : Int) k = k (bsOf w n : Int) := by
    intro F
    induction F with
    | zero => intro x h; omega
    | succ F ih =>
      intro x hF hx
      simp only [j113, j112]
      by_cases hlt : x < 2 ^ n
      · rw [decide_eq_true (by omega : (x : Int) < ((2 ^ n : Nat) : Int)), cond_true, impl_apart_eq N hN n w x hn hw hlt, mxI_nat, w64_succ x (by omega)]
        exact ih (x + 1) (by omega) (by omega)
      · rw [decide_eq_false (by omega : ¬ (x : Int) < ((2 ^ n : Nat) : Int)), cond_false, show x = 2 ^ n by omega]
        rfl
  exact key N 0 (by omega) (Nat.zero_le _)
end Go.Proofs.YtignjkbhdaiegaaGreatDoor
namespace Go.Proofs.YtignjkbhdaiegaaGreatDoor
open Go.Rv
set_option linter.unusedVariables false
variable {β : Type}
theorem sc_iff (w m v : Nat) (b : Bool) : ∀ X, sc w m v b X = true ↔ ∃ x, x < X ∧ x &&& m = v ∧ w.testBit x = b
  | 0 => by simp [sc]
  | X + 1 => by
    simp only [sc, Bool.or_eq_true, Bool.and_eq_true, beq_iff_eq, sc_iff w m v b X]
    constructor
    · rintro (⟨x, h1, h2⟩ | h)
      · exact ⟨x, by omega, h2⟩
      · exact ⟨X, by omega, h⟩
    · rintro ⟨x, h1, h2⟩
      by_cases e : x = X
      · subst e; exact .inr h2
      · exact .inl ⟨x, by omega, h2⟩

/-- The least of some numbers, of those that are free. -/
def mnO (B : Nat) (free : Nat → Bool) (val : Nat → Nat) : Nat → Nat
  | 0 => B
  | i + 1 => if free i then min (mnO B free val i) (val i) else mnO B free val i
theorem mnO_le (B : Nat) (free : Nat → Bool) (val : Nat → Nat) : ∀ n i, i < n → free i = true → mnO B free val n ≤ val i
  | n + 1, i, h, hf => by
    simp only [mnO]
    by_cases e : i = n
    · subst e
      rw [hf, if_pos rfl]
      exact Nat.min_le_right _ _
    · have := mnO_le B free val n i (by omega) hf
      split <;> omega
theorem mnO_B (B : Nat) (free : Nat → Bool) (val : Nat → Nat) : ∀ n, mnO B free val n ≤ B
  | 0 => Nat.le_refl _
  | n + 1 => by
    have := mnO_B B free val n
    simp only [mnO]
    split <;> omega
theorem mnO_start (B C : Nat) (hBC : B ≤ C) (free : Nat → Bool) (val : Nat → Nat) : ∀ n, mnO B free val n = min B (mnO C free val n)
  | 0 => by simp only [mnO]; omega
  | n + 1 => by
    have := mnO_start B C hBC free val n
    simp only [mnO]
    split <;> omega
theorem mnO_congr {B : Nat} {free : Nat → Bool} {val val' : Nat → Nat} : ∀ {n : Nat}, (∀ i, i < n → free i = true → val i = val' i) → mnO B free val n = mnO B free val' n
  | 0, _ => rfl
  | n + 1, h => by
    simp only [mnO]
    rw [mnO_congr fun i hi hf => h i (by omega) hf]
    cases hf : free n with
    | true => rw [h n (by omega) hf]
    | false => rfl

def free (m i : Nat) : Bool := !m.testBit i
def fc (n m : Nat) : Nat := cnt (free m) n
theorem fc_less : ∀ n, n ≤ 4 → ∀ m, m < 2 ^ n → ∀ i, i < n → free m i = true → fc n (m ||| 2 ^ i) + 1 = fc n m := by decide +kernel
theorem fc_none : ∀ n, n ≤ 4 → ∀ m, m < 2 ^ n → fc n m = 0 → ∀ x, x < 2 ^ n → x &&& m = x := by decide +kernel
theorem fc_some : ∀ n, n ≤ 4 → ∀ m, m < 2 ^ n → fc n m ≠ 0 → ∃ i, i < n ∧ free m i = true := by
  intro n hn m hm h
  have key : ∀ k, cnt (free m) k ≠ 0 → ∃ i, i < k ∧ free m i = true := by
    intro k
    induction k with
    | zero => intro h; exact absurd rfl h
    | succ k ih =>
      intro h
      cases hf : free m k with
      | true => exact ⟨k, by omega, hf⟩
      | false =>
        simp only [cnt, hf] at h
        obtain ⟨i, hi, hfi⟩ := ih (by simpa using h)
        exact ⟨i, by omega, hfi⟩
  exact key n h
theorem or_lt : ∀ n, n ≤ 4 → ∀ m, m < 2 ^ n → ∀ i, i < n → m ||| 2 ^ i < 2 ^ n := by decide +kernel
theorem bothV_free (w n m v : Nat) (hn : n ≤ 4) (hm : m < 2 ^ n) (h : bothV w n m v = true) : fc n m ≠ 0 := by
  intro h0
  unfold bothV at h
  simp only [Bool.and_eq_true, sc_iff] at h
  obtain ⟨⟨x, hx, hxv, hbx⟩, y, hy, hyv, hby⟩ := h
  rw [fc_none n hn m hm h0 x hx] at hxv
  rw [fc_none n hn m hm h0 y hy] at hyv
  rw [hxv] at hbx
  rw [hyv, hbx] at hby
  cases hby

/-- The least depth, for what is known, by steps. -/
def ld (w n : Nat) : Nat → Nat → Nat → Nat
  | 0, _, _ => 0
  | f + 1, m, v => if bothV w n m v then mnO 10 (free m) (fun i => 1 + max (ld w n f (m ||| 2 ^ i) v) (ld w n f (m ||| 2 ^ i) (v ||| 2 ^ i))) n else 0
def dep_ (w n m v : Nat) : Nat := ld w n (fc n m + 1) m v
theorem ld_le (w n : Nat) (hn : n ≤ 4) : ∀ f m v, m < 2 ^ n → ld w n f m v ≤ fc n m
  | 0, m, v, _ => Nat.zero_le _
  | f + 1, m, v, hm => by
    simp only [ld]
    cases hx : bothV w n m v with
    | false => rw [if_neg (by decide)]; exact Nat.zero_le _
    | true =>
      rw [if_pos rfl]
      obtain ⟨i, hi, hf⟩ := fc_some n hn m hm (bothV_free w n m v hn hm hx)
      have h1 := mnO_le 10 (free m) (fun i => 1 + max (ld w n f (m ||| 2 ^ i) v) (ld w n f (m ||| 2 ^ i) (v ||| 2 ^ i))) n i hi hf
      have h2 := ld_le w n hn f (m ||| 2 ^ i) v (or_lt n hn m hm i hi)
      have h3 := ld_le w n hn f (m ||| 2 ^ i) (v ||| 2 ^ i) (or_lt n hn m hm i hi)
      have h4 := fc_less n hn m hm i hi hf
      have h1 : mnO 10 (free m) (fun i => 1 + max (ld w n f (m ||| 2 ^ i) v) (ld w n f (m ||| 2 ^ i) (v ||| 2 ^ i))) n ≤ 1 + max (ld w n f (m ||| 2 ^ i) v) (ld w n f (m ||| 2 ^ i) (v ||| 2 ^ i)) := h1
      omega
theorem ld_fuel (w n : Nat) (hn : n ≤ 4) : ∀ f m v, m < 2 ^ n → fc n m < f → ld w n f m v = dep_ w n m v
  | 0, m, v, _, h => by omega
  | f + 1, m, v, hm, h => by
    simp only [dep_, ld]
    cases hx : bothV w n m v with
    | false => rfl
    | true =>
      rw [if_pos rfl, if_pos rfl]
      refine mnO_congr fun i hi hf => ?_
      have h4 := fc_less n hn m hm i hi hf
      have hlt := or_lt n hn m hm i hi
      rw [ld_fuel w n hn f _ v hlt (by omega), ld_fuel w n hn f _ _ hlt (by omega)]
      unfold dep_
      rw [h4]
theorem dep_eq (w n m v : Nat) (hn : n ≤ 4) (hm : m < 2 ^ n) : dep_ w n m v = if bothV w n m v then mnO 10 (free m) (fun i => 1 + max (dep_ w n (m ||| 2 ^ i) v) (dep_ w n (m ||| 2 ^ i) (v ||| 2 ^ i))) n else 0 := by
  have : dep_ w n m v = ld w n (fc n m + 1) m v := rfl
  rw [this]
  simp only [ld]
  cases hx : bothV w n m v with
  | false => rfl
  | true =>
    rw [if_pos rfl, if_pos rfl]
    refine mnO_congr fun i hi hf => ?_
    have h4 := fc_less n hn m hm i hi hf
    have hlt := or_lt n hn m hm i hi
    rw [ld_fuel w n hn _ _ v hlt (by omega), ld_fuel w n hn _ _ _ hlt (by omega)]
theorem dep_le (w n m v : Nat) (hn : n ≤ 4) (hm : m < 2 ^ n) : dep_ w n m v ≤ fc n m := ld_le w n hn _ m v hm
theorem fc_le (n m : Nat) : fc n m ≤ n := cnt_le _ n

theorem and_bit : ∀ m, m < 16 → ∀ i, i < 4 → (m &&& 2 ^ i == 0) = free m i := by decide +kernel
theorem nat_eq_zero (a : Nat) : ((a : Int) == 0) = (a == 0) := by cases a <;> rfl
theorem cres_bothV (w n m v : Nat) : decide (cres (sc w m v false (2 ^ n)) (sc w m v true (2 ^ n)) < 2) = !bothV w n m v := by
  unfold bothV
  cases sc w m v false (2 ^ n) <;> cases sc w m v true (2 ^ n) <;> rfl

theorem spec_least_f (N : Nat) (hN : 64 < N) (n w : Nat) (hn : n ≤ 4) (hw : w < 2 ^ 2 ^ n) : ∀ (F m v : Nat), fc n m < F → m < 2 ^ n → v < 2 ^ n → ∀ k : Int → Option β, j41 N F (n : Int) (w : Int) (m : Int) (v : Int) k = k (dep_ w n m v : Int) := by
  have hs := size4 hn
  have hw' := two32 (by omega) hw
  intro F
  induction F with
  | zero => intro m v h; omega
  | succ F ih =>
    intro m v hF hm hv k
    simp only [j41, j40]
    rw [spec_l3Cube_eq N hN n w m v (by omega) hw' (by omega), cres_bothV, dep_eq w n m v hn hm]
    cases hx : bothV w n m v with
    | false => rfl
    | true =>
      rw [if_pos rfl, Bool.not_true, cond_false]
      generalize hval : (fun i => 1 + max (dep_ w n (m ||| 2 ^ i) v) (dep_ w n (m ||| 2 ^ i) (v ||| 2 ^ i))) = val
      have hvi : ∀ i, 1 + max (dep_ w n (m ||| 2 ^ i) v) (dep_ w n (m ||| 2 ^ i) (v ||| 2 ^ i)) = val i := fun i => by rw [← hval]
      have key : ∀ (d G i : Nat), i + d = n → d < G → j39 N (j41 N F) G (m : Int) (v : Int) (mnO 10 (free m) val i : Int) (i : Int) (n : Int) (w : Int) k = k (mnO 10 (free m) val n : Int) := by
        intro d
        induction d with
        | zero =>
          intro G i hi hG
          obtain ⟨G, rfl⟩ : ∃ H, G = H + 1 := ⟨G - 1, by omega⟩
          simp only [j39, j38]
          rw [decide_eq_false (by omega : ¬ (i : Int) < (n : Int)), cond_false, show i = n by omega]
        | succ d ihd =>
          intro G i hi hG
          obtain ⟨G, rfl⟩ : ∃ H, G = H + 1 := ⟨G - 1, by omega⟩
          have hlt : i < n := by omega
          have hp : 2 ^ i < 2 ^ 4 := Nat.pow_lt_pow_right (by decide) (by omega)
          simp only [j39, j38]
          rw [decide_eq_true (by omega : (i : Int) < (n : Int)), cond_true, gd_true (decide_eq_true (by omega : (0 : Int) ≤ (i : Int))), shl_one i (by omega), bAnd m _ (by omega) (by omega), nat_eq_zero, and_bit m (by omega) i (by omega), bOr m _ (by omega) (by omega), bOr v _ (by omega) (by omega), w64_succ i (by omega)]
          have h1 := ihd G (i + 1) (by omega) (by omega)
          simp only [mnO] at h1
          cases hf : free m i with
          | false => rw [hf] at h1; exact h1
          | true =>
            rw [hf, if_pos rfl] at h1
            have h4 := fc_less n hn m hm i hlt hf
            have hmo := or_lt n hn m hm i hlt
            have hvo := or_lt n hn v hv i hlt
            have hd1 := dep_le w n (m ||| 2 ^ i) v hn hmo
            have hd2 := dep_le w n (m ||| 2 ^ i) (v ||| 2 ^ i) hn hmo
            have hfc := fc_le n (m ||| 2 ^ i)
            have hB := mnO_B 10 (free m) val i
            rw [cond_true, ih _ v (by omega) hmo hv, ih _ _ (by omega) hmo hvo, mxI_nat, show (1 : Int) + ((max (dep_ w n (m ||| 2 ^ i) v) (dep_ w n (m ||| 2 ^ i) (v ||| 2 ^ i)) : Nat) : Int) = ((1 + max (dep_ w n (m ||| 2 ^ i) v) (dep_ w n (m ||| 2 ^ i) (v ||| 2 ^ i)) : Nat) : Int) by omega, w64_nat _ (by omega), mnI_nat, hvi]
            exact h1
      exact key n N 0 (by omega) (by omega)

/-- What is remembered is right. -/
def Mem (w n : Nat) (mp : Mp) : Prop := ∀ m v : Nat, hasM ⟨true, false⟩ mp (m : Int) (v : Int) = true → getM ⟨true, false⟩ mp (m : Int) (v : Int) = (dep_ w n m v : Int)
theorem eqK_two (p : Int × Int) (a b : Int) : eqK ⟨true, false⟩ p a b = (p.1 == a && p.2 == b) := by simp [eqK]
theorem has_put (mp : Mp) (a b x c d : Int) : hasM ⟨true, false⟩ (putM ⟨true, false⟩ mp a b x) c d = ((a == c && b == d) || hasM ⟨true, false⟩ mp c d) := by
  induction mp with
  | nil => simp [putM, hasM, eqK_two]
  | cons p l ih =>
    simp only [putM]
    cases he : eqK ⟨true, false⟩ p.1 a b with
    | true =>
      rw [cond_true]
      simp only [hasM]
      rw [eqK_two] at he ⊢
      simp only [Bool.and_eq_true, beq_iff_eq] at he
      rw [eqK_two, he.1, he.2]
      cases (a == c && b == d) <;> simp
    | false =>
      rw [cond_false]
      simp only [hasM, ih]
      rw [Bool.or_left_comm]
theorem get_put (mp : Mp) (a b x c d : Int) : getM ⟨true, false⟩ (putM ⟨true, false⟩ mp a b x) c d = if (a == c && b == d) then x else getM ⟨true, false⟩ mp c d := by
  induction mp with
  | nil =>
    simp only [putM, getM, eqK_two]
    cases (a == c && b == d) <;> rfl
  | cons p l ih =>
    simp only [putM]
    cases he : eqK ⟨true, false⟩ p.1 a b with
    | true =>
      rw [cond_true]
      simp only [getM]
      rw [eqK_two] at he ⊢
      simp only [Bool.and_eq_true, beq_iff_eq] at he
      rw [eqK_two, he.1, he.2]
      cases (a == c && b == d) <;> simp
    | false =>
      rw [cond_false]
      simp only [getM, ih]
      cases hp : eqK ⟨true, false⟩ p.1 c d with
      | false => rfl
      | true =>
        rw [cond_true]
        cases hc : (a == c && b == d) with
        | false => rfl
        | true =>
          exfalso
          rw [eqK_two] at hp he
          simp only [Bool.and_eq_true, beq_iff_eq] at hp hc
          rw [hp.1, hp.2, hc.1, hc.2] at he
          simp at he
theorem Mem.put {w n : Nat} {mp : Mp} (h : Mem w n mp) (m v : Nat) {x : Int} (hx : x = (dep_ w n m v : Int)) : Mem w n (putM ⟨true, false⟩ mp (m : Int) (v : Int) x) := by
  intro m' v' hh
  rw [get_put]
  rw [has_put] at hh
  cases he : (((m : Int) == (m' : Int)) && ((v : Int) == (v' : Int))) with
  | true =>
    rw [if_pos rfl, hx]
    simp only [Bool.and_eq_true, beq_iff_eq] at he
    rw [show m = m' by omega, show v = v' by omega]
  | false =>
    rw [he, Bool.false_or] at hh
    rw [if_neg (by decide)]
    exact h m' v' hh

theorem shl_zero (i : Nat) : shlI .i64 0 (i : Int) = 0 := by
  unfold shlI
  rw [Int.zero_mul]
  decide
theorem or_zero_int (v : Nat) (hv : v < 16) : bits .or .i64 (v : Int) 0 = (v : Int) := by
  have := bOr v 0 (by omega) (by omega)
  simpa using this
theorem impl_left_f (N : Nat) (hN : 64 < N) (n w : Nat) (hn : n ≤ 4) (hw : w < 2 ^ 2 ^ n) : ∀ (F m v : Nat) (mp mp5 : Mp), fc n m < F → m < 2 ^ n → v < 2 ^ n → Mem w n mp →
    ∃ mp', Mem w n mp' ∧ ∀ k0 : Int → Int → Int → Mp → Mp → Option β, j133 N F (m : Int) (v : Int) (n : Int) (w : Int) mp mp5 k0 = k0 (dep_ w n m v : Int) n w mp' mp5 := by
  have hs := size4 hn
  have hw' := two32 (by omega) hw
  intro F
  induction F with
  | zero => intro m v mp mp5 h; omega
  | succ F ih =>
    intro m v mp mp5 hF hm hv hM
    simp only [j133, j132]
    cases hh : hasM ⟨true, false⟩ mp (m : Int) (v : Int) with
    | true => exact ⟨mp, hM, fun k0 => by rw [cond_true, hM m v hh]⟩
    | false =>
      simp only [cond_false, impl_cube_eq N hN n w m v (by omega) hw' (by omega)]
      have e : ((cond (sc w m v false (2 ^ n)) (cond (sc w m v true (2 ^ n)) (2 : Int) 0) (cond (sc w m v true (2 ^ n)) 1 0)) == 2) = bothV w n m v := by
        unfold bothV
        cases sc w m v false (2 ^ n) <;> cases sc w m v true (2 ^ n) <;> rfl
      rw [e]
      have hde := dep_eq w n m v hn hm
      cases hx : bothV w n m v with
      | false =>
        rw [hx, if_neg (by decide)] at hde
        exact ⟨_, hM.put m v (x := 0) (by rw [hde]; rfl), fun k0 => by rw [cond_false, hde]; rfl⟩
      | true =>
        rw [hx, if_pos rfl] at hde
        simp only [cond_true]
        generalize hval : (fun i => 1 + max (dep_ w n (m ||| 2 ^ i) v) (dep_ w n (m ||| 2 ^ i) (v ||| 2 ^ i))) = val at hde
        have hvi : ∀ i, 1 + max (dep_ w n (m ||| 2 ^ i) v) (dep_ w n (m ||| 2 ^ i) (v ||| 2 ^ i)) = val i := fun i => by rw [← hval]
        have key : ∀ (d G i : Nat) (mp : Mp), i + d = n → d < G → Mem w n mp → ∃ mp', Mem w n mp' ∧ ∀ K : Int → Int → Int → Mp → Mp → Int → Int → Option β,
            j131 N (j133 N F) G (mnO n (free m) val i : Int) (n : Int) (i : Int) (n : Int) (w : Int) mp mp5 (m : Int) (v : Int) K = K (mnO n (free m) val n : Int) n w mp' mp5 m v := by
          intro d
          induction d with
          | zero =>
            intro G i mp hi hG hM
            obtain ⟨G, rfl⟩ : ∃ H, G = H + 1 := ⟨G - 1, by omega⟩
            refine ⟨mp, hM, fun K => ?_⟩
            simp only [j131, j130]
            rw [decide_eq_false (by omega : ¬ (i : Int) < (n : Int)), cond_false, show i = n by omega]
          | succ d ihd =>
            intro G i mp hi hG hM
            obtain ⟨G, rfl⟩ : ∃ H, G = H + 1 := ⟨G - 1, by omega⟩
            have hlt : i < n := by omega
            have hp : 2 ^ i < 2 ^ 4 := Nat.pow_lt_pow_right (by decide) (by omega)
            have eb : ((((if m.testBit i then 1 else 0 : Nat) : Int)) == 0) = free m i := by
              unfold free
              cases m.testBit i <;> rfl
            cases hf : free m i with
            | false =>
              obtain ⟨mp', hM', he⟩ := ihd G (i + 1) mp (by omega) (by omega) hM
              refine ⟨mp', hM', fun K => ?_⟩
              simp only [j131, j130]
              rw [decide_eq_true (by omega : (i : Int) < (n : Int)), cond_true, gd_true (decide_eq_true (by omega : (0 : Int) ≤ (i : Int))), bit_at m i (by omega), eb, hf, cond_false, w64_succ i (by omega)]
              have h1 := he K
              simp only [mnO, hf] at h1
              exact h1
            | true =>
              have h4 := fc_less n hn m hm i hlt hf
              have hmo := or_lt n hn m hm i hlt
              have hvo := or_lt n hn v hv i hlt
              obtain ⟨mp1, hM1, he1⟩ := ih (m ||| 2 ^ i) v mp mp5 (by omega) hmo hv hM
              obtain ⟨mp2, hM2, he2⟩ := ih (m ||| 2 ^ i) (v ||| 2 ^ i) mp1 mp5 (by omega) hmo hvo hM1
              obtain ⟨mp', hM', he⟩ := ihd G (i + 1) mp2 (by omega) (by omega) hM2
              refine ⟨mp', hM', fun K => ?_⟩
              have hd1 := dep_le w n (m ||| 2 ^ i) v hn hmo
              have hd2 := dep_le w n (m ||| 2 ^ i) (v ||| 2 ^ i) hn hmo
              have hfc := fc_le n (m ||| 2 ^ i)
              simp only [j131, j130, j129]
              rw [decide_eq_true (by omega : (i : Int) < (n : Int)), cond_true, gd_true (decide_eq_true (by omega : (0 : Int) ≤ (i : Int))), bit_at m i (by omega), eb, hf, cond_true, w64_succ i (by omega)]
              simp only [gd_true (decide_eq_true (by omega : (0 : Int) ≤ (i : Int)))]
              rw [shl_zero, shl_one i (by omega), or_zero_int v (by omega), bOr m _ (by omega) (by omega), bOr v _ (by omega) (by omega), he1]
              rw [he2]
              rw [mxI_nat, show (1 : Int) + ((max (dep_ w n (m ||| 2 ^ i) v) (dep_ w n (m ||| 2 ^ i) (v ||| 2 ^ i)) : Nat) : Int) = ((1 + max (dep_ w n (m ||| 2 ^ i) v) (dep_ w n (m ||| 2 ^ i) (v ||| 2 ^ i)) : Nat) : Int) by omega, w64_nat _ (by omega), mnI_nat, hvi]
              have h1 := he K
              simp only [mnO, hf, if_true] at h1
              exact h1
        obtain ⟨mp', hM', he⟩ := key n N 0 mp (by omega) (by omega) hM
        have hle := dep_le w n m v hn hm
        have hfc := fc_le n m
        have hst := mnO_start n 10 (by omega) (free m) val n
        have heq : mnO n (free m) val n = dep_ w n m v := by
          rw [hst, ← hde]
          omega
        rw [heq] at he
        refine ⟨_, hM'.put m v (x := (dep_ w n m v : Int)) rfl, fun k0 => ?_⟩
        have h1 := he (fun e12_0 e12_1 e12_2 e12_3 e12_4 e12_5 e12_6 => k0 e12_0 e12_1 e12_2 (putM ⟨true, false⟩ e12_3 e12_5 e12_6 e12_0) e12_4)
        simp only [mnO, Int.natCast_zero] at h1
        exact h1

/-- The least depth of a table. -/
def depth (w n : Nat) : Nat := dep_ w n 0 0
theorem depth_le (w n : Nat) (hn : n ≤ 4) : depth w n ≤ n := Nat.le_trans (dep_le w n 0 0 hn (Nat.two_pow_pos n)) (fc_le n 0)
theorem spec_LeastDepth_eq (N : Nat) (hN : 64 < N) (n w : Nat) (hn : n ≤ 4) (hw : w < 2 ^ 2 ^ n) (k : Int → Option β) : j43 N (n : Int) (w : Int) k = k (depth w n : Int) := by
  have hpos := Nat.two_pow_pos n
  have hfc := fc_le n 0
  unfold j43 j42
  rw [spec_IsTable_eq, isT_of (by omega) hw, Bool.not_true, cond_false, decide_eq_false (by omega : ¬ (n : Int) > 4), cond_false]
  have := spec_least_f (β := β) N hN n w hn hw N 0 0 (by omega) hpos hpos k
  exact this
theorem impl_LeastDepth_eq (N : Nat) (hN : 64 < N) (n w : Nat) (hn : n ≤ 4) (hw : w < 2 ^ 2 ^ n) (k : Int → Option β) : j135 N (n : Int) (w : Int) k = k (depth w n : Int) := by
  have hpos := Nat.two_pow_pos n
  have hfc := fc_le n 0
  have hw' := two32 (by omega) hw
  unfold j135 j128 j134
  have hsm : smallT (n : Int) (w : Int) 4 = true := by
    unfold smallT
    rw [isT_of (by omega) hw, decide_eq_true (by omega : (n : Int) ≤ 4)]
    rfl
  rw [impl_isSmall_eq N _ _ 4 (by omega), hsm, Bool.not_true, cond_false]
  obtain ⟨mp', _, he⟩ := impl_left_f (β := β) N hN n w hn hw N 0 0 [] [] (by omega) hpos hpos (fun m v h => by cases h)
  exact he _
end Go.Proofs.YtignjkbhdaiegaaGreatDoor
namespace Go.Proofs.YtignjkbhdaiegaaGreatDoor
open Go.Rv
set_option linter.unusedVariables false
variable {β : Type}
theorem mxI_comm0 (a : Int) : mxI a 0 = mxI 0 a := by unfold mxI; split <;> split <;> omega
/-- A measure by its name. -/
def msr (s : ByteArray) (w n : Nat) : Int :=
  cond (s.toList == (strOf [115, 101, 110, 115, 105, 116, 105, 118, 105, 116, 121]).toList) (sensOf w n : Int)
  (cond (s.toList == (strOf [98, 108, 111, 99, 107, 115]).toList) (bsOf w n : Int)
  (cond (s.toList == (strOf [99, 101, 114, 116, 105, 102, 105, 99, 97, 116, 101]).toList) (mxI (certOf w n false : Int) (certOf w n true : Int))
  (cond (s.toList == (strOf [100, 101, 112, 116, 104]).toList) (depth w n : Int)
  (cond (s.toList == (strOf [100, 101, 103, 114, 101, 101]).toList) (mxI 0 (deg w n))
  (cond (s.toList == (strOf [100, 101, 103, 114, 101, 101, 50]).toList) (mxI 0 (dg (anf w n).testBit (2 ^ n)))
  (cond (s.toList == (strOf [111, 110, 101, 115]).toList) (ones w : Int)
  (cond (s.toList == (strOf [105, 110, 102, 108, 117, 101, 110, 99, 101]).toList) (total w n : Int) (-1))))))))
theorem spec_cert0 (N : Nat) (hN : 64 < N) (n w : Nat) (hn : n ≤ 5) (hw : w < 2 ^ 2 ^ n) (k : Int → Option β) : j37 N (n : Int) (w : Int) 0 k = k (certOf w n false : Int) := spec_CertificateOf_eq N hN n w hn hw false k
theorem spec_cert1 (N : Nat) (hN : 64 < N) (n w : Nat) (hn : n ≤ 5) (hw : w < 2 ^ 2 ^ n) (k : Int → Option β) : j37 N (n : Int) (w : Int) 1 k = k (certOf w n true : Int) := spec_CertificateOf_eq N hN n w hn hw true k
theorem impl_cert0 (N : Nat) (hN : 64 < N) (n w : Nat) (hn : n ≤ 5) (hw : w < 2 ^ 2 ^ n) (k : Int → Option β) : j127 N (n : Int) (w : Int) 0 k = k (certOf w n false : Int) := impl_CertificateOf_eq N hN n w hn hw false k
theorem impl_cert1 (N : Nat) (hN : 64 < N) (n w : Nat) (hn : n ≤ 5) (hw : w < 2 ^ 2 ^ n) (k : Int → Option β) : j127 N (n : Int) (w : Int) 1 k = k (certOf w n true : Int) := impl_CertificateOf_eq N hN n w hn hw true k
theorem step {γ : Type} {k : Int → γ} {c : Bool} {A B : γ} {a b : Int} (h1 : A = k a) (h2 : B = k b) : cond c A B = k (cond c a b) := by cases c; exact h2; exact h1
theorem spec_MeasureOf_small (N : Nat) (hN : 64 < N) (s : ByteArray) (n w : Nat) (hn : n ≤ 4) (hw : w < 2 ^ 2 ^ n) (k : Int → Option β) : j65 N s (n : Int) (w : Int) k = k (msr s w n) := by
  have h5 : n ≤ 5 := by omega
  unfold j65 msr
  rw [spec_IsTable_eq, isT_of h5 hw, Bool.not_true, cond_false, decide_eq_false (by omega : ¬ (n : Int) > 4), cond_false]
  exact step (spec_SensitivityOf_eq N hN n w h5 hw k) (step (spec_BlockSensitivityOf_eq N hN n w hn hw k) (step (by rw [spec_cert0 N hN n w h5 hw, spec_cert1 N hN n w h5 hw]) (step (spec_LeastDepth_eq N hN n w hn hw k) (step (spec_RealDegree_eq N hN n w h5 hw fun r => k (mxI 0 r)) (step (spec_DegreeMod2_eq N hN n w h5 hw fun r => k (mxI 0 r)) (step (spec_CountOnes_eq N hN n w h5 hw k) (step (spec_TotalInfluence_eq N hN n w h5 hw k) rfl)))))))
theorem impl_measure_eq (N : Nat) (hN : 64 < N) (s : ByteArray) (n w : Nat) (hn : n ≤ 4) (hw : w < 2 ^ 2 ^ n) (k : Int → Option β) : j165 N s (n : Int) (w : Int) k = k (msr s w n) := by
  have h5 : n ≤ 5 := by omega
  unfold j165 msr
  exact step (impl_SensitivityOf_eq N hN n w h5 hw k) (step (impl_BlockSensitivityOf_eq N hN n w hn hw k) (step (by rw [impl_cert0 N hN n w h5 hw, impl_cert1 N hN n w h5 hw]) (step (impl_LeastDepth_eq N hN n w hn hw k) (step ((impl_RealDegree_eq N hN n w h5 hw fun r => k (mxI r 0)).trans (by rw [mxI_comm0])) (step ((impl_DegreeMod2_eq N hN n w h5 hw fun r => k (mxI r 0)).trans (by rw [mxI_comm0])) (step (impl_CountOnes_eq N hN n w h5 hw k) (step (impl_TotalInfluence_eq N hN n w h5 hw k) rfl)))))))

theorem small_nat {a0 a1 : Int} (h : smallT a0 a1 4 = true) : ∃ n w : Nat, a0 = n ∧ a1 = w ∧ n ≤ 4 ∧ w < 2 ^ 2 ^ n := by
  unfold smallT at h
  simp only [Bool.and_eq_true, decide_eq_true_eq] at h
  obtain ⟨n, w, rfl, rfl, hn, hw, _⟩ := isT_nat h.1
  exact ⟨n, w, rfl, rfl, by omega, hw⟩
def measure (s : ByteArray) (a0 a1 : Int) : Int := if smallT a0 a1 4 then msr s a1.toNat a0.toNat else -1
/-! ### MaximumOf -/
def best (f : Nat → Int) : Nat → Int
  | 0 => -1
  | m + 1 => mxI (best f m) (f m)
/-! ### RelationHolds -/
/-- Two texts that end with the same. -/
def Ends (f g : (Bool → Option β) → Option β) : Prop := ∃ v : Bool, (∀ K, f K = K v) ∧ ∀ K, g K = K v
theorem Ends.cond {c : Bool} {f g f' g' : (Bool → Option β) → Option β} (h : Ends f g) (h' : Ends f' g') : Ends (fun K => cond c (f K) (f' K)) (fun K => cond c (g K) (g' K)) := by
  cases c
  · exact h'
  · exact h
end Go.Proofs.YtignjkbhdaiegaaGreatDoor
namespace Go.Proofs.YtignjkbhdaiegaaGreatDoor
open Go.Rv
variable {β : Type}
def B (l : List UInt8) : ByteArray := ⟨l.toArray⟩
theorem B_data (s : ByteArray) : B s.data.toList = s := by cases s; simp [B]
theorem B_size (l : List UInt8) : (B l).size = l.length := by simp [B, ByteArray.size]
theorem B_inj {a b : ByteArray} (h : a.data.toList = b.data.toList) : a = b := by rw [← B_data a, ← B_data b, h]
theorem B_app (l m : List UInt8) : B l ++ B m = B (l ++ m) := by
  apply B_inj
  rw [ByteArray.toList_data_append]
  simp [B]
theorem B_nil : ByteArray.empty = B [] := rfl
theorem B_one (n : Int) : strOf (([] : List Int) ++ [n]) = B [UInt8.ofNat n.toNat] := by
  simp [strOf, B]
theorem B_strOf (l : List Int) : strOf l = B (l.map fun n => UInt8.ofNat n.toNat) := by simp [strOf, B]
end Go.Proofs.YtignjkbhdaiegaaGreatDoor
namespace Go.Proofs.YtignjkbhdaiegaaGreatDoor
open Go.Rv
variable {β : Type}
/-- A loop that counts up. -/
theorem loop_st (g : Nat → Nat → Option β) (m : Nat) (r : Option β) (hs : ∀ F i, i < m → g (F + 1) i = g F (i + 1)) (he : ∀ F, g (F + 1) m = r) :
    ∀ (F i : Nat), i ≤ m → m - i < F → g F i = r := by
  intro F
  induction F with
  | zero => intro i _ h; omega
  | succ F ih =>
    intro i hi hF
    rcases Nat.lt_or_ge i m with h | h
    · rw [hs F i h]; exact ih (i + 1) h (by omega)
    · have : i = m := by omega
      subst this; exact he F

def bw (w x : Nat) : Nat := if w.testBit x then 1 else 0
theorem impl_Table_size_eq (N n : Nat) (w : Int) (hn : n ≤ 5) (k : Int → Option β) : j90 N (n : Int) w k = k ((2 ^ n : Nat) : Int) := by
  unfold j90
  rw [gd_true (decide_eq_true (by omega)), shl_one n (by omega)]
/-! ### Energies -/
/-! ### Nonlinearity -/
/-! ### Immunity -/
/-! ### Rejects -/
end Go.Proofs.YtignjkbhdaiegaaGreatDoor
namespace Go.Proofs.YtignjkbhdaiegaaGreatDoor
open Go.Rv
variable {β : Type}
def in64 (n : Int) : Prop := -9223372036854775808 ≤ n ∧ n ≤ 9223372036854775807
theorem w64_in (x : Int) : in64 (w64 x) := by
  show -9223372036854775808 ≤ IntKind.wrap .i64 x ∧ _
  rw [show w64 x = IntKind.wrap .i64 x from rfl, IntKind.wrap_i64]
  omega

def dgs (m : Nat) : List UInt8 := if m = 0 then [] else Lib.decDigits m
theorem dgs_step (m : Nat) (h : 0 < m) : dgs m = dgs (m / 10) ++ [UInt8.ofNat (48 + m % 10)] := by
  unfold dgs
  rw [if_neg (by omega)]
  by_cases h1 : m < 10
  · rw [Lib.decDigits, dif_pos h1, if_pos (by omega), Nat.mod_eq_of_lt h1]
    rfl
  · rw [if_neg (by omega), Lib.decDigits, dif_neg h1]
theorem dgs_len : ∀ (d m : Nat), m < 10 ^ d → (dgs m).length ≤ d := by
  intro d
  induction d with
  | zero => intro m h; have : m = 0 := by simpa using h
            subst this; simp [dgs]
  | succ d ih =>
    intro m h
    by_cases h0 : m = 0
    · subst h0; simp [dgs]
    · rw [dgs_step m (by omega)]
      have := ih (m / 10) (by rw [Nat.pow_succ] at h; omega)
      simp
      exact this

def sgn (s : Bool) (m : Nat) : Int := cond s (-(m : Int)) m
theorem rem_sgn (s : Bool) (m : Nat) : remI (sgn s m) 10 = sgn s (m % 10) := by
  cases s with
  | false => rfl
  | true =>
    show (-(m : Int)).tmod 10 = -((m % 10 : Nat) : Int)
    rw [Int.neg_tmod]
    rfl
theorem quo_sgn (s : Bool) (m : Nat) (h : m ≤ 9223372036854775808) : quoI .i64 (sgn s m) 10 = sgn s (m / 10) := by
  show w64 ((sgn s m).tdiv 10) = _
  have e : (sgn s m).tdiv 10 = sgn s (m / 10) := by
    cases s with
    | false => rfl
    | true =>
      show (-(m : Int)).tdiv 10 = -((m / 10 : Nat) : Int)
      rw [Int.neg_tdiv]
      rfl
  rw [e]
  cases s <;> simp only [sgn, cond_true, cond_false] <;> rw [w64_id] <;> omega

theorem w8_small (n : Nat) (h : n < 256) : w8 (n : Int) = n := by
  have := IntKind.wrap_u8 (n : Int)
  show IntKind.wrap .u8 (n : Int) = n
  rw [this]
  omega

theorem format_loop (N : Nat) (neg : Bool) (k0 : ByteArray → Bool → Option β) : ∀ (d F m : Nat) (s : Bool) (out : List UInt8), m < 10 ^ d → d < F → out.length + d ≤ 1000 → m ≤ 9223372036854775808 →
    j67 N F (sgn s m) (B out) neg k0 = k0 (B (dgs m ++ out)) neg := by
  intro d
  induction d with
  | zero =>
    intro F m s out h hF _ _
    obtain ⟨F, rfl⟩ : ∃ G, F = G + 1 := ⟨F - 1, by omega⟩
    have : m = 0 := by simpa using h
    subst this
    cases s <;> rfl
  | succ d ih =>
    intro F m s out h hF ho hm
    obtain ⟨F, rfl⟩ : ∃ G, F = G + 1 := ⟨F - 1, by omega⟩
    by_cases h0 : m = 0
    · subst h0; cases s <;> rfl
    · simp only [j67, j66]
      have hne : (sgn s m != 0) = true := by
        rw [bne_iff_ne]
        cases s <;> simp only [sgn, cond_true, cond_false] <;> omega
      rw [hne, cond_true, rem_sgn, quo_sgn s m hm]
      have hd : w8 (w64 (48 + ((m % 10 : Nat) : Int))) = ((48 + m % 10 : Nat) : Int) := by
        rw [w64_id (by omega) (by omega), show (48 : Int) + ((m % 10 : Nat) : Int) = ((48 + m % 10 : Nat) : Int) by omega, w8_small _ (by omega)]
      have goal : ∀ x : Int, w8 (w64 (48 + x)) = ((48 + m % 10 : Nat) : Int) → gd (decide ((strOf (([] : List Int) ++ [w8 (w64 (48 + x))])).size + (B out).size ≤ 9223372036854775807)) (j67 N F (sgn s (m / 10)) (strOf (([] : List Int) ++ [w8 (w64 (48 + x))]) ++ B out) neg k0) = k0 (B (dgs m ++ out)) neg := by
        intro x hx
        rw [hx, B_one, B_size, B_size, gd_true (decide_eq_true (by simp; omega)), B_app, Int.toNat_natCast, ih F (m / 10) s _ (by rw [Nat.pow_succ] at h; omega) (by omega) (by simp; omega) (by omega), dgs_step m (by omega)]
        simp
      cases s with
      | false =>
        rw [decide_eq_false (by simp only [sgn, cond_false]; omega), cond_false]
        exact goal _ hd
      | true =>
        by_cases hr : m % 10 = 0
        · rw [decide_eq_false (by simp only [sgn, cond_true]; omega), cond_false]
          exact goal _ (by rw [hr] at hd ⊢; exact hd)
        · rw [decide_eq_true (by simp only [sgn, cond_true]; omega), cond_true]
          refine goal _ ?_
          simp only [sgn, cond_true]
          rw [show w64 (0 - -((m % 10 : Nat) : Int)) = ((m % 10 : Nat) : Int) by rw [w64_id] <;> omega]
          exact hd

theorem pow19 : (9223372036854775808 : Nat) < 10 ^ 19 := by decide
theorem itoa_len (n : Int) (h : in64 n) : (Lib.itoa n).length ≤ 20 ∧ 0 < (Lib.itoa n).length := by
  have key : ∀ m : Nat, m ≤ 9223372036854775808 → (Lib.decDigits m).length ≤ 19 ∧ 0 < (Lib.decDigits m).length := by
    intro m hm
    by_cases h0 : m = 0
    · subst h0; rw [Lib.decDigits, dif_pos (by decide)]; simp
    · have e : dgs m = Lib.decDigits m := if_neg h0
      rw [← e]
      refine ⟨dgs_len 19 m (Nat.lt_of_le_of_lt hm pow19), ?_⟩
      rw [dgs_step m (by omega)]
      simp
  obtain ⟨h1, h2⟩ := h
  unfold Lib.itoa
  split
  · have := key n.natAbs (by omega)
    simp; omega
  · have := key n.toNat (by omega)
    omega

theorem spec_FormatInt_eq (N : Nat) (hN : 64 < N) (n : Int) (h : in64 n) (k : ByteArray → Option β) : j68 N n k = k (B (Lib.itoa n)) := by
  obtain ⟨h1, h2⟩ := h
  unfold j68
  by_cases h0 : n = 0
  · subst h0
    show k (strOf [48]) = _
    congr 1
    unfold Lib.itoa
    rw [if_neg (by decide), Lib.decDigits, dif_pos (by decide)]
    rfl
  · rw [beq_eq_false_iff_ne.2 h0, cond_false, B_nil]
    have e : n = sgn (decide (n < 0)) n.natAbs := by
      by_cases hn : n < 0
      · rw [decide_eq_true hn]; simp only [sgn, cond_true]; omega
      · rw [decide_eq_false hn]; simp only [sgn, cond_false]; omega
    have hl := format_loop N (decide (n < 0)) (fun e0 e1 => cond e1 (gd (decide ((strOf [45]).size + e0.size ≤ 9223372036854775807)) (k (strOf [45] ++ e0))) (k e0)) 19 N n.natAbs (decide (n < 0)) [] (Nat.lt_of_le_of_lt (by omega) pow19) (by omega) (by simp) (by omega)
    rw [← e] at hl
    rw [hl, List.append_nil]
    have hd : dgs n.natAbs = Lib.decDigits n.natAbs := if_neg (by omega)
    have hlen := dgs_len 19 n.natAbs (Nat.lt_of_le_of_lt (by omega) pow19)
    unfold Lib.itoa
    by_cases hn : n < 0
    · rw [decide_eq_true hn, if_pos hn, cond_true, B_strOf, B_size, B_size, gd_true (decide_eq_true (by simp; omega)), B_app, hd]
      rfl
    · rw [decide_eq_false hn, if_neg hn, cond_false, hd, show n.natAbs = n.toNat by omega]
theorem impl_FormatInt_eq (N : Nat) (n : Int) (h : in64 n) (k : ByteArray → Option β) : j166 N n k = k (B (Lib.itoa n)) := by
  unfold j166 strconv_Itoa
  rw [gd_true (decide_eq_true h.1), gd_true (decide_eq_true h.2)]
  rfl

/-! ### Lists of numbers -/
end Go.Proofs.YtignjkbhdaiegaaGreatDoor
namespace Go.Proofs.YtignjkbhdaiegaaGreatDoor
open Go.Rv
variable {β : Type}
theorem joinB_B (l : List (List UInt8)) (s : List UInt8) : joinB (l.map B) (B s) = B (Lib.join l s) := by
  unfold joinB B
  rw [List.map_map]
  have : ((fun x : ByteArray => x.data.toList) ∘ fun l : List UInt8 => (⟨l.toArray⟩ : ByteArray)) = id := by
    funext l
    simp
  rw [this]
  simp

end Go.Proofs.YtignjkbhdaiegaaGreatDoor
namespace Go.Proofs.YtignjkbhdaiegaaGreatDoor
open Go.Rv
set_option linter.unusedVariables false
variable {β : Type}
/-- The least sum of questions, for what is known, by steps. -/
def av (w n : Nat) : Nat → Nat → Nat → Nat
  | 0, _, _ => 0
  | f + 1, m, v => if bothV w n m v then mnO 1000 (free m) (fun i => 2 ^ fc n m + av w n f (m ||| 2 ^ i) v + av w n f (m ||| 2 ^ i) (v ||| 2 ^ i)) n else 0
def avg (w n m v : Nat) : Nat := av w n (fc n m + 1) m v
theorem av_le (w n : Nat) (hn : n ≤ 4) : ∀ f m v, m < 2 ^ n → av w n f m v ≤ 2 ^ fc n m * fc n m
  | 0, m, v, _ => Nat.zero_le _
  | f + 1, m, v, hm => by
    simp only [av]
    cases hx : bothV w n m v with
    | false => rw [if_neg (by decide)]; exact Nat.zero_le _
    | true =>
      rw [if_pos rfl]
      obtain ⟨i, hi, hf⟩ := fc_some n hn m hm (bothV_free w n m v hn hm hx)
      have h1 : mnO 1000 (free m) (fun i => 2 ^ fc n m + av w n f (m ||| 2 ^ i) v + av w n f (m ||| 2 ^ i) (v ||| 2 ^ i)) n ≤ 2 ^ fc n m + av w n f (m ||| 2 ^ i) v + av w n f (m ||| 2 ^ i) (v ||| 2 ^ i) := mnO_le 1000 (free m) _ n i hi hf
      have h2 := av_le w n hn f (m ||| 2 ^ i) v (or_lt n hn m hm i hi)
      have h3 := av_le w n hn f (m ||| 2 ^ i) (v ||| 2 ^ i) (or_lt n hn m hm i hi)
      have h4 := fc_less n hn m hm i hi hf
      rw [← h4] at h1 ⊢
      have e : 2 ^ (fc n (m ||| 2 ^ i) + 1) * (fc n (m ||| 2 ^ i) + 1) = 2 * (2 ^ fc n (m ||| 2 ^ i) * fc n (m ||| 2 ^ i)) + 2 ^ (fc n (m ||| 2 ^ i) + 1) := by
        rw [Nat.mul_add, Nat.mul_one, Nat.pow_succ, Nat.mul_comm (2 ^ fc n (m ||| 2 ^ i)) 2, Nat.mul_assoc]
      omega
theorem av_fuel (w n : Nat) (hn : n ≤ 4) : ∀ f m v, m < 2 ^ n → fc n m < f → av w n f m v = avg w n m v
  | 0, m, v, _, h => by omega
  | f + 1, m, v, hm, h => by
    simp only [avg, av]
    cases hx : bothV w n m v with
    | false => rfl
    | true =>
      rw [if_pos rfl, if_pos rfl]
      refine mnO_congr fun i hi hf => ?_
      have h4 := fc_less n hn m hm i hi hf
      have hlt := or_lt n hn m hm i hi
      rw [av_fuel w n hn f _ v hlt (by omega), av_fuel w n hn f _ _ hlt (by omega)]
      unfold avg
      rw [h4]
theorem avg_eq (w n m v : Nat) (hn : n ≤ 4) (hm : m < 2 ^ n) : avg w n m v = if bothV w n m v then mnO 1000 (free m) (fun i => 2 ^ fc n m + avg w n (m ||| 2 ^ i) v + avg w n (m ||| 2 ^ i) (v ||| 2 ^ i)) n else 0 := by
  have : avg w n m v = av w n (fc n m + 1) m v := rfl
  rw [this]
  simp only [av]
  cases hx : bothV w n m v with
  | false => rfl
  | true =>
    rw [if_pos rfl, if_pos rfl]
    refine mnO_congr fun i hi hf => ?_
    have h4 := fc_less n hn m hm i hi hf
    have hlt := or_lt n hn m hm i hi
    rw [av_fuel w n hn _ _ v hlt (by omega), av_fuel w n hn _ _ _ hlt (by omega)]
theorem pow_fc : ∀ n, n ≤ 4 → ∀ m, m < 2 ^ n → 2 ^ fc n m ≤ 16 ∧ 2 ^ fc n m * fc n m ≤ 64 ∧ fc n m = n - ones m ∧ ones m ≤ n := by decide +kernel
theorem avg_le (w n m v : Nat) (hn : n ≤ 4) (hm : m < 2 ^ n) : avg w n m v ≤ 64 := Nat.le_trans (av_le w n hn _ m v hm) (pow_fc n hn m hm).2.1

theorem spec_average_f (N : Nat) (hN : 64 < N) (n w : Nat) (hn : n ≤ 4) (hw : w < 2 ^ 2 ^ n) : ∀ (F m v : Nat), fc n m < F → m < 2 ^ n → v < 2 ^ n → ∀ k : Int → Option β, j72 N F (n : Int) (w : Int) (m : Int) (v : Int) (fc n m : Int) k = k (avg w n m v : Int) := by
  have hs := size4 hn
  have hw' := two32 (by omega) hw
  intro F
  induction F with
  | zero => intro m v h; omega
  | succ F ih =>
    intro m v hF hm hv k
    simp only [j72, j71]
    rw [spec_l3Cube_eq N hN n w m v (by omega) hw' (by omega), cres_bothV, avg_eq w n m v hn hm]
    cases hx : bothV w n m v with
    | false => rfl
    | true =>
      rw [if_pos rfl, Bool.not_true, cond_false]
      generalize hval : (fun i => 2 ^ fc n m + avg w n (m ||| 2 ^ i) v + avg w n (m ||| 2 ^ i) (v ||| 2 ^ i)) = val
      have hvi : ∀ i, 2 ^ fc n m + avg w n (m ||| 2 ^ i) v + avg w n (m ||| 2 ^ i) (v ||| 2 ^ i) = val i := fun i => by rw [← hval]
      have hfcm := pow_fc n hn m hm
      have key : ∀ (d G i : Nat), i + d = n → d < G → j70 N (j72 N F) G (m : Int) (v : Int) (fc n m : Int) (mnO 1000 (free m) val i : Int) (i : Int) (n : Int) (w : Int) k = k (mnO 1000 (free m) val n : Int) := by
        intro d
        induction d with
        | zero =>
          intro G i hi hG
          obtain ⟨G, rfl⟩ : ∃ H, G = H + 1 := ⟨G - 1, by omega⟩
          simp only [j70, j69]
          rw [decide_eq_false (by omega : ¬ (i : Int) < (n : Int)), cond_false, show i = n by omega]
        | succ d ihd =>
          intro G i hi hG
          obtain ⟨G, rfl⟩ : ∃ H, G = H + 1 := ⟨G - 1, by omega⟩
          have hlt : i < n := by omega
          have hp : 2 ^ i < 2 ^ 4 := Nat.pow_lt_pow_right (by decide) (by omega)
          simp only [j70, j69]
          rw [decide_eq_true (by omega : (i : Int) < (n : Int)), cond_true, gd_true (decide_eq_true (by omega : (0 : Int) ≤ (i : Int))), shl_one i (by omega), bAnd m _ (by omega) (by omega), nat_eq_zero, and_bit m (by omega) i (by omega), bOr m _ (by omega) (by omega), bOr v _ (by omega) (by omega), w64_succ i (by omega), gd_true (decide_eq_true (Int.natCast_nonneg _))]
          have h1 := ihd G (i + 1) (by omega) (by omega)
          simp only [mnO] at h1
          cases hf : free m i with
          | false => rw [hf] at h1; exact h1
          | true =>
            rw [hf, if_pos rfl] at h1
            have h4 := fc_less n hn m hm i hlt hf
            have hmo := or_lt n hn m hm i hlt
            have hvo := or_lt n hn v hv i hlt
            have hd1 := avg_le w n (m ||| 2 ^ i) v hn hmo
            have hd2 := avg_le w n (m ||| 2 ^ i) (v ||| 2 ^ i) hn hmo
            have hfc := fc_le n m
            have hB := mnO_B 1000 (free m) val i
            rw [cond_true, show w64 ((fc n m : Int) - 1) = (fc n (m ||| 2 ^ i) : Int) by rw [w64_id (by omega) (by omega)]; omega, ih _ v (by omega) hmo hv, ih _ _ (by omega) hmo hvo, shl_one _ (by omega), ← Int.natCast_add, w64_nat _ (by omega), ← Int.natCast_add, w64_nat _ (by omega), mnI_nat, hvi]
            exact h1
      exact key n N 0 (by omega) (by omega)

/-- What is remembered is right. -/
def MemA (w n : Nat) (mp : Mp) : Prop := ∀ m v : Nat, hasM ⟨true, false⟩ mp (m : Int) (v : Int) = true → getM ⟨true, false⟩ mp (m : Int) (v : Int) = (avg w n m v : Int)
theorem MemA.put {w n : Nat} {mp : Mp} (h : MemA w n mp) (m v : Nat) {x : Int} (hx : x = (avg w n m v : Int)) : MemA w n (putM ⟨true, false⟩ mp (m : Int) (v : Int) x) := by
  intro m' v' hh
  rw [get_put]
  rw [has_put] at hh
  cases he : (((m : Int) == (m' : Int)) && ((v : Int) == (v' : Int))) with
  | true =>
    rw [if_pos rfl, hx]
    simp only [Bool.and_eq_true, beq_iff_eq] at he
    rw [show m = m' by omega, show v = v' by omega]
  | false =>
    rw [he, Bool.false_or] at hh
    rw [if_neg (by decide)]
    exact h m' v' hh

theorem impl_all_f (N : Nat) (hN : 64 < N) (n w : Nat) (hn : n ≤ 4) (hw : w < 2 ^ 2 ^ n) : ∀ (F m v : Nat) (mp4 mp : Mp), fc n m < F → m < 2 ^ n → v < 2 ^ n → MemA w n mp →
    ∃ mp', MemA w n mp' ∧ ∀ k0 : Int → Int → Int → Mp → Mp → Option β, j170 N F (m : Int) (v : Int) (n : Int) (w : Int) mp4 mp k0 = k0 (avg w n m v : Int) n w mp4 mp' := by
  have hs := size4 hn
  have hw' := two32 (by omega) hw
  intro F
  induction F with
  | zero => intro m v mp4 mp h; omega
  | succ F ih =>
    intro m v mp4 mp hF hm hv hM
    simp only [j170, j169]
    cases hh : hasM ⟨true, false⟩ mp (m : Int) (v : Int) with
    | true => exact ⟨mp, hM, fun k0 => by rw [cond_true, hM m v hh]⟩
    | false =>
      simp only [cond_false, impl_cube_eq N hN n w m v (by omega) hw' (by omega)]
      have e : ((cond (sc w m v false (2 ^ n)) (cond (sc w m v true (2 ^ n)) (2 : Int) 0) (cond (sc w m v true (2 ^ n)) 1 0)) == 2) = bothV w n m v := by
        unfold bothV
        cases sc w m v false (2 ^ n) <;> cases sc w m v true (2 ^ n) <;> rfl
      rw [e]
      have hde := avg_eq w n m v hn hm
      have hfcm := pow_fc n hn m hm
      cases hx : bothV w n m v with
      | false =>
        rw [hx, if_neg (by decide)] at hde
        exact ⟨_, hM.put m v (x := 0) (by rw [hde]; rfl), fun k0 => by rw [cond_false, hde]; rfl⟩
      | true =>
        rw [hx, if_pos rfl] at hde
        simp only [cond_true, impl_ones_eq N m (by omega)]
        have hfree : w64 ((n : Int) - (ones m : Int)) = (fc n m : Int) := by rw [w64_id (by omega) (by omega)]; omega
        have hfc := fc_le n m
        simp only [hfree, shl_one (fc n m) (by omega), gd_true (decide_eq_true (Int.natCast_nonneg (fc n m)))]
        have hmul : w64 (((2 ^ fc n m : Nat) : Int) * (n : Int)) = ((2 ^ fc n m * n : Nat) : Int) := by
          have : 2 ^ fc n m * n ≤ 16 * 4 := Nat.mul_le_mul hfcm.1 hn
          rw [← Int.natCast_mul, w64_nat _ (by omega)]
        rw [hmul]
        generalize hval : (fun i => 2 ^ fc n m + avg w n (m ||| 2 ^ i) v + avg w n (m ||| 2 ^ i) (v ||| 2 ^ i)) = val at hde
        have hvi : ∀ i, 2 ^ fc n m + avg w n (m ||| 2 ^ i) v + avg w n (m ||| 2 ^ i) (v ||| 2 ^ i) = val i := fun i => by rw [← hval]
        have key : ∀ (d G i : Nat) (mp : Mp), i + d = n → d < G → MemA w n mp → ∃ mp', MemA w n mp' ∧ ∀ K : Int → Int → Int → Mp → Mp → Int → Int → Option β,
            j168 N (j170 N F) G (mnO (2 ^ fc n m * n) (free m) val i : Int) ((2 ^ fc n m : Nat) : Int) (n : Int) (i : Int) (n : Int) (w : Int) mp4 mp (m : Int) (v : Int) K = K (mnO (2 ^ fc n m * n) (free m) val n : Int) n w mp4 mp' m v := by
          intro d
          induction d with
          | zero =>
            intro G i mp hi hG hM
            obtain ⟨G, rfl⟩ : ∃ H, G = H + 1 := ⟨G - 1, by omega⟩
            refine ⟨mp, hM, fun K => ?_⟩
            simp only [j168, j167]
            rw [decide_eq_false (by omega : ¬ (i : Int) < (n : Int)), cond_false, show i = n by omega]
          | succ d ihd =>
            intro G i mp hi hG hM
            obtain ⟨G, rfl⟩ : ∃ H, G = H + 1 := ⟨G - 1, by omega⟩
            have hlt : i < n := by omega
            have hp : 2 ^ i < 2 ^ 4 := Nat.pow_lt_pow_right (by decide) (by omega)
            have eb : ((((if m.testBit i then 1 else 0 : Nat) : Int)) == 0) = free m i := by
              unfold free
              cases m.testBit i <;> rfl
            cases hf : free m i with
            | false =>
              obtain ⟨mp', hM', he⟩ := ihd G (i + 1) mp (by omega) (by omega) hM
              refine ⟨mp', hM', fun K => ?_⟩
              simp only [j168, j167]
              rw [decide_eq_true (by omega : (i : Int) < (n : Int)), cond_true, gd_true (decide_eq_true (by omega : (0 : Int) ≤ (i : Int))), bit_at m i (by omega), eb, hf, cond_false, w64_succ i (by omega)]
              have h1 := he K
              simp only [mnO, hf] at h1
              exact h1
            | true =>
              have h4 := fc_less n hn m hm i hlt hf
              have hmo := or_lt n hn m hm i hlt
              have hvo := or_lt n hn v hv i hlt
              obtain ⟨mp1, hM1, he1⟩ := ih (m ||| 2 ^ i) v mp4 mp (by omega) hmo hv hM
              obtain ⟨mp2, hM2, he2⟩ := ih (m ||| 2 ^ i) (v ||| 2 ^ i) mp4 mp1 (by omega) hmo hvo hM1
              obtain ⟨mp', hM', he⟩ := ihd G (i + 1) mp2 (by omega) (by omega) hM2
              refine ⟨mp', hM', fun K => ?_⟩
              have hd1 := avg_le w n (m ||| 2 ^ i) v hn hmo
              have hd2 := avg_le w n (m ||| 2 ^ i) (v ||| 2 ^ i) hn hmo
              simp only [j168, j167, j129]
              rw [decide_eq_true (by omega : (i : Int) < (n : Int)), cond_true, gd_true (decide_eq_true (by omega : (0 : Int) ≤ (i : Int))), bit_at m i (by omega), eb, hf, cond_true, w64_succ i (by omega)]
              simp only [gd_true (decide_eq_true (by omega : (0 : Int) ≤ (i : Int)))]
              rw [shl_zero, shl_one i (by omega), or_zero_int v (by omega), bOr m _ (by omega) (by omega), bOr v _ (by omega) (by omega), he1]
              rw [he2]
              rw [← Int.natCast_add, w64_nat _ (by omega), ← Int.natCast_add, w64_nat _ (by omega), mnI_nat, hvi]
              have h1 := he K
              simp only [mnO, hf, if_true] at h1
              exact h1
        obtain ⟨mp', hM', he⟩ := key n N 0 mp (by omega) (by omega) hM
        have hle := av_le w n hn (fc n m + 1) m v hm
        have hle2 : 2 ^ fc n m * fc n m ≤ 2 ^ fc n m * n := Nat.mul_le_mul_left _ hfc
        have hb : 2 ^ fc n m * n ≤ 16 * 4 := Nat.mul_le_mul hfcm.1 hn
        have hst := mnO_start (2 ^ fc n m * n) 1000 (by omega) (free m) val n
        have hle : avg w n m v ≤ 2 ^ fc n m * fc n m := hle
        have heq : mnO (2 ^ fc n m * n) (free m) val n = avg w n m v := by
          rw [hst, ← hde]
          omega
        rw [heq] at he
        refine ⟨_, hM'.put m v (x := (avg w n m v : Int)) rfl, fun k0 => ?_⟩
        have h1 := he (fun e13_0 e13_1 e13_2 e13_3 e13_4 e13_5 e13_6 => k0 e13_0 e13_1 e13_2 e13_3 (putM ⟨true, false⟩ e13_4 e13_5 e13_6 e13_0))
        simp only [mnO, Int.natCast_zero] at h1
        exact h1

theorem fc_zero : ∀ n, n ≤ 4 → fc n 0 = n := by decide +kernel
theorem spec_LeastAverage_eq (N : Nat) (hN : 64 < N) (n w : Nat) (hn : n ≤ 4) (hw : w < 2 ^ 2 ^ n) (k : Int → Option β) : j74 N (n : Int) (w : Int) k = k (avg w n 0 0 : Int) := by
  have hpos := Nat.two_pow_pos n
  have hfc := fc_zero n hn
  unfold j74 j73
  rw [spec_IsTable_eq, isT_of (by omega) hw, Bool.not_true, cond_false, decide_eq_false (by omega : ¬ (n : Int) > 4), cond_false]
  have := spec_average_f (β := β) N hN n w hn hw N 0 0 (by omega) hpos hpos k
  rw [hfc] at this
  exact this
theorem impl_LeastAverage_eq (N : Nat) (hN : 64 < N) (n w : Nat) (hn : n ≤ 4) (hw : w < 2 ^ 2 ^ n) (k : Int → Option β) : j172 N (n : Int) (w : Int) k = k (avg w n 0 0 : Int) := by
  have hpos := Nat.two_pow_pos n
  have hfc := fc_zero n hn
  have hw' := two32 (by omega) hw
  unfold j172 j128 j171
  have hsm : smallT (n : Int) (w : Int) 4 = true := by
    unfold smallT
    rw [isT_of (by omega) hw, decide_eq_true (by omega : (n : Int) ≤ 4)]
    rfl
  rw [impl_isSmall_eq N _ _ 4 (by omega), hsm, Bool.not_true, cond_false]
  obtain ⟨mp', _, he⟩ := impl_all_f (β := β) N hN n w hn hw N 0 0 [] [] (by omega) hpos hpos (fun m v h => by cases h)
  exact he _
end Go.Proofs.YtignjkbhdaiegaaGreatDoor
namespace Go.Proofs.YtignjkbhdaiegaaGreatDoor
open Go.Rv
variable {β : Type}
def ed2 (a b n x : Nat) (s : Nat) : Nat → Nat
  | 0 => s
  | i + 1 => ed2 a b n x s i + (if a.testBit x && b.testBit (x ^^^ 2 ^ i) then 1 else 0)
def ed1 (a b n : Nat) : Nat → Nat
  | 0 => 0
  | x + 1 => ed2 a b n x (ed1 a b n x) n
theorem ed2_le (a b n x s : Nat) : ∀ i, ed2 a b n x s i ≤ s + i
  | 0 => Nat.le_refl _
  | i + 1 => by have := ed2_le a b n x s i; simp only [ed2]; split <;> omega
theorem ed1_le (a b n : Nat) : ∀ x, ed1 a b n x ≤ n * x
  | 0 => Nat.zero_le _
  | x + 1 => by have h1 := ed1_le a b n x; have h2 := ed2_le a b n x (ed1 a b n x) n; simp only [ed1]; rw [Nat.mul_add]; omega
theorem ed1_small (a b n x : Nat) (hn : n ≤ 4) (hx : x ≤ 2 ^ n) : ed1 a b n x ≤ 64 := by
  have h1 := ed1_le a b n x
  have h2 : 2 ^ n ≤ 16 := Nat.le_trans (Nat.pow_le_pow_right (by decide) hn) (by decide)
  have h3 : n * x ≤ 4 * 16 := Nat.mul_le_mul hn (by omega)
  omega
theorem bw_e1 (w x : Nat) : ((bw w x : Int) == 1) = w.testBit x := by unfold bw; cases w.testBit x <;> rfl
theorem bit_v (w x : Nat) (hw : w < 9223372036854775808) : bits .and .i64 (shrI .i64 (w : Int) (x : Int)) 1 = (bw w x : Int) := bit_at w x hw
theorem xor_sm {n x i : Nat} (hi : i < n) (hx : x < 2 ^ n) : x ^^^ 2 ^ i < 2 ^ n := Nat.xor_lt_two_pow hx (Nat.pow_lt_pow_right (by decide) hi)

theorem spec_edges_inner (N n a b x s : Nat) (hN : 64 < N) (hn : n ≤ 4) (ha : a < 4294967296) (hb : b < 4294967296) (hx : x < 2 ^ n) (hs : s ≤ 64) (k0 : Int → Int → Int → Int → Int → Option β) :
    j78 N N (n : Int) (a : Int) (b : Int) (s : Int) (x : Int) 0 k0 = k0 (n : Int) (a : Int) (b : Int) (ed2 a b n x s n : Int) (x : Int) := by
  have h16 : 2 ^ n ≤ 16 := Nat.le_trans (Nat.pow_le_pow_right (by decide) hn) (by decide)
  refine loop_st (fun F i => j78 N F (n : Int) (a : Int) (b : Int) (ed2 a b n x s i : Int) (x : Int) (i : Int) k0) n _ (fun F i hi => ?_) (fun F => ?_) N 0 (by omega) (by omega)
  · simp only [j78, j77]
    have hxs := xor_sm hi hx
    have h2 : 2 ^ i < 2 ^ n := Nat.pow_lt_pow_right (by decide) hi
    have hle := ed2_le a b n x s i
    rw [decide_eq_true (show (i : Int) < (n : Int) by omega), cond_true, gd_true (decide_eq_true (by omega)), bit_v a x (by omega), bw_e1, w64_succ i (by omega), w64_succ (ed2 a b n x s i) (by omega)]
    rw [gd_true (decide_eq_true (by omega)), shl_one i (by omega), bXor x (2 ^ i) (by omega) (by omega), gd_true (decide_eq_true (Int.natCast_nonneg _)), bit_v b _ (by omega), bw_e1]
    simp only [ed2]
    cases a.testBit x <;> cases b.testBit (x ^^^ 2 ^ i) <;> rfl
  · simp only [j78, j77]
    rw [decide_eq_false (by omega), cond_false]
theorem spec_edges_n (N n a b : Nat) (hN : 64 < N) (hn : n ≤ 4) (ha : a < 4294967296) (hb : b < 4294967296) (k : Int → Option β) : j81 N (n : Int) (a : Int) (b : Int) k = k (ed1 a b n (2 ^ n) : Int) := by
  have h16 : 2 ^ n ≤ 16 := Nat.le_trans (Nat.pow_le_pow_right (by decide) hn) (by decide)
  have hz : (0 : Int) ≤ ((2 ^ n : Nat) : Int) := Int.natCast_nonneg _
  refine loop_st (fun F x => j80 N F (n : Int) (a : Int) (b : Int) (ed1 a b n x : Int) (x : Int) fun e => k e) (2 ^ n) _ (fun F x hx => ?_) (fun F => ?_) N 0 (by omega) (by omega)
  · simp only [j80, j79]
    have := ed1_small a b n x hn (by omega)
    rw [gd_true (decide_eq_true (by omega)), shl_one n (by omega), decide_eq_true (by omega), cond_true, spec_edges_inner N n a b x _ hN hn ha hb hx this, w64_succ x (by omega)]
    rfl
  · simp only [j80, j79]
    rw [gd_true (decide_eq_true (by omega)), shl_one n (by omega), decide_eq_false (by omega), cond_false]
theorem and_shr (p : Bool) (b y : Nat) (hb : b < 4294967296) : bits .and .i64 ((if p then 1 else 0 : Nat) : Int) (shrI .i64 (b : Int) (y : Int)) = ((if p && b.testBit y then 1 else 0 : Nat) : Int) := by
  have hd := Nat.div_le_self b (2 ^ y)
  rw [shr_nat b y (by omega)]
  cases p with
  | false =>
    simp only [Bool.false_and]
    have := bAnd 0 (b / 2 ^ y) (by omega) (by omega)
    simpa using this
  | true =>
    have := bAnd 1 (b / 2 ^ y) (by omega) (by omega)
    simp only [Bool.true_and, if_true]
    rw [this, Nat.one_and_eq_mod_two, Nat.testBit_eq_decide_div_mod_eq]
    rcases Nat.mod_two_eq_zero_or_one (b / 2 ^ y) with h | h <;> simp [h]
theorem impl_edges_inner (N n a b x s : Nat) (hN : 64 < N) (hn : n ≤ 4) (ha : a < 4294967296) (hb : b < 4294967296) (hx : x < 2 ^ n) (hs : s ≤ 64) (c5 c6 : Int) (k0 : Int → Int → Int → Int → Int → Int → Option β) :
    j175 N N (n : Int) (a : Int) (b : Int) (s : Int) (x : Int) c5 c6 (n : Int) 0 k0 = k0 (n : Int) (a : Int) (b : Int) (ed2 a b n x s n : Int) c5 c6 := by
  have h16 : 2 ^ n ≤ 16 := Nat.le_trans (Nat.pow_le_pow_right (by decide) hn) (by decide)
  refine loop_st (fun F i => j175 N F (n : Int) (a : Int) (b : Int) (ed2 a b n x s i : Int) (x : Int) c5 c6 (n : Int) (i : Int) k0) n _ (fun F i hi => ?_) (fun F => ?_) N 0 (by omega) (by omega)
  · simp only [j175, j174]
    have hxs := xor_sm hi hx
    have h2 : 2 ^ i < 2 ^ n := Nat.pow_lt_pow_right (by decide) hi
    have hle := ed2_le a b n x s i
    rw [decide_eq_true (show (i : Int) < (n : Int) by omega), cond_true, gd_true (decide_eq_true (by omega)), gd_true (decide_eq_true (by omega)), shl_one i (by omega), bXor x (2 ^ i) (by omega) (by omega), gd_true (decide_eq_true (Int.natCast_nonneg _)), bit_at a x (by omega), and_shr _ b _ hb, w64_succ i (by omega)]
    have e : ed2 a b n x s (i + 1) = ed2 a b n x s i + (if a.testBit x && b.testBit (x ^^^ 2 ^ i) then 1 else 0) := rfl
    rw [← Int.natCast_add, ← e, w64_nat _ (by have := ed2_le a b n x s (i + 1); omega)]
  · simp only [j175, j174]
    rw [decide_eq_false (by omega), cond_false]
theorem impl_edges_n (N n a b : Nat) (hN : 64 < N) (hn : n ≤ 4) (ha : a < 4294967296) (hb : b < 4294967296) (k : Int → Option β) : j178 N (n : Int) (a : Int) (b : Int) k = k (ed1 a b n (2 ^ n) : Int) := by
  have h16 : 2 ^ n ≤ 16 := Nat.le_trans (Nat.pow_le_pow_right (by decide) hn) (by decide)
  have hz : (0 : Int) ≤ ((2 ^ n : Nat) : Int) := Int.natCast_nonneg _
  unfold j178
  rw [gd_true (decide_eq_true (by omega)), shl_one n (by omega)]
  refine loop_st (fun F x => j177 N F (n : Int) (a : Int) (b : Int) (ed1 a b n x : Int) ((2 ^ n : Nat) : Int) (x : Int) fun e => k e) (2 ^ n) _ (fun F x hx => ?_) (fun F => ?_) N 0 (by omega) (by omega)
  · simp only [j177, j176]
    have := ed1_small a b n x hn (by omega)
    rw [decide_eq_true (by omega), cond_true, impl_edges_inner N n a b x _ hN hn ha hb hx this, w64_succ x (by omega)]
    rfl
  · simp only [j177, j176]
    rw [decide_eq_false (by omega), cond_false]

/-- The other inputs. -/
def cmpl (w n : Nat) : Nat := 2 ^ 2 ^ n - 1 - w
theorem cmpl_xor (w n : Nat) (hw : w < 2 ^ 2 ^ n) : w ^^^ (2 ^ 2 ^ n - 1) = cmpl w n := by
  unfold cmpl
  apply Nat.eq_of_testBit_eq
  intro i
  have e : 2 ^ 2 ^ n - 1 - w = 2 ^ 2 ^ n - (w + 1) := by omega
  rw [e, Nat.testBit_two_pow_sub_succ hw, Nat.testBit_xor, Nat.testBit_two_pow_sub_one]
  by_cases hi : i < 2 ^ n
  · simp [hi]
  · have : w.testBit i = false := Nat.testBit_lt_two_pow (Nat.lt_of_lt_of_le hw (Nat.pow_le_pow_right (by decide) (by omega)))
    simp [hi, this]
def tbound (w n : Nat) : Int :=
  cond (w64 ((ones w : Int) * (ones (cmpl w n) : Int)) == 0) 0 (quoI .i64 (w64 (w64 (w64 ((ed1 w (cmpl w n) n (2 ^ n) : Int) * (ed1 w (cmpl w n) n (2 ^ n) : Int)) + w64 ((ones w : Int) * (ones (cmpl w n) : Int))) - 1)) (w64 ((ones w : Int) * (ones (cmpl w n) : Int))))
theorem sml {n w : Nat} (hn : n ≤ 4) (hw : w < 2 ^ 2 ^ n) : smallT (n : Int) (w : Int) 4 = true := by
  unfold smallT
  rw [isT_of (by omega) hw, decide_eq_true (by omega : (n : Int) ≤ 4)]
  rfl
theorem spec_TableBound_n (N n w : Nat) (hN : 64 < N) (hn : n ≤ 4) (hw : w < 2 ^ 2 ^ n) (k : Int → Option β) : j83 N (n : Int) (w : Int) k = k (tbound w n) := by
  have hw' := two32 (by omega : n ≤ 5) hw
  have hpos := Nat.two_pow_pos (2 ^ n)
  have hc : cmpl w n < 2 ^ 2 ^ n := by unfold cmpl; omega
  have hc' := two32 (by omega : n ≤ 5) hc
  have hcm : (w : Int) + (cmpl w n : Int) = ((2 ^ 2 ^ n - 1 : Nat) : Int) := by unfold cmpl; omega
  unfold j83
  rw [spec_IsTable_eq, isT_of (by omega) hw, Bool.not_true, cond_false, decide_eq_false (by omega : ¬ (n : Int) > 4), cond_false, spec_l2Full_eq N n (by omega), show w64 (((2 ^ 2 ^ n - 1 : Nat) : Int) - (w : Int)) = (cmpl w n : Int) by rw [w64_id (by omega) (by omega)]; omega]
  unfold j82 j76
  rw [spec_l1In_eq, decide_eq_true (show (0 : Int) ≤ (n : Int) by omega), decide_eq_true (show (n : Int) ≤ 4 by omega), Bool.and_self, cond_true, spec_l2Full_eq N n (by omega), spec_l1In_eq, decide_eq_true (show (0 : Int) ≤ (w : Int) by omega), decide_eq_true (show (w : Int) ≤ ((2 ^ 2 ^ n - 1 : Nat) : Int) by omega), Bool.and_self, cond_true, spec_l2Full_eq N n (by omega), spec_l1In_eq, decide_eq_true (show (0 : Int) ≤ (cmpl w n : Int) by omega), decide_eq_true (show (cmpl w n : Int) ≤ ((2 ^ 2 ^ n - 1 : Nat) : Int) by omega)]
  rw [Bool.and_self]
  dsimp only
  rw [Bool.not_true, cond_false, spec_l2Count_eq N w hN hw', spec_l2Count_eq N _ hN hc']
  unfold tbound
  cases h : w64 ((ones w : Int) * (ones (cmpl w n) : Int)) == 0 with
  | true => rfl
  | false =>
    rw [cond_false, cond_false, spec_edges_n N n w _ hN hn hw' hc', gd_true (by rw [bne, h]; rfl)]
theorem impl_TableBound_n (N n w : Nat) (hN : 64 < N) (hn : n ≤ 4) (hw : w < 2 ^ 2 ^ n) (k : Int → Option β) : j180 N (n : Int) (w : Int) k = k (tbound w n) := by
  have hw' := two32 (by omega : n ≤ 5) hw
  have hs := size_le (by omega : n ≤ 5)
  have hpos := Nat.two_pow_pos (2 ^ n)
  have hc : cmpl w n < 2 ^ 2 ^ n := by unfold cmpl; omega
  have hc' := two32 (by omega : n ≤ 5) hc
  have hf : 2 ^ 2 ^ n ≤ 2 ^ 32 := Nat.pow_le_pow_right (by decide) hs
  unfold j180
  rw [impl_isSmall_eq N _ _ 4 (by omega), sml hn hw, Bool.not_true, cond_false]
  unfold j173
  rw [impl_Table_size_eq N n _ (by omega), gd_true (decide_eq_true (Int.natCast_nonneg _)), shl_one (2 ^ n) (by omega), show w64 (((2 ^ 2 ^ n : Nat) : Int) - 1) = ((2 ^ 2 ^ n - 1 : Nat) : Int) by rw [w64_id (by omega) (by omega)]; omega, bXor w _ (by omega) (by omega), cmpl_xor w n hw]
  dsimp only
  unfold j179
  rw [impl_ones_eq N w hw', impl_ones_eq N _ hc']
  unfold tbound
  cases h : w64 ((ones w : Int) * (ones (cmpl w n) : Int)) == 0 with
  | true => rfl
  | false =>
    rw [cond_false, cond_false, impl_edges_n N n w _ hN hn hw' hc', gd_true (by rw [bne, h]; rfl)]
theorem tbound_in (w n : Nat) : in64 (tbound w n) := by
  unfold tbound
  cases w64 ((ones w : Int) * (ones (cmpl w n) : Int)) == 0 with
  | true => unfold in64; simp
  | false => exact w64_in _
theorem spec_IsEvasive_n (N n w : Nat) (hN : 64 < N) (hn : n ≤ 4) (hw : w < 2 ^ 2 ^ n) (k : Bool → Option β) : j84 N (n : Int) (w : Int) k = k ((depth w n : Int) == (n : Int)) := by
  have hpos := Nat.two_pow_pos n
  have hfc := fc_le n 0
  unfold j84 j42
  rw [spec_IsTable_eq, isT_of (by omega) hw, cond_true, decide_eq_true (by omega : (n : Int) ≤ 4), cond_true]
  exact spec_least_f (β := β) N hN n w hn hw N 0 0 (by omega) hpos hpos fun r => k (r == (n : Int))
theorem impl_IsEvasive_n (N n w : Nat) (hN : 64 < N) (hn : n ≤ 4) (hw : w < 2 ^ 2 ^ n) (k : Bool → Option β) : j181 N (n : Int) (w : Int) k = k ((depth w n : Int) == (n : Int)) := by
  have hw' := two32 (by omega : n ≤ 5) hw
  unfold j181
  rw [impl_isSmall_eq N _ _ 4 (by omega), sml hn hw, cond_true, impl_LeastDepth_eq N hN n w hn hw]
end Go.Proofs.YtignjkbhdaiegaaGreatDoor
namespace Go.Proofs.YtignjkbhdaiegaaGreatDoor
open Go.Rv
variable {β : Type}
def names : List (List UInt8) := [[115, 101, 110, 115, 105, 116, 105, 118, 105, 116, 121], [98, 108, 111, 99, 107, 115], [99, 101, 114, 116, 105, 102, 105, 99, 97, 116, 101], [100, 101, 112, 116, 104], [100, 101, 103, 114, 101, 101], [100, 101, 103, 114, 101, 101, 50], [111, 110, 101, 115], [105, 110, 102, 108, 117, 101, 110, 99, 101]]
def nm (i : Nat) : List UInt8 := names.getD i []
theorem nm_rd (i : Nat) (h : i < 8) : rd ByteArray.empty (names.map B) (i : Int) = B (nm i) := by
  have : i = 0 ∨ i = 1 ∨ i = 2 ∨ i = 3 ∨ i = 4 ∨ i = 5 ∨ i = 6 ∨ i = 7 := by omega
  rcases this with rfl | rfl | rfl | rfl | rfl | rfl | rfl | rfl <;> rfl
theorem nm_len (i : Nat) (h : i < 8) : (nm i).length ≤ 20 := by
  have : i = 0 ∨ i = 1 ∨ i = 2 ∨ i = 3 ∨ i = 4 ∨ i = 5 ∨ i = 6 ∨ i = 7 := by omega
  rcases this with rfl | rfl | rfl | rfl | rfl | rfl | rfl | rfl <;> decide
theorem mx_in {a b : Int} (ha : -1 ≤ a ∧ a ≤ 1000) (hb : -1 ≤ b ∧ b ≤ 1000) : -1 ≤ mxI a b ∧ mxI a b ≤ 1000 := by unfold mxI; split <;> assumption
theorem cond_in {c : Bool} {a b : Int} (ha : -1 ≤ a ∧ a ≤ 1000) (hb : -1 ≤ b ∧ b ≤ 1000) : -1 ≤ cond c a b ∧ cond c a b ≤ 1000 := by cases c <;> assumption
theorem nat_in {a m : Nat} (h : a ≤ m) (hm : m ≤ 1000) : -1 ≤ (a : Int) ∧ (a : Int) ≤ 1000 := by omega
theorem msr_le (s : ByteArray) (w n : Nat) (hn : n ≤ 4) : -1 ≤ msr s w n ∧ msr s w n ≤ 1000 := by
  have d1 := dg_bound (fun m => cf w m (2 ^ n) != 0) (2 ^ n)
  have d2 := dg_bound (anf w n).testBit (2 ^ n)
  unfold msr
  refine cond_in (nat_in (sensOf_le w n) (by omega)) (cond_in (nat_in (bsOf_le w n hn) (by omega)) (cond_in (mx_in (nat_in (certOf_le w n false) (by omega)) (nat_in (certOf_le w n true) (by omega))) (cond_in (nat_in (depth_le w n hn) (by omega)) (cond_in (mx_in (by omega) (by unfold deg; omega)) (cond_in (mx_in (by omega) (by omega)) (cond_in (nat_in (ones_le w) (by omega)) (cond_in (nat_in (total_le w n (by omega)) (by omega)) (by omega))))))))
theorem msr_in (s : ByteArray) (w n : Nat) (hn : n ≤ 4) : in64 (msr s w n) := by
  have := msr_le s w n hn
  unfold in64; omega

/-- The line so far, and its words. -/
def sp (w n : Nat) : Nat → List UInt8
  | 0 => [109, 101, 97, 115, 117, 114, 101, 115]
  | i + 1 => sp w n i ++ [32] ++ nm i ++ [32] ++ Lib.itoa (msr (B (nm i)) w n)
def iw (w n : Nat) : Nat → List (List UInt8)
  | 0 => [[109, 101, 97, 115, 117, 114, 101, 115]]
  | i + 1 => iw w n i ++ [nm i, Lib.itoa (msr (B (nm i)) w n)]
theorem sp_len (w n : Nat) (hn : n ≤ 4) : ∀ i, i ≤ 8 → (sp w n i).length ≤ 8 + 42 * i
  | 0, _ => by simp [sp]
  | i + 1, h => by
    have h1 := sp_len w n hn i (by omega)
    have h2 := nm_len i (by omega)
    have h3 := (itoa_len _ (msr_in (B (nm i)) w n hn)).1
    simp only [sp, List.length_append, List.length_cons, List.length_nil]
    omega
theorem iw_len (w n : Nat) : ∀ i, (iw w n i).length = 1 + 2 * i
  | 0 => rfl
  | i + 1 => by simp only [iw, List.length_append, iw_len w n i, List.length_cons, List.length_nil]; omega
theorem join_snoc (x : List UInt8) (r : List (List UInt8)) (y : List UInt8) : Lib.join (x :: r ++ [y]) [32] = Lib.join (x :: r) [32] ++ [32] ++ y := by
  rw [List.cons_append, Lib.join_cons, Lib.join_cons]
  simp [Lib.joinTail]
theorem iw_cons (w n : Nat) : ∀ i, ∃ x r, iw w n i = x :: r
  | 0 => ⟨_, _, rfl⟩
  | i + 1 => by
    obtain ⟨x, r, h⟩ := iw_cons w n i
    exact ⟨x, r ++ [nm i, Lib.itoa (msr (B (nm i)) w n)], by simp only [iw, h, List.cons_append]⟩
theorem join_iw (w n : Nat) : ∀ i, Lib.join (iw w n i) [32] = sp w n i
  | 0 => by simp [iw, sp, Lib.join_one]
  | i + 1 => by
    obtain ⟨x, r, h⟩ := iw_cons w n i
    have ih := join_iw w n i
    simp only [iw, sp]
    rw [h] at ih ⊢
    have e : x :: r ++ [nm i, Lib.itoa (msr (B (nm i)) w n)] = x :: (r ++ [nm i]) ++ [Lib.itoa (msr (B (nm i)) w n)] := by simp
    rw [e, join_snoc, ← List.cons_append, join_snoc, ih]

theorem spec_names (N : Nat) (k : List ByteArray → Option β) : j3 N k = k (names.map B) := by
  unfold j3
  simp [names, B_strOf]
theorem impl_names (N : Nat) (k : List ByteArray → Option β) : j93 N k = k (names.map B) := by
  unfold j93
  simp [names, B_strOf]
theorem names_len : (names.map B).length = 8 := rfl
theorem spec_line_loop (N n w : Nat) (hN : 1048576 < N) (hn : n ≤ 4) (hw : w < 2 ^ 2 ^ n) (k0 : ByteArray → Int → Int → Option β) :
    j87 N N (B (sp w n 0)) 0 (n : Int) (w : Int) (names.map B) k0 = k0 (B (sp w n 8)) n w := by
  refine loop_st (fun F i => j87 N F (B (sp w n i)) (i : Int) (n : Int) (w : Int) (names.map B) k0) 8 _ (fun F i hi => ?_) (fun F => ?_) N 0 (by omega) (by omega)
  · simp only [j87, j86]
    have h1 := sp_len w n hn i (by omega)
    have h2 := nm_len i hi
    have h3 := (itoa_len _ (msr_in (B (nm i)) w n hn)).1
    have g1 : decide ((i : Int) < ((names.map B).length : Int)) = true := decide_eq_true (by rw [names_len]; omega)
    have g2 : decide ((0 : Int) ≤ (i : Int)) = true := decide_eq_true (by omega)
    rw [g1, g2, nm_rd i hi]
    simp only [cond_true, B_strOf, B_app, B_size, gd]
    rw [decide_eq_true (by simp; omega), cond_true, decide_eq_true (by simp; omega), cond_true, decide_eq_true (by simp; omega), cond_true, spec_MeasureOf_small N (by omega) _ n w hn hw, spec_FormatInt_eq N (by omega) _ (msr_in _ w n hn), w64_succ i (by omega)]
    simp only [B_app, B_size]
    rw [decide_eq_true (by simp; omega), cond_true]
    rfl
  · simp only [j87, j86]
    rw [decide_eq_false (by rw [names_len]; omega), cond_false]
theorem impl_line_loop (N n w : Nat) (hN : 1048576 < N) (hn : n ≤ 4) (hw : w < 2 ^ 2 ^ n) (k0 : Int → Int → List ByteArray → Option β) :
    j186 N N 8 0 (n : Int) (w : Int) (names.map B) ((iw w n 0).map B) k0 = k0 n w ((iw w n 8).map B) := by
  refine loop_st (fun F i => j186 N F 8 (i : Int) (n : Int) (w : Int) (names.map B) ((iw w n i).map B) k0) 8 _ (fun F i hi => ?_) (fun F => ?_) N 0 (by omega) (by omega)
  · simp only [j186, j185]
    have hl := iw_len w n i
    rw [decide_eq_true (show (i : Int) < 8 by omega), cond_true, gd_true (decide_eq_true (by omega)), gd_true (decide_eq_true (by rw [names_len]; omega)), nm_rd i hi, impl_measure_eq N (by omega) _ n w hn hw, impl_FormatInt_eq N _ (msr_in _ w n hn), w64_succ i (by omega)]
    unfold j182
    rw [gd_true (decide_eq_true (by simp [hl]; omega))]
    simp only [iw, List.map_append]
    rfl
  · simp only [j186, j185]
    rfl

/-- The words behind the measures. -/
def tailW (w n : Nat) (e : Bool) : List (List UInt8) := [[97, 118, 101, 114, 97, 103, 101], Lib.itoa (avg w n 0 0 : Int), [107, 114, 97, 112, 99, 104, 101, 110, 107, 111], Lib.itoa (tbound w n)] ++ cond e [[101, 118, 97, 115, 105, 118, 101]] []
def measL (w n : Nat) (e : Bool) : List UInt8 := Lib.join (iw w n 8 ++ tailW w n e) [32]
theorem measL_eq (w n : Nat) (e : Bool) : measL w n e = sp w n 8 ++ [32, 97, 118, 101, 114, 97, 103, 101, 32] ++ Lib.itoa (avg w n 0 0 : Int) ++ [32, 107, 114, 97, 112, 99, 104, 101, 110, 107, 111, 32] ++ Lib.itoa (tbound w n) ++ cond e [32, 101, 118, 97, 115, 105, 118, 101] [] := by
  have hj := join_iw w n 8
  obtain ⟨x, r, h⟩ := iw_cons w n 8
  unfold measL tailW
  rw [h] at hj ⊢
  rw [← hj, List.cons_append, Lib.join_cons, Lib.join_cons]
  cases e <;> simp [Lib.joinTail]
theorem avg_in (w n : Nat) (hn : n ≤ 4) : in64 (avg w n 0 0 : Int) := by
  have := avg_le w n 0 0 hn (Nat.two_pow_pos n)
  unfold in64; omega
theorem spec_MeasureLine_n (N n w : Nat) (hN : 1048576 < N) (hn : n ≤ 4) (hw : w < 2 ^ 2 ^ n) (k : ByteArray → Option β) : j88 N (n : Int) (w : Int) k = k (B (measL w n ((depth w n : Int) == (n : Int)))) := by
  have h1 := sp_len w n hn 8 (by omega)
  have h2 := (itoa_len _ (avg_in w n hn)).1
  have h3 := (itoa_len _ (tbound_in w n)).1
  unfold j88
  rw [spec_IsTable_eq, isT_of (by omega) hw, Bool.not_true, cond_false, decide_eq_false (by omega : ¬ (n : Int) > 4), cond_false, spec_names]
  have e0 : strOf [109, 101, 97, 115, 117, 114, 101, 115] = B (sp w n 0) := rfl
  rw [e0, spec_line_loop N n w hN hn hw]
  simp only [B_strOf, B_app, B_size]
  rw [gd_true (decide_eq_true (by simp; omega)), spec_LeastAverage_eq N (by omega) n w hn hw, spec_FormatInt_eq N (by omega) _ (avg_in w n hn)]
  simp only [B_app, B_size]
  rw [gd_true (decide_eq_true (by simp; omega)), gd_true (decide_eq_true (by simp; omega)), spec_TableBound_n N n w (by omega) hn hw, spec_FormatInt_eq N (by omega) _ (tbound_in w n)]
  simp only [B_app, B_size]
  rw [gd_true (decide_eq_true (by simp; omega)), spec_IsEvasive_n N n w (by omega) hn hw, measL_eq]
  unfold j85
  cases (depth w n : Int) == (n : Int) with
  | true =>
    simp only [cond_true, B_app, B_size]
    rw [gd_true (decide_eq_true (by simp; omega))]
    congr 2
  | false =>
    simp only [cond_false, B_nil, B_app, B_size]
    rw [gd_true (decide_eq_true (by simp; omega))]
    congr 2
theorem impl_MeasureLine_n (N n w : Nat) (hN : 1048576 < N) (hn : n ≤ 4) (hw : w < 2 ^ 2 ^ n) (k : ByteArray → Option β) : j187 N (n : Int) (w : Int) k = k (B (measL w n ((depth w n : Int) == (n : Int)))) := by
  have h1 := sp_len w n hn 8 (by omega)
  have h2 := (itoa_len _ (avg_in w n hn)).1
  have h3 := (itoa_len _ (tbound_in w n)).1
  have hl := iw_len w n 8
  have hw' := two32 (by omega : n ≤ 5) hw
  have fin : ∀ (e : Bool) (l : List ByteArray), l = (iw w n 8 ++ tailW w n e).map B → j184 N l (fun r0 _ => k r0) = k (B (measL w n e)) := by
    intro e l h
    unfold j184 strings_Join
    rw [h, show strOf [32] = B [32] from rfl, joinB_B, gd_true (decide_eq_true (by cases e <;> simp [tailW, hl])), gd_true (decide_eq_true (by
      rw [B_size]
      have := measL_eq w n e
      unfold measL at this
      rw [this]
      cases e <;> simp <;> omega))]
    rfl
  unfold j187
  rw [impl_isSmall_eq N _ _ 4 (by omega), sml hn hw, Bool.not_true, cond_false]
  unfold j183 j182
  rw [gd_true (decide_eq_true (by simp))]
  dsimp only
  rw [impl_names, names_len]
  have e0 : (([] : List ByteArray) ++ (([] : List ByteArray) ++ [strOf [109, 101, 97, 115, 117, 114, 101, 115]])) = (iw w n 0).map B := rfl
  have e8 : ((8 : Nat) : Int) = 8 := rfl
  rw [e0, e8, impl_line_loop N n w hN hn hw, impl_LeastAverage_eq N (by omega) n w hn hw, impl_FormatInt_eq N _ (avg_in w n hn), impl_TableBound_n N n w (by omega) hn hw, impl_FormatInt_eq N _ (tbound_in w n), gd_true (decide_eq_true (by simp [hl]))]
  rw [impl_IsEvasive_n N n w (by omega) hn hw]
  cases (depth w n : Int) == (n : Int) with
  | true =>
    rw [cond_true, gd_true (decide_eq_true (by simp [hl]))]
    exact fin true _ (by simp [tailW, B_strOf])
  | false =>
    rw [cond_false]
    exact fin false _ (by simp [tailW, B_strOf])
theorem line_none (N : Nat) (a0 a1 : Int) (h1 : -9223372036854775808 ≤ a1 ∧ a1 ≤ 9223372036854775807) (hS : smallT a0 a1 4 = false) (k : ByteArray → Option β) : j88 N a0 a1 k = k ByteArray.empty ∧ j187 N a0 a1 k = k ByteArray.empty := by
  constructor
  · unfold j88
    rw [spec_IsTable_eq]
    cases hT : isT a0 a1 with
    | false => rfl
    | true =>
      unfold smallT at hS
      rw [hT, Bool.true_and, decide_eq_false_iff_not] at hS
      rw [Bool.not_true, cond_false, decide_eq_true (by omega : a0 > 4), cond_true]
  · unfold j187
    rw [impl_isSmall_eq N a0 a1 4 (by omega), hS]
    rfl
theorem law_MeasureLine (N : Nat) (hN : 1048576 < N) (a0 a1 : Int) (_ : -9223372036854775808 ≤ a0 ∧ a0 ≤ 9223372036854775807) (h1 : -9223372036854775808 ≤ a1 ∧ a1 ≤ 9223372036854775807) (k : Bool → Option β) : laws_FnExactMeasureLine N a0 a1 k = k true := by
  unfold laws_FnExactMeasureLine j0
  have fin : ∀ s : ByteArray, cond (!(s.toList == s.toList)) (k false) (k true) = k true := fun s => by rw [beq_self_eq_true]; rfl
  dsimp only
  cases hS : smallT a0 a1 4 with
  | false =>
    rw [(line_none N a0 a1 h1 hS _).1, (line_none N a0 a1 h1 hS _).2]
    exact fin _
  | true =>
    obtain ⟨n, w, rfl, rfl, hn, hw⟩ := small_nat hS
    rw [spec_MeasureLine_n N n w hN hn hw, impl_MeasureLine_n N n w hN hn hw]
    exact fin _
end Go.Proofs.YtignjkbhdaiegaaGreatDoor
