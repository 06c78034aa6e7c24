/- Plain laws of the texts: sensitivity, certificates, ones and influence of a table. -/
import Derived.Test.YtdkjnadhgdneaaaP15
namespace Go.Proofs.Ytdkjnadhgdneaaa
open Go.Rv
set_option linter.unusedVariables false
variable {β : Type}
theorem mxI_nat (a b : Nat) : mxI (a : Int) (b : Int) = ((max a b : Nat) : Int) := by unfold mxI; split <;> omega
theorem mnI_nat (a b : Nat) : mnI (a : Int) (b : Int) = ((min a b : Nat) : Int) := by unfold mnI; split <;> omega
/-- The greatest of some numbers, 0 at least. -/
def mx (f : Nat → Nat) : Nat → Nat
  | 0 => 0
  | m + 1 => max (mx f m) (f m)
theorem mx_le (f : Nat → Nat) (B : Nat) : ∀ m, (∀ x, x < m → f x ≤ B) → mx f m ≤ B
  | 0, _ => Nat.zero_le _
  | m + 1, h => by
    have h1 := mx_le f B m fun x hx => h x (by omega)
    have h2 := h m (by omega)
    simp only [mx]
    omega

theorem sens_le (w n x : Nat) : sens w n x ≤ n := cnt_le _ n
theorem spec_l10At_eq (N : Nat) (hN : 64 < N) (n w x : Nat) (hn : n ≤ 5) (hw : w < 2 ^ 2 ^ n) (hx : x < 2 ^ n) (k : Int → Option β) : spec_l10At N (n : Int) (w : Int) (x : Int) k = k (sens w n x : Int) := by
  have hw' := two32 hn hw
  have hs := size_le hn
  unfold spec_l10At
  have key : ∀ (F i : Nat), n - i < F → i ≤ n → spec_l10At_l0 N F (x : Int) (cnt (fun i => edge w i x) i : Int) (i : Int) (n : Int) (w : Int) k = k (sens w n x : Int) := by
    intro F
    induction F with
    | zero => intro i h; omega
    | succ F ih =>
      intro i hF hi
      have hc := cnt_le (fun i => edge w i x) i
      simp only [spec_l10At_l0, spec_l10At_l0b]
      by_cases hlt : i < n
      · have hp : 2 ^ i < 2 ^ 5 := Nat.pow_lt_pow_right (by decide) (by omega)
        have hxp : x ^^^ 2 ^ i < 2 ^ 5 := Nat.xor_lt_two_pow (by omega) hp
        rw [decide_eq_true (by omega : (i : Int) < (n : Int)), decide_eq_true (by omega : (0 : Int) ≤ (x : Int)), decide_eq_true (by omega : (0 : Int) ≤ (i : Int)), shl_one i (by omega), bXor x (2 ^ i) (by omega) (by omega), decide_eq_true (by omega : (0 : Int) ≤ ((x ^^^ 2 ^ i : Nat) : Int)), spec_bit2 w x _ hw', w64_succ i (by omega), ← Int.natCast_add]
        simp only [cond_true, gd_true rfl]
        have e : cnt (fun i => edge w i x) i + (if (w.testBit x != w.testBit (x ^^^ 2 ^ i)) = true then 1 else 0) = cnt (fun i => edge w i x) (i + 1) := rfl
        have hc' := cnt_le (fun i => edge w i x) (i + 1)
        rw [e, w64_nat _ (by omega)]
        exact ih (i + 1) (by omega) (by omega)
      · rw [decide_eq_false (by omega : ¬ (i : Int) < (n : Int)), cond_false, show i = n by omega]
        rfl
  exact key N 0 (by omega) (Nat.zero_le _)

/-- The sensitivity of a table. -/
def sensOf (w n : Nat) : Nat := mx (sens w n) (2 ^ n)
theorem sensOf_le (w n : Nat) : sensOf w n ≤ n := mx_le _ _ _ fun x _ => sens_le w n x
theorem spec_SensitivityOf_eq (N : Nat) (hN : 64 < N) (n w : Nat) (hn : n ≤ 5) (hw : w < 2 ^ 2 ^ n) (k : Int → Option β) : spec_SensitivityOf N (n : Int) (w : Int) k = k (sensOf w n : Int) := by
  have hs := size_le hn
  unfold spec_SensitivityOf
  rw [spec_IsTable_eq, isT_of hn hw, Bool.not_true, cond_false]
  have key : ∀ (F x : Nat), 2 ^ n - x < F → x ≤ 2 ^ n → spec_SensitivityOf_l0 N F (mx (sens w n) x : Int) (x : Int) (n : Int) (w : Int) k = k (sensOf w n : Int) := by
    intro F
    induction F with
    | zero => intro x h; omega
    | succ F ih =>
      intro x hF hx
      simp only [spec_SensitivityOf_l0, spec_SensitivityOf_l0b]
      rw [gd_true (decide_eq_true (by omega : (0 : Int) ≤ (n : Int))), shl_one n (by omega)]
      by_cases hlt : x < 2 ^ n
      · rw [decide_eq_true (by omega : (x : Int) < ((2 ^ n : Nat) : Int)), cond_true, spec_l10At_eq N hN n w x hn hw hlt, mxI_nat, w64_succ x (by omega)]
        exact ih (x + 1) (by omega) (by omega)
      · rw [decide_eq_false (by omega : ¬ (x : Int) < ((2 ^ n : Nat) : Int)), cond_false, show x = 2 ^ n by omega]
        rfl
  exact key N 0 (by omega) (Nat.zero_le _)
theorem impl_SensitivityOf_eq (N : Nat) (hN : 64 < N) (n w : Nat) (hn : n ≤ 5) (hw : w < 2 ^ 2 ^ n) (k : Int → Option β) : impl_SensitivityOf N (n : Int) (w : Int) k = k (sensOf w n : Int) := by
  have hs := size_le hn
  have hw' := two32 hn hw
  unfold impl_SensitivityOf impl_Table_size
  rw [impl_IsTable_eq N _ _ (by omega), isT_of hn hw, Bool.not_true, cond_false, gd_true (decide_eq_true (by omega : (0 : Int) ≤ (n : Int))), shl_one n (by omega)]
  have key : ∀ (F x : Nat), 2 ^ n - x < F → x ≤ 2 ^ n → impl_SensitivityOf_l0 N F (mx (sens w n) x : Int) ((2 ^ n : Nat) : Int) (x : Int) (n : Int) (w : Int) k = k (sensOf w n : Int) := by
    intro F
    induction F with
    | zero => intro x h; omega
    | succ F ih =>
      intro x hF hx
      simp only [impl_SensitivityOf_l0, impl_SensitivityOf_l0b]
      by_cases hlt : x < 2 ^ n
      · rw [decide_eq_true (by omega : (x : Int) < ((2 ^ n : Nat) : Int)), cond_true, impl_sensitivity_eq N hN n w x hn hw hlt, mxI_nat, w64_succ x (by omega)]
        exact ih (x + 1) (by omega) (by omega)
      · rw [decide_eq_false (by omega : ¬ (x : Int) < ((2 ^ n : Nat) : Int)), cond_false, show x = 2 ^ n by omega]
        rfl
  exact key N 0 (by omega) (Nat.zero_le _)

/-! ### Certificates -/

/-- Whether a value is seen at an input that agrees, below one. -/
def sc (w m v : Nat) (b : Bool) : Nat → Bool
  | 0 => false
  | x + 1 => sc w m v b x || (x &&& m == v && w.testBit x == b)
def cres (p q : Bool) : Int := cond p (cond q 2 0) (cond q 1 (-1))
/-- Whether both values are seen. -/
def bothV (w n m v : Nat) : Bool := sc w m v false (2 ^ n) && sc w m v true (2 ^ n)
theorem sc_mono (w m v : Nat) (b : Bool) (x : Nat) (h : sc w m v b x = true) : ∀ d, sc w m v b (x + d) = true
  | 0 => h
  | d + 1 => by rw [← Nat.add_assoc, sc, sc_mono w m v b x h d]; rfl

theorem bit_ne (c d : Bool) : (((if c then 1 else 0 : Nat) : Int) == ((if d then 1 else 0 : Nat) : Int)) = (c == d) := by cases c <;> cases d <;> rfl
theorem spec_l3Cube_eq (N : Nat) (hN : 64 < N) (n w m v : Nat) (hn : n ≤ 5) (hw : w < 4294967296) (hm : m < 4294967296) (k : Int → Option β) :
    spec_l3Cube N (n : Int) (w : Int) (m : Int) (v : Int) k = k (cres (sc w m v false (2 ^ n)) (sc w m v true (2 ^ n))) := by
  have hs := size_le hn
  unfold spec_l3Cube
  have key : ∀ (F x : Nat), 2 ^ n - x < F → x ≤ 2 ^ n → (sc w m v false x && sc w m v true x) = false →
      spec_l3Cube_l0 N F (m : Int) (v : Int) (cres (sc w m v false x) (sc w m v true x)) (x : Int) (n : Int) (w : Int) k k = k (cres (sc w m v false (2 ^ n)) (sc w m v true (2 ^ n))) := by
    intro F
    induction F with
    | zero => intro x h; omega
    | succ F ih =>
      intro x hF hx hno
      simp only [spec_l3Cube_l0, spec_l3Cube_l0b]
      rw [gd_true (decide_eq_true (by omega : (0 : Int) ≤ (n : Int))), shl_one n (by omega)]
      by_cases hlt : x < 2 ^ n
      · rw [decide_eq_true (by omega : (x : Int) < ((2 ^ n : Nat) : Int)), cond_true, bAnd x m (by omega) (by omega), bit_at w x (by omega), w64_succ x (by omega), gd_true (decide_eq_true (by omega : (0 : Int) ≤ (x : Int)))]
        have e0 : (((x &&& m : Nat) : Int) != (v : Int)) = !(x &&& m == v) := by
          rw [bne, Bool.eq_iff_iff]
          simp only [Bool.not_eq_true', beq_eq_false_iff_ne, ne_eq]
          omega
        rw [e0]
        have ih' := ih (x + 1) (by omega) (by omega)
        have s0 : ∀ b, sc w m v b (x + 1) = (sc w m v b x || (x &&& m == v && w.testBit x == b)) := fun _ => rfl
        rw [s0, s0] at ih'
        cases hv : (x &&& m == v) with
        | false =>
          rw [hv] at ih'
          simp only [Bool.false_and, Bool.or_false] at ih'
          rw [Bool.not_false, cond_true]
          exact ih' hno
        | true =>
          rw [hv] at ih'
          simp only [Bool.true_and] at ih'
          rw [Bool.not_true, cond_false]
          have both : sc w m v false (x + 1) = true → sc w m v true (x + 1) = true → cres (sc w m v false (2 ^ n)) (sc w m v true (2 ^ n)) = 2 := fun h1 h2 => by
            have h3 := sc_mono w m v false (x + 1) h1 (2 ^ n - (x + 1))
            have h4 := sc_mono w m v true (x + 1) h2 (2 ^ n - (x + 1))
            rw [show x + 1 + (2 ^ n - (x + 1)) = 2 ^ n by omega] at h3 h4
            rw [h3, h4]
            rfl
          rw [s0, s0, hv] at both
          simp only [Bool.true_and] at both
          generalize cres (sc w m v false (2 ^ n)) (sc w m v true (2 ^ n)) = R at ih' both ⊢
          cases h0 : sc w m v false x <;> cases h1 : sc w m v true x <;> cases hb : w.testBit x <;> rw [h0, h1] at hno <;> simp only [h0, h1, hb] at ih' both <;> simp [cres] at hno ih' both ⊢ <;> first | exact ih' | (rw [both]) | (cases hno)
      · rw [decide_eq_false (by omega : ¬ (x : Int) < ((2 ^ n : Nat) : Int)), cond_false, show x = 2 ^ n by omega]
  exact key N 0 (by omega) (Nat.zero_le _) rfl

theorem impl_cube_eq (N : Nat) (hN : 64 < N) (n w m v : Nat) (hn : n ≤ 5) (hw : w < 4294967296) (hm : m < 4294967296) (k : Int → Option β) :
    impl_Table_cube N (n : Int) (w : Int) (m : Int) (v : Int) k = k (cond (sc w m v false (2 ^ n)) (cond (sc w m v true (2 ^ n)) 2 0) (cond (sc w m v true (2 ^ n)) 1 0)) := by
  have hs := size_le hn
  unfold impl_Table_cube impl_Table_size
  rw [gd_true (decide_eq_true (by omega : (0 : Int) ≤ (n : Int))), shl_one n (by omega)]
  have key : ∀ (K : Bool → Bool → Option β) (F x : Nat), 2 ^ n - x < F → x ≤ 2 ^ n →
      impl_Table_cube_l0 N F (m : Int) (v : Int) ((2 ^ n : Nat) : Int) (x : Int) (n : Int) (w : Int) (sc w m v false x) (sc w m v true x) K = K (sc w m v false (2 ^ n)) (sc w m v true (2 ^ n)) := by
    intro K F
    induction F with
    | zero => intro x h; omega
    | succ F ih =>
      intro x hF hx
      simp only [impl_Table_cube_l0, impl_Table_cube_l0b, impl_Table_at]
      by_cases hlt : x < 2 ^ n
      · rw [decide_eq_true (by omega : (x : Int) < ((2 ^ n : Nat) : Int)), cond_true, bAnd x m (by omega) (by omega), bit_at w x (by omega), w64_succ x (by omega), gd_true (decide_eq_true (by omega : (0 : Int) ≤ (x : Int)))]
        have e0 : (((x &&& m : Nat) : Int) == (v : Int)) = (x &&& m == v) := by
          rw [Bool.eq_iff_iff, beq_iff_eq, beq_iff_eq]
          omega
        rw [e0]
        have ih' := ih (x + 1) (by omega) (by omega)
        have s0 : ∀ b, sc w m v b (x + 1) = (sc w m v b x || (x &&& m == v && w.testBit x == b)) := fun _ => rfl
        rw [s0, s0] at ih'
        cases hv : (x &&& m == v) with
        | false =>
          rw [hv] at ih'
          simp only [Bool.false_and, Bool.or_false] at ih'
          exact ih'
        | true =>
          rw [hv] at ih'
          simp only [Bool.true_and] at ih'
          cases hb : w.testBit x with
          | false =>
            rw [hb] at ih'
            simpa [gd] using ih'
          | true =>
            rw [hb] at ih'
            simpa [gd] using ih'
      · rw [decide_eq_false (by omega : ¬ (x : Int) < ((2 ^ n : Nat) : Int)), cond_false, show x = 2 ^ n by omega]
  have := key (fun e7_0 e7_1 => cond e7_0 (cond e7_1 (k 2) (cond e7_1 (k 1) (k 0))) (cond e7_1 (k 1) (k 0))) N 0 (by omega) (Nat.zero_le _)
  simp only [sc, Int.natCast_zero] at this
  refine this.trans ?_
  cases sc w m v false (2 ^ n) <;> cases sc w m v true (2 ^ n) <;> rfl

/-- The least certificate, as far as looked. -/
def cert (w n x : Nat) : Nat → Nat
  | 0 => 2 ^ n - 1
  | m + 1 => if decide (ones m < ones (cert w n x m)) && !bothV w n m (x &&& m) then m else cert w n x m
theorem cert_lt (w n x : Nat) : ∀ m, m ≤ 2 ^ n → cert w n x m < 2 ^ n
  | 0, _ => Nat.sub_lt (Nat.two_pow_pos n) (by decide)
  | m + 1, h => by
    have := cert_lt w n x m (by omega)
    simp only [cert]
    split <;> omega
theorem spec_l9Set_eq (N : Nat) (hN : 64 < N) (n w x : Nat) (hn : n ≤ 5) (hw : w < 2 ^ 2 ^ n) (hx : x < 2 ^ n) (k : Int → Option β) : spec_l9Set N (n : Int) (w : Int) (x : Int) k = k (cert w n x (2 ^ n) : Int) := by
  have hw' := two32 hn hw
  have hs := size_le hn
  have hpos := Nat.two_pow_pos n
  unfold spec_l9Set
  rw [gd_true (decide_eq_true (by omega : (0 : Int) ≤ (n : Int))), shl_one n (by omega), show ((2 ^ n : Nat) : Int) - 1 = ((2 ^ n - 1 : Nat) : Int) by omega, w64_nat _ (by omega)]
  have key : ∀ (F m : Nat), 2 ^ n - m < F → m ≤ 2 ^ n → spec_l9Set_l0 N F (x : Int) (cert w n x m : Int) (m : Int) (n : Int) (w : Int) k = k (cert w n x (2 ^ n) : Int) := by
    intro F
    induction F with
    | zero => intro m h; omega
    | succ F ih =>
      intro m hF hm
      have hc := cert_lt w n x m hm
      simp only [spec_l9Set_l0, spec_l9Set_l0b]
      rw [gd_true (decide_eq_true (by omega : (0 : Int) ≤ (n : Int))), shl_one n (by omega)]
      by_cases hlt : m < 2 ^ n
      · rw [decide_eq_true (by omega : (m : Int) < ((2 ^ n : Nat) : Int)), cond_true, spec_l2Count_eq N m hN (by omega), spec_l2Count_eq N _ hN (by omega), bAnd x m (by omega) (by omega), spec_l3Cube_eq N hN n w m _ hn hw' (by omega), w64_succ m (by omega)]
        have h1 := ih (m + 1) (by omega) (by omega)
        simp only [cert] at h1
        have e : decide (cres (sc w m (x &&& m) false (2 ^ n)) (sc w m (x &&& m) true (2 ^ n)) < 2) = !bothV w n m (x &&& m) := by
          unfold bothV
          cases sc w m (x &&& m) false (2 ^ n) <;> cases sc w m (x &&& m) true (2 ^ n) <;> rfl
        rw [e]
        by_cases ho : ones m < ones (cert w n x m)
        · rw [decide_eq_true (by omega : ((ones m : Nat) : Int) < (ones (cert w n x m) : Int)), cond_true]
          rw [decide_eq_true ho, Bool.true_and] at h1
          cases hm2 : bothV w n m (x &&& m) with
          | true => rw [hm2] at h1; exact h1
          | false => rw [hm2] at h1; exact h1
        · rw [decide_eq_false (by omega : ¬ ((ones m : Nat) : Int) < (ones (cert w n x m) : Int)), cond_false]
          rw [decide_eq_false ho, Bool.false_and] at h1
          exact h1
      · rw [decide_eq_false (by omega : ¬ (m : Int) < ((2 ^ n : Nat) : Int)), cond_false, show m = 2 ^ n by omega]
  exact key N 0 (by omega) (Nat.zero_le _)
theorem impl_certificate_eq (N : Nat) (hN : 64 < N) (n w x : Nat) (hn : n ≤ 5) (hw : w < 2 ^ 2 ^ n) (hx : x < 2 ^ n) (k : Int → Option β) : impl_Table_certificate N (n : Int) (w : Int) (x : Int) k = k (cert w n x (2 ^ n) : Int) := by
  have hw' := two32 hn hw
  have hs := size_le hn
  have hpos := Nat.two_pow_pos n
  unfold impl_Table_certificate impl_Table_size
  rw [gd_true (decide_eq_true (by omega : (0 : Int) ≤ (n : Int))), shl_one n (by omega)]
  show gd (decide ((0 : Int) ≤ (n : Int))) (impl_Table_certificate_l0 N N (x : Int) (w64 (((2 ^ n : Nat) : Int) - 1)) ((2 ^ n : Nat) : Int) 0 (n : Int) (w : Int) k) = _
  rw [gd_true (decide_eq_true (by omega : (0 : Int) ≤ (n : Int))), show ((2 ^ n : Nat) : Int) - 1 = ((2 ^ n - 1 : Nat) : Int) by omega, w64_nat _ (by omega)]
  have key : ∀ (F m : Nat), 2 ^ n - m < F → m ≤ 2 ^ n → impl_Table_certificate_l0 N F (x : Int) (cert w n x m : Int) ((2 ^ n : Nat) : Int) (m : Int) (n : Int) (w : Int) k = k (cert w n x (2 ^ n) : Int) := by
    intro F
    induction F with
    | zero => intro m h; omega
    | succ F ih =>
      intro m hF hm
      have hc := cert_lt w n x m hm
      simp only [impl_Table_certificate_l0, impl_Table_certificate_l0b, impl_Table_certifies]
      by_cases hlt : m < 2 ^ n
      · rw [decide_eq_true (by omega : (m : Int) < ((2 ^ n : Nat) : Int)), cond_true, impl_ones_eq N m (by omega), impl_ones_eq N _ (by omega), bAnd x m (by omega) (by omega), impl_cube_eq N hN n w m _ hn hw' (by omega), w64_succ m (by omega)]
        have h1 := ih (m + 1) (by omega) (by omega)
        simp only [cert] at h1
        have e : ((cond (sc w m (x &&& m) false (2 ^ n)) (cond (sc w m (x &&& m) true (2 ^ n)) (2 : Int) 0) (cond (sc w m (x &&& m) true (2 ^ n)) 1 0)) != 2) = !bothV w n m (x &&& m) := by
          unfold bothV
          cases sc w m (x &&& m) false (2 ^ n) <;> cases sc w m (x &&& m) true (2 ^ n) <;> rfl
        rw [e]
        by_cases ho : ones m < ones (cert w n x m)
        · rw [decide_eq_true (by omega : ((ones m : Nat) : Int) < (ones (cert w n x m) : Int)), cond_true]
          rw [decide_eq_true ho, Bool.true_and] at h1
          cases hm2 : bothV w n m (x &&& m) with
          | true => rw [hm2] at h1; exact h1
          | false => rw [hm2] at h1; exact h1
        · rw [decide_eq_false (by omega : ¬ ((ones m : Nat) : Int) < (ones (cert w n x m) : Int)), cond_false]
          rw [decide_eq_false ho, Bool.false_and] at h1
          exact h1
      · rw [decide_eq_false (by omega : ¬ (m : Int) < ((2 ^ n : Nat) : Int)), cond_false, show m = 2 ^ n by omega]
  exact key N 0 (by omega) (Nat.zero_le _)
/-- How great the certificates of a value's inputs are. -/
def certOf (w n : Nat) (b : Bool) : Nat := mx (fun x => if w.testBit x == b then ones (cert w n x (2 ^ n)) else 0) (2 ^ n)
theorem certOf_le (w n : Nat) (b : Bool) : certOf w n b ≤ 32 := mx_le _ _ _ fun x _ => by
  show (if w.testBit x == b then ones (cert w n x (2 ^ n)) else 0) ≤ 32
  have := ones_le (cert w n x (2 ^ n))
  split <;> omega
theorem isIn_of {n w x : Nat} (hn : n ≤ 5) (hw : w < 2 ^ 2 ^ n) (hx : x < 2 ^ n) : isIn (n : Int) (w : Int) (x : Int) = true := by
  simp only [isIn, isT_of hn hw, Bool.true_and, Bool.and_eq_true, decide_eq_true_eq, Int.toNat_natCast]
  exact ⟨by omega, by exact_mod_cast hx⟩
theorem spec_CertificateOf_eq (N : Nat) (hN : 64 < N) (n w : Nat) (hn : n ≤ 5) (hw : w < 2 ^ 2 ^ n) (b : Bool) (k : Int → Option β) : spec_CertificateOf N (n : Int) (w : Int) ((if b then 1 else 0 : Nat) : Int) k = k (certOf w n b : Int) := by
  have hw' := two32 hn hw
  have hs := size_le hn
  have hbit : ((if b then 1 else 0 : Nat) : Int) = 0 ∨ ((if b then 1 else 0 : Nat) : Int) = 1 := by cases b <;> simp
  unfold spec_CertificateOf
  rw [spec_IsTable_eq, isT_of hn hw, spec_l1In_eq, decide_eq_true (by omega : (0 : Int) ≤ ((if b then 1 else 0 : Nat) : Int)), decide_eq_true (by omega : ((if b then 1 else 0 : Nat) : Int) ≤ 1)]
  simp only [Bool.not_true, cond_false, Bool.and_self]
  have key : ∀ (F x : Nat), 2 ^ n - x < F → x ≤ 2 ^ n → spec_CertificateOf_l0 N F ((if b then 1 else 0 : Nat) : Int) (mx (fun x => if w.testBit x == b then ones (cert w n x (2 ^ n)) else 0) x : Int) (x : Int) (n : Int) (w : Int) k = k (certOf w n b : Int) := by
    intro F
    induction F with
    | zero => intro x h; omega
    | succ F ih =>
      intro x hF hx
      simp only [spec_CertificateOf_l0, spec_CertificateOf_l0b, spec_CertificateAt]
      rw [gd_true (decide_eq_true (by omega : (0 : Int) ≤ (n : Int))), shl_one n (by omega)]
      by_cases hlt : x < 2 ^ n
      · have hc := cert_lt w n x (2 ^ n) (Nat.le_refl _)
        rw [decide_eq_true (by omega : (x : Int) < ((2 ^ n : Nat) : Int)), cond_true, gd_true (decide_eq_true (by omega : (0 : Int) ≤ (x : Int))), bit_at w x (by omega), bit_ne, spec_l9In_eq, isIn_of hn hw hlt, Bool.not_true, cond_false, spec_l9Set_eq N hN n w x hn hw hlt, spec_l2Count_eq N _ hN (by omega), mxI_nat, w64_succ x (by omega)]
        have h1 := ih (x + 1) (by omega) (by omega)
        simp only [mx] at h1
        cases he : w.testBit x == b with
        | true => rw [he] at h1; exact h1
        | false => rw [he] at h1; simpa using h1
      · rw [decide_eq_false (by omega : ¬ (x : Int) < ((2 ^ n : Nat) : Int)), cond_false, show x = 2 ^ n by omega]
        rfl
  exact key N 0 (by omega) (Nat.zero_le _)
theorem impl_CertificateOf_eq (N : Nat) (hN : 64 < N) (n w : Nat) (hn : n ≤ 5) (hw : w < 2 ^ 2 ^ n) (b : Bool) (k : Int → Option β) : impl_CertificateOf N (n : Int) (w : Int) ((if b then 1 else 0 : Nat) : Int) k = k (certOf w n b : Int) := by
  have hw' := two32 hn hw
  have hs := size_le hn
  have hbit : ((if b then 1 else 0 : Nat) : Int) = 0 ∨ ((if b then 1 else 0 : Nat) : Int) = 1 := by cases b <;> simp
  unfold impl_CertificateOf impl_Table_size
  rw [impl_IsTable_eq N _ _ (by omega), isT_of hn hw, impl_isBit_eq, decide_eq_true (by omega : (0 : Int) ≤ ((if b then 1 else 0 : Nat) : Int)), decide_eq_true (by omega : ((if b then 1 else 0 : Nat) : Int) ≤ 1)]
  simp only [Bool.not_true, cond_false, Bool.and_self]
  rw [gd_true (decide_eq_true (by omega : (0 : Int) ≤ (n : Int))), shl_one n (by omega)]
  have key : ∀ (F x : Nat), 2 ^ n - x < F → x ≤ 2 ^ n → impl_CertificateOf_l0 N F ((if b then 1 else 0 : Nat) : Int) (mx (fun x => if w.testBit x == b then ones (cert w n x (2 ^ n)) else 0) x : Int) ((2 ^ n : Nat) : Int) (x : Int) (n : Int) (w : Int) k = k (certOf w n b : Int) := by
    intro F
    induction F with
    | zero => intro x h; omega
    | succ F ih =>
      intro x hF hx
      simp only [impl_CertificateOf_l0, impl_CertificateOf_l0b, impl_Table_at]
      by_cases hlt : x < 2 ^ n
      · have hc := cert_lt w n x (2 ^ n) (Nat.le_refl _)
        rw [decide_eq_true (by omega : (x : Int) < ((2 ^ n : Nat) : Int)), cond_true, gd_true (decide_eq_true (by omega : (0 : Int) ≤ (x : Int))), bit_at w x (by omega), bit_ne, impl_certificate_eq N hN n w x hn hw hlt, impl_ones_eq N _ (by omega), mxI_nat, w64_succ x (by omega)]
        have h1 := ih (x + 1) (by omega) (by omega)
        simp only [mx] at h1
        cases he : w.testBit x == b with
        | true => rw [he] at h1; exact h1
        | false => rw [he] at h1; simpa using h1
      · rw [decide_eq_false (by omega : ¬ (x : Int) < ((2 ^ n : Nat) : Int)), cond_false, show x = 2 ^ n by omega]
        rfl
  exact key N 0 (by omega) (Nat.zero_le _)
end Go.Proofs.Ytdkjnadhgdneaaa
