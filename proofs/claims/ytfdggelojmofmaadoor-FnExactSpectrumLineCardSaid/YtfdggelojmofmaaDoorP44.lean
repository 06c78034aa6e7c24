/- Spectra: both texts reckon the same sums of signs. -/
import Derived.Test.YtfdggelojmofmaaDoorP40
namespace Go.Proofs.YtfdggelojmofmaaDoor
open Go.Rv
variable {β : Type}
/-- A loop that counts up. -/
theorem loop_st (g : Nat → Nat → Option β) (m : Nat) (r : Option β) (hs : ∀ F i, i < m → g (F + 1) i = g F (i + 1)) (he : ∀ F, g (F + 1) m = r) :
    ∀ (F i : Nat), i ≤ m → m - i < F → g F i = r := by
  intro F
  induction F with
  | zero => intro i _ h; omega
  | succ F ih =>
    intro i hi hF
    rcases Nat.lt_or_ge i m with h | h
    · rw [hs F i h]; exact ih (i + 1) h (by omega)
    · have : i = m := by omega
      subst this; exact he F

/-- A loop that counts up from a place. -/
theorem loop_from (g : Nat → Nat → Option β) (i0 m : Nat) (r : Option β) (hs : ∀ F i, i0 ≤ i → i < m → g (F + 1) i = g F (i + 1)) (he : ∀ F, g (F + 1) m = r) :
    ∀ (F i : Nat), i0 ≤ i → i ≤ m → m - i < F → g F i = r := by
  intro F
  induction F with
  | zero => intro i _ _ h; omega
  | succ F ih =>
    intro i h0 hi hF
    rcases Nat.lt_or_ge i m with h | h
    · rw [hs F i h0 h]; exact ih (i + 1) (by omega) h (by omega)
    · have : i = m := by omega
      subst this; exact he F

def sumTo (h : Nat → Int) : Nat → Int
  | 0 => 0
  | m + 1 => sumTo h m + h m
theorem sumTo_le (h : Nat → Int) (hb : ∀ i, -1 ≤ h i ∧ h i ≤ 1) : ∀ m : Nat, -(m : Int) ≤ sumTo h m ∧ sumTo h m ≤ (m : Int)
  | 0 => by simp [sumTo]
  | m + 1 => by have := sumTo_le h hb m; have := hb m; simp only [sumTo]; omega

def sg (m : Nat) : Int := if m % 2 = 1 then -1 else 1
theorem sg_add (a b : Nat) : sg (a + b) = sg a * sg b := by
  unfold sg
  rcases Nat.mod_two_eq_zero_or_one a with h1 | h1 <;> rcases Nat.mod_two_eq_zero_or_one b with h2 | h2 <;> simp [h1, h2, Nat.add_mod]
theorem sg_range (a b : Nat) : -1 ≤ sg a * sg b ∧ sg a * sg b ≤ 1 := by
  rw [← sg_add]
  unfold sg
  split <;> simp
def bw (w x : Nat) : Nat := if w.testBit x then 1 else 0
theorem ones_bw (w x : Nat) : ones (bw w x) = bw w x := by
  unfold bw
  split <;> rfl
theorem bw_le (w x : Nat) : bw w x ≤ 1 := by unfold bw; split <;> omega

theorem spec_l12Sign_eq (N w : Nat) (hN : 64 < N) (hw : w < 4294967296) (k : Int → Option β) : spec_l12Sign N (w : Int) k = k (sg (ones w)) := by
  unfold spec_l12Sign
  rw [spec_l2Count_eq N w hN hw]
  have e : remI (ones w : Int) 2 = ((ones w % 2 : Nat) : Int) := rfl
  rw [e]
  unfold sg
  rcases Nat.mod_two_eq_zero_or_one (ones w) with h | h <;> rw [h] <;> rfl
theorem impl_sign_eq (N m : Nat) (hm : m < 4294967296) (k : Int → Option β) : impl_sign N (m : Int) k = k (sg m) := by
  unfold impl_sign
  rw [show (1 : Int) = ((1 : Nat) : Int) from rfl, bAnd m 1 (by omega) (by omega), Nat.and_one_is_mod]
  unfold sg
  rcases Nat.mod_two_eq_zero_or_one m with h | h <;> rw [h] <;> rfl

/-- The term of a set and an input. -/
def tm (w u x : Nat) : Int := sg (bw w x) * sg (ones (u &&& x))
theorem tm_range (w u x : Nat) : -1 ≤ tm w u x ∧ tm w u x ≤ 1 := sg_range _ _
def sps (w n m : Nat) : List Int := (List.range m).map fun u => sumTo (tm w u) (2 ^ n)
theorem sps_len (w n m : Nat) : (sps w n m).length = m := by simp [sps]
theorem sps_succ (w n m : Nat) : sps w n (m + 1) = sps w n m ++ [sumTo (tm w m) (2 ^ n)] := by simp [sps, List.range_succ]
theorem isTn {n w : Nat} (hn : n ≤ 5) (hw : w < 2 ^ 2 ^ n) : isT (n : Int) (w : Int) = true := by
  have h4 : ((w : Nat) : Int) < 2 ^ 2 ^ n := by exact_mod_cast hw
  simp only [isT, Bool.and_eq_true, decide_eq_true_eq, Int.toNat_natCast]
  exact ⟨⟨⟨by omega, by omega⟩, by omega⟩, h4⟩
theorem w_small {n w : Nat} (hn : n ≤ 5) (hw : w < 2 ^ 2 ^ n) : w < 4294967296 :=
  Nat.lt_of_lt_of_le hw (Nat.le_trans (Nat.pow_le_pow_right (by decide) (size_le hn)) (by decide))

theorem spec_spec_inner (N n w u : Nat) (hN : 64 < N) (hn : n ≤ 5) (hw : w < 2 ^ 2 ^ n) (hu : u < 2 ^ n) (L : List Int) (k0 : Int → Int → Int → Int → List Int → Option β) :
    spec_SpectrumOf_l2 N N (u : Int) 0 0 (n : Int) (w : Int) L k0 = k0 (u : Int) (sumTo (tm w u) (2 ^ n)) (n : Int) (w : Int) L := by
  have hw' := w_small hn hw
  have hs := size_le hn
  have hz : (0 : Int) ≤ ((2 ^ n : Nat) : Int) := Int.natCast_nonneg _
  refine loop_st (fun F x => spec_SpectrumOf_l2 N F (u : Int) (sumTo (tm w u) x) (x : Int) (n : Int) (w : Int) L k0) (2 ^ n) _ (fun F x hx => ?_) (fun F => ?_) N 0 (by omega) (by omega)
  · simp only [spec_SpectrumOf_l2, spec_SpectrumOf_l2b]
    rw [gd_true (decide_eq_true (by omega)), shl_one n (by omega), decide_eq_true (by omega), cond_true, gd_true (decide_eq_true (by omega)), bit_at w x (by omega)]
    rw [show ((if w.testBit x then 1 else 0 : Nat) : Int) = (bw w x : Int) by rfl, spec_l12Sign_eq N _ hN (by have := bw_le w x; omega), ones_bw]
    rw [bAnd u x (by omega) (by omega), spec_l12Sign_eq N _ hN (Nat.lt_of_le_of_lt Nat.and_le_left (by omega))]
    have h1 := sumTo_le (tm w u) (tm_range w u) x
    have h2 := tm_range w u x
    rw [show sg (bw w x) * sg (ones (u &&& x)) = tm w u x from rfl, w64_id (x := tm w u x) (by omega) (by omega), w64_id (by omega) (by omega), w64_succ x (by omega)]
    rfl
  · simp only [spec_SpectrumOf_l2, spec_SpectrumOf_l2b]
    rw [gd_true (decide_eq_true (by omega)), shl_one n (by omega), decide_eq_false (by omega), cond_false]

theorem spec_SpectrumOf_n (N n w : Nat) (hN : 64 < N) (hn : n ≤ 5) (hw : w < 2 ^ 2 ^ n) (k : List Int → Option β) : spec_SpectrumOf N (n : Int) (w : Int) k = k (sps w n (2 ^ n)) := by
  have hs := size_le hn
  have hz : (0 : Int) ≤ ((2 ^ n : Nat) : Int) := Int.natCast_nonneg _
  refine loop_st (fun F u => spec_SpectrumOf_l0 N F (u : Int) (n : Int) (w : Int) (sps w n u) fun e => k e) (2 ^ n) _ (fun F u hu => ?_) (fun F => ?_) N 0 (by omega) (by omega)
  · simp only [spec_SpectrumOf_l0, spec_SpectrumOf_l0b]
    rw [spec_IsTable_eq, isTn hn hw, cond_true, gd_true (decide_eq_true (by omega)), shl_one n (by omega), decide_eq_true (by omega), cond_true, spec_spec_inner N n w u hN hn hw hu]
    rw [gd_true (decide_eq_true (by simp [sps_len]; omega)), w64_succ u (by omega), sps_succ]
    rfl
  · simp only [spec_SpectrumOf_l0, spec_SpectrumOf_l0b]
    rw [spec_IsTable_eq, isTn hn hw, cond_true, gd_true (decide_eq_true (by omega)), shl_one n (by omega), decide_eq_false (by omega), cond_false]

theorem rd_mid (p : List Int) (y : Int) (r : List Int) : rd 0 (p ++ y :: r) (p.length : Int) = y := by
  simp [rd, List.getD]
theorem wr_mid {α : Type} (p : List α) (y z : α) (r : List α) : wr (p ++ y :: r) (p.length : Int) z = p ++ z :: r := by
  simp [wr]

theorem impl_Table_size_eq (N n : Nat) (w : Int) (hn : n ≤ 5) (k : Int → Option β) : impl_Table_size N (n : Int) w k = k ((2 ^ n : Nat) : Int) := by
  unfold impl_Table_size
  rw [gd_true (decide_eq_true (by omega)), shl_one n (by omega)]
theorem impl_Table_at_eq (N w x : Nat) (n : Int) (hw : w < 4294967296) (k : Int → Option β) : impl_Table_at N n (w : Int) (x : Int) k = k (bw w x : Int) := by
  unfold impl_Table_at
  rw [gd_true (decide_eq_true (by omega)), bit_at w x (by omega)]
  rfl

theorem impl_spec_inner (N n w u : Nat) (hN : 64 < N) (hn : n ≤ 5) (hw : w < 2 ^ 2 ^ n) (hu : u < 2 ^ n) (p r : List Int) (hp : p.length = u) (c1 c2 : Int) (k0 : Int → Int → Int → Int → List Int → Option β) :
    impl_Table_spectrum_l2 N N (u : Int) c1 c2 ((2 ^ n : Nat) : Int) 0 (n : Int) (w : Int) (p ++ 0 :: r) k0 = k0 c1 c2 (n : Int) (w : Int) (p ++ sumTo (tm w u) (2 ^ n) :: r) := by
  have hw' := w_small hn hw
  have hs := size_le hn
  have hz : (0 : Int) ≤ ((2 ^ n : Nat) : Int) := Int.natCast_nonneg _
  refine loop_st (fun F x => impl_Table_spectrum_l2 N F (u : Int) c1 c2 ((2 ^ n : Nat) : Int) (x : Int) (n : Int) (w : Int) (p ++ sumTo (tm w u) x :: r) k0) (2 ^ n) _ (fun F x hx => ?_) (fun F => ?_) N 0 (by omega) (by omega)
  · simp only [impl_Table_spectrum_l2, impl_Table_spectrum_l2b]
    have hg : decide ((u : Int) < ((p ++ sumTo (tm w u) x :: r).length : Int)) = true := decide_eq_true (by simp; omega)
    rw [decide_eq_true (by omega), cond_true, gd_true (decide_eq_true (by omega)), gd_true hg, impl_Table_at_eq N w x _ hw', bAnd u x (by omega) (by omega), impl_ones_eq N _ (Nat.lt_of_le_of_lt Nat.and_le_left (by omega))]
    have hb := bw_le w x
    have ho := ones_le (u &&& x)
    rw [← Int.natCast_add, w64_nat _ (by omega), impl_sign_eq N _ (by omega), gd_true (decide_eq_true (by omega)), gd_true hg, sg_add]
    have h1 := sumTo_le (tm w u) (tm_range w u) x
    have h2 := tm_range w u x
    rw [show sg (bw w x) * sg (ones (u &&& x)) = tm w u x from rfl, ← hp, rd_mid, wr_mid, hp, w64_id (x := sumTo (tm w u) x + tm w u x) (by omega) (by omega), w64_succ x (by omega)]
    rfl
  · simp only [impl_Table_spectrum_l2, impl_Table_spectrum_l2b]
    rw [decide_eq_false (by omega), cond_false]

theorem impl_spectrum_n (N n w : Nat) (hN : 64 < N) (hn : n ≤ 5) (hw : w < 2 ^ 2 ^ n) (k : List Int → Option β) : impl_Table_spectrum N (n : Int) (w : Int) k = k (sps w n (2 ^ n)) := by
  have hs := size_le hn
  have hz : (0 : Int) ≤ ((2 ^ n : Nat) : Int) := Int.natCast_nonneg _
  unfold impl_Table_spectrum
  rw [impl_Table_size_eq N n _ hn, gd_true (decide_eq_true (by omega)), gd_true (decide_eq_true (by omega)), gd_true (decide_eq_true (by omega)), Int.toNat_natCast, List.length_replicate]
  have := loop_st (fun F u => impl_Table_spectrum_l0 N F ((2 ^ n : Nat) : Int) (u : Int) (n : Int) (w : Int) (sps w n u ++ List.replicate (2 ^ n - u) 0) fun e => k e) (2 ^ n) (k (sps w n (2 ^ n))) (fun F u hu => ?_) (fun F => ?_) N 0 (by omega) (by omega)
  · simpa [sps] using this
  · simp only [impl_Table_spectrum_l0, impl_Table_spectrum_l0b]
    rw [decide_eq_true (by omega), cond_true, impl_Table_size_eq N n _ hn, show 2 ^ n - u = (2 ^ n - (u + 1)) + 1 by omega, List.replicate_succ]
    rw [impl_spec_inner N n w u hN hn hw hu _ _ (sps_len w n u), w64_succ u (by omega), sps_succ]
    simp
  · simp only [impl_Table_spectrum_l0, impl_Table_spectrum_l0b]
    rw [decide_eq_false (by omega), cond_false]
    simp

/-! ### Energies -/
def en (l z : List Int) : Nat → List Int
  | 0 => z
  | i + 1 => wr (en l z i) (ones i : Int) (w64 (rd 0 (en l z i) (ones i : Int) + w64 (rd 0 l (i : Int) * rd 0 l (i : Int))))
theorem en_len (l z : List Int) : ∀ i, (en l z i).length = z.length
  | 0 => rfl
  | i + 1 => by simp [en, wr, en_len l z i]
theorem ones_small : ∀ n, n ≤ 5 → ∀ i, i < 2 ^ n → ones i ≤ n := by decide +kernel

theorem spec_EnergyByLevel_n (N n w : Nat) (hN : 64 < N) (hn : n ≤ 5) (hw : w < 2 ^ 2 ^ n) (k : List Int → Option β) : spec_EnergyByLevel N (n : Int) (w : Int) k = k (en (sps w n (2 ^ n)) (List.replicate (n + 1) 0) (2 ^ n)) := by
  have hs := size_le hn
  have hz : (0 : Int) ≤ ((2 ^ n : Nat) : Int) := Int.natCast_nonneg _
  unfold spec_EnergyByLevel
  rw [spec_IsTable_eq, isTn hn hw]
  simp only [Bool.not_true, cond_false]
  rw [show w64 ((n : Int) + 1) = ((n + 1 : Nat) : Int) by rw [w64_succ n (by omega)], gd_true (decide_eq_true (by omega)), gd_true (decide_eq_true (by omega)), gd_true (decide_eq_true (by omega)), spec_SpectrumOf_n N n w hN hn hw, Int.toNat_natCast]
  refine loop_st (fun F u => spec_EnergyByLevel_l0 N F (u : Int) (en (sps w n (2 ^ n)) (List.replicate (n + 1) 0) u) (sps w n (2 ^ n)) fun e => k e) (2 ^ n) _ (fun F u hu => ?_) (fun F => ?_) N 0 (by omega) (by omega)
  · simp only [spec_EnergyByLevel_l0, spec_EnergyByLevel_l0b, sps_len, en_len, List.length_replicate]
    have ho := ones_small n hn u hu
    rw [decide_eq_true (show (u : Int) < ((2 ^ n : Nat) : Int) by omega), cond_true, decide_eq_true (show (0 : Int) ≤ (u : Int) by omega)]
    simp only [gd, cond_true]
    rw [spec_l2Count_eq N u hN (by omega), spec_l2Count_eq N u hN (by omega), decide_eq_true (show (0 : Int) ≤ (ones u : Int) by omega), decide_eq_true (show (ones u : Int) < ((n + 1 : Nat) : Int) by omega), w64_succ u (by omega)]
    rfl
  · simp only [spec_EnergyByLevel_l0, spec_EnergyByLevel_l0b, sps_len]
    rw [decide_eq_false (by omega), cond_false]
theorem impl_EnergyByLevel_n (N n w : Nat) (hN : 64 < N) (hn : n ≤ 5) (hw : w < 2 ^ 2 ^ n) (k : List Int → Option β) : impl_EnergyByLevel N (n : Int) (w : Int) k = k (en (sps w n (2 ^ n)) (List.replicate (n + 1) 0) (2 ^ n)) := by
  have hs := size_le hn
  have hz : (0 : Int) ≤ ((2 ^ n : Nat) : Int) := Int.natCast_nonneg _
  have hw' := w_small hn hw
  unfold impl_EnergyByLevel
  rw [impl_IsTable_eq N _ _ (by omega), isTn hn hw]
  simp only [Bool.not_true, cond_false]
  rw [show w64 ((n : Int) + 1) = ((n + 1 : Nat) : Int) by rw [w64_succ n (by omega)], gd_true (decide_eq_true (by omega)), gd_true (decide_eq_true (by omega)), gd_true (decide_eq_true (by omega)), impl_spectrum_n N n w hN hn hw, Int.toNat_natCast, sps_len]
  refine loop_st (fun F u => impl_EnergyByLevel_l0 N F ((2 ^ n : Nat) : Int) (u : Int) (en (sps w n (2 ^ n)) (List.replicate (n + 1) 0) u) (sps w n (2 ^ n)) fun e => k e) (2 ^ n) _ (fun F u hu => ?_) (fun F => ?_) N 0 (by omega) (by omega)
  · simp only [impl_EnergyByLevel_l0, impl_EnergyByLevel_l0b, sps_len, en_len, List.length_replicate]
    have ho := ones_small n hn u hu
    rw [decide_eq_true (show (u : Int) < ((2 ^ n : Nat) : Int) by omega), cond_true, decide_eq_true (show (0 : Int) ≤ (u : Int) by omega)]
    simp only [gd, cond_true]
    rw [impl_ones_eq N u (by omega), decide_eq_true (show (0 : Int) ≤ (ones u : Int) by omega), decide_eq_true (show (ones u : Int) < ((n + 1 : Nat) : Int) by omega), w64_succ u (by omega)]
    rfl
  · simp only [impl_EnergyByLevel_l0, impl_EnergyByLevel_l0b]
    rw [decide_eq_false (by omega), cond_false]

/-! ### Nonlinearity -/
def pk (l : List Int) : Nat → Int
  | 0 => 0
  | i + 1 => mxI (pk l i) (mxI (rd 0 l (i : Int)) (w64 (0 - rd 0 l (i : Int))))
def nonl (w n : Nat) : Int := quoI .i64 (w64 (((2 ^ n : Nat) : Int) - pk (sps w n (2 ^ n)) (2 ^ n))) 2
theorem two_pos (n : Nat) : 0 < 2 ^ n := Nat.pow_pos (by decide)
theorem spec_Nonlinearity_n (N n w : Nat) (hN : 64 < N) (hn : n ≤ 5) (hw : w < 2 ^ 2 ^ n) (k : Int → Option β) : spec_Nonlinearity N (n : Int) (w : Int) k = k (nonl w n) := by
  have hs := size_le hn
  have hz : (0 : Int) ≤ ((2 ^ n : Nat) : Int) := Int.natCast_nonneg _
  have hp := two_pos n
  unfold spec_Nonlinearity
  rw [spec_SpectrumOf_n N n w hN hn hw, sps_len, beq_eq_false_iff_ne.2 (by omega), cond_false]
  refine loop_st (fun F u => spec_Nonlinearity_l0 N F (pk (sps w n (2 ^ n)) u) (u : Int) (sps w n (2 ^ n)) fun e0 e1 => k (quoI .i64 (w64 ((e1.length : Int) - e0)) 2)) (2 ^ n) _ (fun F u hu => ?_) (fun F => ?_) N 0 (by omega) (by omega)
  · simp only [spec_Nonlinearity_l0, spec_Nonlinearity_l0b, sps_len]
    rw [decide_eq_true (show (u : Int) < ((2 ^ n : Nat) : Int) by omega), decide_eq_true (show (0 : Int) ≤ (u : Int) by omega), w64_succ u (by omega)]
    rfl
  · simp only [spec_Nonlinearity_l0, spec_Nonlinearity_l0b, sps_len]
    rw [decide_eq_false (by omega), cond_false]
    rfl
theorem impl_Nonlinearity_n (N n w : Nat) (hN : 64 < N) (hn : n ≤ 5) (hw : w < 2 ^ 2 ^ n) (k : Int → Option β) : impl_Nonlinearity N (n : Int) (w : Int) k = k (nonl w n) := by
  have hs := size_le hn
  have hz : (0 : Int) ≤ ((2 ^ n : Nat) : Int) := Int.natCast_nonneg _
  have hw' := w_small hn hw
  unfold impl_Nonlinearity
  rw [impl_IsTable_eq N _ _ (by omega), isTn hn hw]
  simp only [Bool.not_true, cond_false]
  rw [impl_Table_size_eq N n _ hn, impl_spectrum_n N n w hN hn hw]
  unfold impl_peak
  rw [sps_len]
  refine loop_st (fun F u => impl_peak_l0 N F (pk (sps w n (2 ^ n)) u) (sps w n (2 ^ n)) ((2 ^ n : Nat) : Int) (u : Int) fun e => k (quoI .i64 (w64 (((2 ^ n : Nat) : Int) - e)) 2)) (2 ^ n) _ (fun F u hu => ?_) (fun F => ?_) N 0 (by omega) (by omega)
  · simp only [impl_peak_l0, impl_peak_l0b, sps_len]
    rw [decide_eq_true (show (u : Int) < ((2 ^ n : Nat) : Int) by omega), decide_eq_true (show (0 : Int) ≤ (u : Int) by omega), w64_succ u (by omega)]
    rfl
  · simp only [impl_peak_l0, impl_peak_l0b]
    rw [decide_eq_false (by omega), cond_false]
    rfl

/-! ### Immunity -/
def ci (l : List Int) (n : Int) : Nat → Int
  | 0 => n
  | i + 1 => cond (decide (0 < i) && (rd 0 l (i : Int) != 0)) (mnI (ci l n i) (w64 ((ones i : Int) - 1))) (ci l n i)
theorem spec_CorrelationImmunity_n (N n w : Nat) (hN : 64 < N) (hn : n ≤ 5) (hw : w < 2 ^ 2 ^ n) (k : Int → Option β) : spec_CorrelationImmunity N (n : Int) (w : Int) k = k (ci (sps w n (2 ^ n)) n (2 ^ n)) := by
  have hs := size_le hn
  have hz : (0 : Int) ≤ ((2 ^ n : Nat) : Int) := Int.natCast_nonneg _
  have hp := two_pos n
  unfold spec_CorrelationImmunity
  rw [spec_SpectrumOf_n N n w hN hn hw, sps_len, beq_eq_false_iff_ne.2 (by omega), cond_false]
  refine loop_from (fun F u => spec_CorrelationImmunity_l0 N F (ci (sps w n (2 ^ n)) n u) (u : Int) (sps w n (2 ^ n)) fun e => k e) 1 (2 ^ n) _ (fun F u h1 hu => ?_) (fun F => ?_) N 1 (by omega) (by omega) (by omega)
  · simp only [spec_CorrelationImmunity_l0, spec_CorrelationImmunity_l0b, sps_len, ci]
    rw [decide_eq_true (show (u : Int) < ((2 ^ n : Nat) : Int) by omega), decide_eq_true (show (0 : Int) ≤ (u : Int) by omega), w64_succ u (by omega), decide_eq_true (show 0 < u by omega)]
    simp only [gd, cond_true, Bool.true_and]
    cases rd 0 (sps w n (2 ^ n)) (u : Int) != 0 with
    | false => rfl
    | true =>
      simp only [cond_true]
      rw [spec_l2Count_eq N u hN (by omega)]
  · simp only [spec_CorrelationImmunity_l0, spec_CorrelationImmunity_l0b, sps_len]
    rw [decide_eq_false (by omega), cond_false]
theorem impl_CorrelationImmunity_n (N n w : Nat) (hN : 64 < N) (hn : n ≤ 5) (hw : w < 2 ^ 2 ^ n) (k : Int → Option β) : impl_CorrelationImmunity N (n : Int) (w : Int) k = k (ci (sps w n (2 ^ n)) n (2 ^ n)) := by
  have hs := size_le hn
  have hz : (0 : Int) ≤ ((2 ^ n : Nat) : Int) := Int.natCast_nonneg _
  have hw' := w_small hn hw
  unfold impl_CorrelationImmunity
  rw [impl_IsTable_eq N _ _ (by omega), isTn hn hw]
  simp only [Bool.not_true, cond_false]
  rw [impl_spectrum_n N n w hN hn hw, sps_len]
  refine loop_st (fun F u => impl_CorrelationImmunity_l0 N F (ci (sps w n (2 ^ n)) n u) ((2 ^ n : Nat) : Int) (u : Int) (sps w n (2 ^ n)) fun e => k e) (2 ^ n) _ (fun F u hu => ?_) (fun F => ?_) N 0 (by omega) (by omega)
  · simp only [impl_CorrelationImmunity_l0, impl_CorrelationImmunity_l0b, sps_len, ci]
    rw [decide_eq_true (show (u : Int) < ((2 ^ n : Nat) : Int) by omega), decide_eq_true (show (0 : Int) ≤ (u : Int) by omega), w64_succ u (by omega)]
    simp only [gd, cond_true]
    by_cases h0 : 0 < u
    · rw [decide_eq_true h0, decide_eq_true (show (u : Int) > 0 by omega)]
      simp only [cond_true, Bool.true_and]
      cases rd 0 (sps w n (2 ^ n)) (u : Int) != 0 with
      | false => rfl
      | true =>
        simp only [cond_true]
        rw [impl_ones_eq N u (by omega)]
    · rw [decide_eq_false h0, decide_eq_false (show ¬ (u : Int) > 0 by omega)]
      rfl
  · simp only [impl_CorrelationImmunity_l0, impl_CorrelationImmunity_l0b]
    rw [decide_eq_false (by omega), cond_false]

/-! ### Rejects -/
def rj (w x y : Nat) : Int := bits .xor .i64 (bits .xor .i64 (bw w x : Int) (bw w y : Int)) (bw w (x ^^^ y) : Int)
def rj2 (w x : Nat) (s : Int) : Nat → Int
  | 0 => s
  | y + 1 => w64 (rj2 w x s y + rj w x y)
def rj1 (w m : Nat) : Nat → Int
  | 0 => 0
  | x + 1 => rj2 w x (rj1 w m x) m
theorem bit3 (w x y z : Nat) (hw : w < 4294967296) : bits .and .i64 (bits .xor .i64 (bits .xor .i64 (shrI .i64 (w : Int) (x : Int)) (shrI .i64 (w : Int) (y : Int))) (shrI .i64 (w : Int) (z : Int))) 1 = bits .xor .i64 (bits .xor .i64 (bw w x : Int) (bw w y : Int)) (bw w z : Int) := by
  have hx := Nat.div_le_self w (2 ^ x); have hy := Nat.div_le_self w (2 ^ y); have hz := Nat.div_le_self w (2 ^ z)
  have b1 := bw_le w x; have b2 := bw_le w y; have b3 := bw_le w z
  have e : ∀ i, bw w i = w / 2 ^ i % 2 := fun i => by
    unfold bw
    rw [Nat.testBit_eq_decide_div_mod_eq]
    rcases Nat.mod_two_eq_zero_or_one (w / 2 ^ i) with h | h <;> simp [h]
  have c1 : w / 2 ^ x ^^^ w / 2 ^ y < 2 ^ 32 := Nat.xor_lt_two_pow (by omega) (by omega)
  have c2 : (w / 2 ^ x ^^^ w / 2 ^ y) ^^^ w / 2 ^ z < 2 ^ 32 := Nat.xor_lt_two_pow c1 (by omega)
  have d1 : bw w x ^^^ bw w y < 2 ^ 1 := Nat.xor_lt_two_pow (by omega) (by omega)
  rw [shr_nat w x (by omega), shr_nat w y (by omega), shr_nat w z (by omega), bXor _ _ (by omega) (by omega), bXor _ _ (by omega) (by omega), show (1 : Int) = ((1 : Nat) : Int) from rfl, bAnd _ _ (by omega) (by omega), bXor _ _ (by omega) (by omega), bXor _ _ (by omega) (by omega)]
  congr 1
  rw [Nat.and_one_is_mod, e x, e y, e z]
  have m2 : ∀ a b : Nat, (a ^^^ b) % 2 = (a % 2) ^^^ (b % 2) := fun a b => by
    have := Nat.xor_mod_two_pow (a := a) (b := b) (n := 1)
    simpa using this
  rw [m2, m2]
theorem spec_rejects_inner (N n w x : Nat) (hN : 64 < N) (hn : n ≤ 5) (hw : w < 2 ^ 2 ^ n) (hx : x < 2 ^ n) (s : Int) (k0 : Int → Int → Int → Int → Option β) :
    spec_TestRejects_l2 N N s (x : Int) 0 (n : Int) (w : Int) k0 = k0 (rj2 w x s (2 ^ n)) (x : Int) (n : Int) (w : Int) := by
  have hw' := w_small hn hw
  have hs := size_le hn
  have hz : (0 : Int) ≤ ((2 ^ n : Nat) : Int) := Int.natCast_nonneg _
  refine loop_st (fun F y => spec_TestRejects_l2 N F (rj2 w x s y) (x : Int) (y : Int) (n : Int) (w : Int) k0) (2 ^ n) _ (fun F y hy => ?_) (fun F => ?_) N 0 (by omega) (by omega)
  · simp only [spec_TestRejects_l2, spec_TestRejects_l2b]
    rw [gd_true (decide_eq_true (by omega)), shl_one n (by omega), decide_eq_true (by omega), cond_true, gd_true (decide_eq_true (by omega)), gd_true (decide_eq_true (by omega)), bXor x y (by omega) (by omega), gd_true (decide_eq_true (Int.natCast_nonneg _)), bit3 w x y _ hw', w64_succ y (by omega)]
    rfl
  · simp only [spec_TestRejects_l2, spec_TestRejects_l2b]
    rw [gd_true (decide_eq_true (by omega)), shl_one n (by omega), decide_eq_false (by omega), cond_false]
theorem spec_TestRejects_n (N n w : Nat) (hN : 64 < N) (hn : n ≤ 5) (hw : w < 2 ^ 2 ^ n) (k : Int → Option β) : spec_TestRejects N (n : Int) (w : Int) k = k (rj1 w (2 ^ n) (2 ^ n)) := by
  have hs := size_le hn
  have hz : (0 : Int) ≤ ((2 ^ n : Nat) : Int) := Int.natCast_nonneg _
  unfold spec_TestRejects
  rw [spec_IsTable_eq, isTn hn hw]
  simp only [Bool.not_true, cond_false]
  refine loop_st (fun F x => spec_TestRejects_l0 N F (rj1 w (2 ^ n) x) (x : Int) (n : Int) (w : Int) fun e => k e) (2 ^ n) _ (fun F x hx => ?_) (fun F => ?_) N 0 (by omega) (by omega)
  · simp only [spec_TestRejects_l0, spec_TestRejects_l0b]
    rw [gd_true (decide_eq_true (by omega)), shl_one n (by omega), decide_eq_true (by omega), cond_true, spec_rejects_inner N n w x hN hn hw hx, w64_succ x (by omega)]
    rfl
  · simp only [spec_TestRejects_l0, spec_TestRejects_l0b]
    rw [gd_true (decide_eq_true (by omega)), shl_one n (by omega), decide_eq_false (by omega), cond_false]
theorem impl_rejects_inner (N n w x : Nat) (hN : 64 < N) (hn : n ≤ 5) (hw : w < 2 ^ 2 ^ n) (hx : x < 2 ^ n) (s c1 c2 : Int) (k0 : Int → Int → Int → Int → Int → Option β) :
    impl_TestRejects_l2 N N s (x : Int) c1 c2 ((2 ^ n : Nat) : Int) 0 (n : Int) (w : Int) k0 = k0 (rj2 w x s (2 ^ n)) c1 c2 (n : Int) (w : Int) := by
  have hw' := w_small hn hw
  have hs := size_le hn
  have hz : (0 : Int) ≤ ((2 ^ n : Nat) : Int) := Int.natCast_nonneg _
  refine loop_st (fun F y => impl_TestRejects_l2 N F (rj2 w x s y) (x : Int) c1 c2 ((2 ^ n : Nat) : Int) (y : Int) (n : Int) (w : Int) k0) (2 ^ n) _ (fun F y hy => ?_) (fun F => ?_) N 0 (by omega) (by omega)
  · simp only [impl_TestRejects_l2, impl_TestRejects_l2b]
    rw [decide_eq_true (by omega), cond_true, impl_Table_at_eq N w x _ hw', impl_Table_at_eq N w y _ hw', bXor x y (by omega) (by omega), impl_Table_at_eq N w _ _ hw', w64_succ y (by omega)]
    rfl
  · simp only [impl_TestRejects_l2, impl_TestRejects_l2b]
    rw [decide_eq_false (by omega), cond_false]
theorem impl_TestRejects_n (N n w : Nat) (hN : 64 < N) (hn : n ≤ 5) (hw : w < 2 ^ 2 ^ n) (k : Int → Option β) : impl_TestRejects N (n : Int) (w : Int) k = k (rj1 w (2 ^ n) (2 ^ n)) := by
  have hs := size_le hn
  have hw' := w_small hn hw
  have hz : (0 : Int) ≤ ((2 ^ n : Nat) : Int) := Int.natCast_nonneg _
  unfold impl_TestRejects
  rw [impl_IsTable_eq N _ _ (by omega), isTn hn hw]
  simp only [Bool.not_true, cond_false]
  rw [impl_Table_size_eq N n _ hn]
  refine loop_st (fun F x => impl_TestRejects_l0 N F (rj1 w (2 ^ n) x) ((2 ^ n : Nat) : Int) (x : Int) (n : Int) (w : Int) fun e => k e) (2 ^ n) _ (fun F x hx => ?_) (fun F => ?_) N 0 (by omega) (by omega)
  · simp only [impl_TestRejects_l0, impl_TestRejects_l0b]
    rw [decide_eq_true (by omega), cond_true, impl_Table_size_eq N n _ hn, impl_rejects_inner N n w x hN hn hw hx, w64_succ x (by omega)]
    rfl
  · simp only [impl_TestRejects_l0, impl_TestRejects_l0b]
    rw [decide_eq_false (by omega), cond_false]
end Go.Proofs.YtfdggelojmofmaaDoor
