/- Plain laws of the texts: protocols: the value on a set of rows and a set of columns; the matrix of a table. -/
import Derived.Test.YtdkjnadhgdneaaaDoorP30
namespace Go.Proofs.YtdkjnadhgdneaaaDoor
open Go.Rv
set_option linter.unusedVariables false
variable {β : Type}
theorem bit_zero (b : Bool) : (((if b then 1 else 0 : Nat) : Int) == 0) = !b := by cases b <;> rfl
/-- What is known of a value: whether a 0 was seen, and a 1. -/
def enc (f t : Bool) : Int := cond f (cond t 2 0) (cond t 1 (-1))
def encI (f t : Bool) : Int := cond f (cond t (-1) 0) (cond t 1 (-1))

/-- Whether one of the columns from j on holds a value. -/
def hcr (B row : Nat) (v : Bool) : Nat → Nat → Bool
  | 0, _ => false
  | d + 1, j => (B.testBit j && (row.testBit j == v)) || hcr B row v d (j + 1)
def hrr (A B : Nat) (rw_ : Nat → Nat) (v : Bool) : Nat → Nat → Bool
  | 0, _ => false
  | d + 1, i => (A.testBit i && hcr B (rw_ i) v 4 0) || hrr A B rw_ v d (i + 1)
/-- Whether one of the inputs from x on holds a value. -/
def hx (w k A B : Nat) (v : Bool) : Nat → Nat → Bool
  | 0, _ => false
  | d + 1, x => (A.testBit (x % 2 ^ k) && (B.testBit (x / 2 ^ k) && (w.testBit x == v))) || hx w k A B v d (x + 1)
theorem hcr_iff (B row : Nat) (v : Bool) : ∀ d j, hcr B row v d j = true ↔ ∃ c, j ≤ c ∧ c < j + d ∧ B.testBit c = true ∧ row.testBit c = v
  | 0, j => by
    constructor
    · intro h; cases h
    · rintro ⟨c, h1, h2, _⟩; omega
  | d + 1, j => by
    simp only [hcr, Bool.or_eq_true, Bool.and_eq_true, beq_iff_eq, hcr_iff B row v d (j + 1)]
    constructor
    · rintro (h | ⟨c, h1, h2, h3⟩)
      · exact ⟨j, by omega, by omega, h⟩
      · exact ⟨c, by omega, by omega, h3⟩
    · rintro ⟨c, h1, h2, h3⟩
      by_cases e : c = j
      · subst e; exact .inl h3
      · exact .inr ⟨c, by omega, by omega, h3⟩
theorem hrr_iff (A B : Nat) (rw_ : Nat → Nat) (v : Bool) : ∀ d i, hrr A B rw_ v d i = true ↔ ∃ r, i ≤ r ∧ r < i + d ∧ A.testBit r = true ∧ hcr B (rw_ r) v 4 0 = true
  | 0, j => by
    constructor
    · intro h; cases h
    · rintro ⟨c, h1, h2, _⟩; omega
  | d + 1, j => by
    simp only [hrr, Bool.or_eq_true, Bool.and_eq_true, hrr_iff A B rw_ v d (j + 1)]
    constructor
    · rintro (h | ⟨c, h1, h2, h3⟩)
      · exact ⟨j, by omega, by omega, h⟩
      · exact ⟨c, by omega, by omega, h3⟩
    · rintro ⟨c, h1, h2, h3⟩
      by_cases e : c = j
      · subst e; exact .inl h3
      · exact .inr ⟨c, by omega, by omega, h3⟩
theorem hx_iff (w k A B : Nat) (v : Bool) : ∀ d x, hx w k A B v d x = true ↔ ∃ y, x ≤ y ∧ y < x + d ∧ A.testBit (y % 2 ^ k) = true ∧ B.testBit (y / 2 ^ k) = true ∧ w.testBit y = v
  | 0, j => by
    constructor
    · intro h; cases h
    · rintro ⟨c, h1, h2, _⟩; omega
  | d + 1, j => by
    simp only [hx, Bool.or_eq_true, Bool.and_eq_true, beq_iff_eq, hx_iff w k A B v d (j + 1)]
    constructor
    · rintro (h | ⟨c, h1, h2, h3⟩)
      · exact ⟨j, by omega, by omega, h⟩
      · exact ⟨c, by omega, by omega, h3⟩
    · rintro ⟨c, h1, h2, h3⟩
      by_cases e : c = j
      · subst e; exact .inl h3
      · exact .inr ⟨c, by omega, by omega, h3⟩
theorem hcr_zero (B row : Nat) (v : Bool) (d j : Nat) (h : B < 2 ^ j) : hcr B row v d j = false := by
  cases hh : hcr B row v d j with
  | false => rfl
  | true =>
    obtain ⟨c, h1, _, h2, _⟩ := (hcr_iff B row v d j).1 hh
    have := Nat.testBit_lt_two_pow (Nat.lt_of_lt_of_le h (Nat.pow_le_pow_right (by decide) h1))
    rw [this] at h2
    cases h2

/-! the reference model's value -/
theorem one_inner (N : Nat) (m : List Int) (A B row i : Nat) (hB : B < 16) (hrow : row < 16) (hi : i < m.length) (hm : rd 0 m (i : Int) = (row : Int)) (k0 : Int → Option β) (k1 : List Int → Int → Int → Int → Int → Option β) :
    ∀ (d j G : Nat) (f t : Bool), j + d = 4 → d < G → (f && t) = false →
      spec_l21One_l2 N G m (A : Int) (B : Int) (enc f t) (i : Int) (j : Int) k0 k1 =
        cond ((f || hcr B row false d j) && (t || hcr B row true d j)) (k0 2) (k1 m (A : Int) (B : Int) (enc (f || hcr B row false d j) (t || hcr B row true d j)) (i : Int)) := by
  intro d
  induction d with
  | zero =>
    intro j G f t hj hG hft
    obtain ⟨G, rfl⟩ : ∃ H, G = H + 1 := ⟨G - 1, by omega⟩
    simp only [spec_l21One_l2, spec_l21One_l2b, hcr, Bool.or_false]
    rw [hft, cond_false, gd_true (decide_eq_true (by omega : (0 : Int) ≤ (j : Int))), shr_nat B j (by omega), show j = 4 by omega, show B / 2 ^ 4 = 0 by omega]
    rfl
  | succ d ih =>
    intro j G f t hj hG hft
    obtain ⟨G, rfl⟩ : ∃ H, G = H + 1 := ⟨G - 1, by omega⟩
    simp only [spec_l21One_l2, spec_l21One_l2b]
    simp only [gd_true (decide_eq_true (by omega : (0 : Int) ≤ (j : Int)))]
    by_cases hz : B < 2 ^ j
    · rw [hcr_zero B row false _ j hz, hcr_zero B row true _ j hz, Bool.or_false, Bool.or_false, hft, cond_false, shr_nat B j (by omega), Nat.div_eq_of_lt hz]
      rfl
    · have hpos : 0 < B / 2 ^ j := Nat.div_pos (by omega) (Nat.two_pow_pos j)
      rw [bit_at B j (by omega), hm, bit_at row j (by omega), shr_nat B j (by omega), decide_eq_true (by omega : ((B / 2 ^ j : Nat) : Int) > 0), cond_true, bit_zero, w64_succ j (by omega)]
      simp only [gd_true (decide_eq_true (by omega : (0 : Int) ≤ (i : Int))), gd_true (decide_eq_true (by omega : (i : Int) < (m.length : Int))), hcr]
      cases hb : B.testBit j with
      | false =>
        simp only [Bool.false_and, Bool.false_or, Bool.not_false, cond_true]
        exact ih (j + 1) G f t (by omega) (by omega) hft
      | true =>
        simp only [Bool.true_and, Bool.not_true, cond_false]
        cases hr : row.testBit j with
        | false =>
          have h1 := ih (j + 1) G true t (by omega) (by omega)
          cases t with
          | true =>
            cases f with
            | true => cases hft
            | false => simp [enc]
          | false =>
            have h1 := h1 rfl
            cases f <;> simpa [enc] using h1
        | true =>
          have h1 := ih (j + 1) G f true (by omega) (by omega)
          cases f with
          | true =>
            cases t with
            | true => cases hft
            | false => simp [enc]
          | false =>
            have h1 := h1 rfl
            cases t <;> simpa [enc] using h1
theorem one_outer (N : Nat) (hN : 64 < N) (m : List Int) (A B : Nat) (rw_ : Nat → Nat) (hA : A < 16) (hB : B < 16) (hlen : m.length ≤ 4) (hm : ∀ i, i < m.length → rd 0 m (i : Int) = (rw_ i : Int) ∧ rw_ i < 16) (k0 k1 : Int → Option β) :
    ∀ (d i G : Nat) (f t : Bool), i + d = m.length → d < G → (f && t) = false →
      spec_l21One_l0 N G m (A : Int) (B : Int) (enc f t) (i : Int) k0 k1 =
        cond ((f || hrr A B rw_ false d i) && (t || hrr A B rw_ true d i)) (k0 2) (k1 (enc (f || hrr A B rw_ false d i) (t || hrr A B rw_ true d i))) := by
  intro d
  induction d with
  | zero =>
    intro i G f t hi hG hft
    obtain ⟨G, rfl⟩ : ∃ H, G = H + 1 := ⟨G - 1, by omega⟩
    simp only [spec_l21One_l0, spec_l21One_l0b, hrr, Bool.or_false]
    rw [hft, cond_false, decide_eq_false (by omega : ¬ (i : Int) < (m.length : Int)), cond_false]
  | succ d ih =>
    intro i G f t hi hG hft
    obtain ⟨G, rfl⟩ : ∃ H, G = H + 1 := ⟨G - 1, by omega⟩
    simp only [spec_l21One_l0, spec_l21One_l0b]
    rw [decide_eq_true (by omega : (i : Int) < (m.length : Int)), cond_true, gd_true (decide_eq_true (by omega : (0 : Int) ≤ (i : Int))), bit_at A i (by omega), bit_zero]
    simp only [w64_succ i (by omega)]
    have hmi := hm i (by omega)
    have h0 := one_inner (β := β) N m A B (rw_ i) i hB hmi.2 (by omega) hmi.1 (fun e => k0 e) (fun e0 e1 e2 e3 e4 => spec_l21One_l0 N G e0 e1 e2 e3 (w64 (e4 + 1)) k0 k1) 4 0 N f t (by omega) (by omega) hft
    simp only [Int.natCast_zero] at h0
    cases ha : A.testBit i with
    | false =>
      simp only [hrr, ha, Bool.false_and, Bool.false_or, Bool.not_false, cond_true]
      exact ih (i + 1) G f t (by omega) (by omega) hft
    | true =>
      simp only [hrr, ha, Bool.true_and, Bool.not_true, cond_false]
      rw [h0]
      generalize hcr B (rw_ i) false 4 0 = cf
      generalize hcr B (rw_ i) true 4 0 = ct
      cases hb : (f || cf) && (t || ct) with
      | true =>
        simp only [Bool.and_eq_true, Bool.or_eq_true] at hb
        rw [cond_true]
        have e1 : (f || (cf || hrr A B rw_ false d (i + 1))) = true := by rcases hb.1 with e | e <;> simp [e]
        have e2 : (t || (ct || hrr A B rw_ true d (i + 1))) = true := by rcases hb.2 with e | e <;> simp [e]
        rw [e1, e2]
        rfl
      | false =>
        rw [cond_false, w64_succ i (by omega)]
        have h1 := ih (i + 1) G (f || cf) (t || ct) (by omega) (by omega) hb
        rw [Bool.or_assoc, Bool.or_assoc] at h1
        exact h1
theorem spec_l21One_eq (N : Nat) (hN : 64 < N) (m : List Int) (A B : Nat) (rw_ : Nat → Nat) (hA : A < 16) (hB : B < 16) (hlen : m.length ≤ 4) (hm : ∀ i, i < m.length → rd 0 m (i : Int) = (rw_ i : Int) ∧ rw_ i < 16) (k : Int → Option β) :
    spec_l21One N m (A : Int) (B : Int) k = k (enc (hrr A B rw_ false m.length 0) (hrr A B rw_ true m.length 0)) := by
  unfold spec_l21One
  have h := one_outer (β := β) N hN m A B rw_ hA hB hlen hm (fun e => k e) (fun e => k e) m.length 0 N false false (by omega) (by omega) rfl
  simp only [Int.natCast_zero, Bool.false_or] at h
  refine Eq.trans h ?_
  cases hrr A B rw_ false m.length 0 <;> cases hrr A B rw_ true m.length 0 <;> rfl

/-! the value of the program -/
theorem mask_eq (x k : Nat) (hx : x < 64) (hk : k ≤ 5) : bits .and .i64 (x : Int) (w64 (shlI .i64 1 (k : Int) - 1)) = ((x % 2 ^ k : Nat) : Int) := by
  have hp := Nat.two_pow_pos k
  have hs := size_le hk
  rw [shl_one k (by omega), show ((2 ^ k : Nat) : Int) - 1 = ((2 ^ k - 1 : Nat) : Int) by omega, w64_nat _ (by omega), bAnd x _ (by omega) (by omega), Nat.and_two_pow_sub_one_eq_mod]
theorem impl_at_eq (N n w x : Nat) (hw : w < 4294967296) (k : Int → Option β) : impl_Table_at N (n : Int) (w : Int) (x : Int) k = k ((if w.testBit x then 1 else 0 : Nat) : Int) := by
  unfold impl_Table_at
  rw [gd_true (decide_eq_true (by omega : (0 : Int) ≤ (x : Int))), bit_at w x (by omega)]
theorem value_loop (N : Nat) (n w k A B : Nat) (hn : n ≤ 5) (hk : k ≤ 5) (hw : w < 4294967296) (hA : A < 16) (hB : B < 16) (mp : Mp) (k0 k1 : Int → Int → Int → Int → Mp → Option β) :
    ∀ (d x G : Nat) (f t : Bool), x + d = 2 ^ n → d < G → (f && t) = false →
      impl_talk_value_l0 N G (encI f t) ((2 ^ n : Nat) : Int) (x : Int) (n : Int) (w : Int) (k : Int) mp (A : Int) (B : Int) k0 k1 =
        cond ((f || hx w k A B false d x) && (t || hx w k A B true d x)) (k0 (-1) n w k mp) (k1 (encI (f || hx w k A B false d x) (t || hx w k A B true d x)) n w k mp) := by
  have hs := size_le hn
  intro d
  induction d with
  | zero =>
    intro x G f t hx' hG hft
    obtain ⟨G, rfl⟩ : ∃ H, G = H + 1 := ⟨G - 1, by omega⟩
    simp only [impl_talk_value_l0, impl_talk_value_l0b, hx, Bool.or_false]
    rw [hft, cond_false, decide_eq_false (by omega : ¬ (x : Int) < ((2 ^ n : Nat) : Int)), cond_false]
  | succ d ih =>
    intro x G f t hx' hG hft
    obtain ⟨G, rfl⟩ : ∃ H, G = H + 1 := ⟨G - 1, by omega⟩
    simp only [impl_talk_value_l0, impl_talk_value_l0b]
    rw [decide_eq_true (by omega : (x : Int) < ((2 ^ n : Nat) : Int)), cond_true, mask_eq x k (by omega) hk, shr_nat x k (by omega)]
    simp only [gd_true (decide_eq_true (by omega : (0 : Int) ≤ (k : Int))), gd_true (decide_eq_true (Int.natCast_nonneg (x % 2 ^ k))), gd_true (decide_eq_true (Int.natCast_nonneg (x / 2 ^ k))), bit_at A _ (by omega : A < 9223372036854775808), bit_at B _ (by omega : B < 9223372036854775808), bit_zero, impl_at_eq N n w x hw, w64_succ x (by omega), hx]
    cases ha : A.testBit (x % 2 ^ k) with
    | false =>
      simp only [Bool.false_and, Bool.false_or, Bool.not_false, cond_true]
      exact ih (x + 1) G f t (by omega) (by omega) hft
    | true =>
      cases hb : B.testBit (x / 2 ^ k) with
      | false =>
        simp only [Bool.false_and, Bool.and_false, Bool.false_or, Bool.not_false, Bool.not_true, cond_true, cond_false]
        exact ih (x + 1) G f t (by omega) (by omega) hft
      | true =>
        simp only [Bool.true_and, Bool.not_true, cond_false]
        cases hr : w.testBit x with
        | false =>
          have h1 := ih (x + 1) G true t (by omega) (by omega)
          cases t with
          | true =>
            cases f with
            | true => cases hft
            | false => simp [encI]
          | false =>
            have h1 := h1 rfl
            cases f <;> simpa [encI] using h1
        | true =>
          have h1 := ih (x + 1) G f true (by omega) (by omega)
          cases f with
          | true =>
            cases t with
            | true => cases hft
            | false => simp [encI]
          | false =>
            have h1 := h1 rfl
            cases t <;> simpa [encI] using h1
theorem impl_value_eq (N : Nat) (hN : 64 < N) (n w k A B : Nat) (hn : n ≤ 5) (hk : k ≤ 5) (hw : w < 4294967296) (hA : A < 16) (hB : B < 16) (mp : Mp) (k0 : Int → Int → Int → Int → Mp → Option β) :
    impl_talk_value_g0 N (A : Int) (B : Int) (n : Int) (w : Int) (k : Int) mp k0 = k0 (encI (hx w k A B false (2 ^ n) 0) (hx w k A B true (2 ^ n) 0)) n w k mp := by
  have hs := size_le hn
  unfold impl_talk_value_g0 impl_Table_size
  rw [gd_true (decide_eq_true (by omega : (0 : Int) ≤ (n : Int))), shl_one n (by omega)]
  have h := value_loop (β := β) N n w k A B hn hk hw hA hB mp (fun e0 e1 e2 e3 e4 => k0 e0 e1 e2 e3 e4) (fun e0 e1 e2 e3 e4 => k0 e0 e1 e2 e3 e4) (2 ^ n) 0 N false false (by omega) (by omega) rfl
  simp only [Int.natCast_zero, Bool.false_or] at h
  refine Eq.trans h ?_
  cases hx w k A B false (2 ^ n) 0 <;> cases hx w k A B true (2 ^ n) 0 <;> rfl

/-! the matrix -/
def mrow (w k q r : Nat) : Nat := tabw (fun c => w.testBit (r ||| c * 2 ^ k)) q
def rows (w k q a : Nat) : List Int := (List.range a).map fun r => ((mrow w k q r : Nat) : Int)
theorem rows_len (w k q a : Nat) : (rows w k q a).length = a := by simp [rows]
theorem rows_succ (w k q a : Nat) : rows w k q (a + 1) = rows w k q a ++ [((mrow w k q a : Nat) : Int)] := by simp [rows, List.range_succ]
theorem rows_rd (w k q a i : Nat) (h : i < a) : rd 0 (rows w k q a) (i : Int) = ((mrow w k q i : Nat) : Int) := by
  rw [rd_nat 0 _ i (by rw [rows_len]; exact h)]
  simp [rows]
set_option synthInstance.maxHeartbeats 1000000 in
set_option synthInstance.maxSize 2000 in
theorem small_parts : ∀ k, k ≤ 2 → ∀ j, j ≤ 2 → ∀ r, r < 2 ^ k → ∀ c, c < 2 ^ j → (r ||| c * 2 ^ k) < 2 ^ (k + j) ∧ (r ||| c * 2 ^ k) % 2 ^ k = r ∧ (r ||| c * 2 ^ k) / 2 ^ k = c := by decide +kernel
theorem small_whole : ∀ k, k ≤ 2 → ∀ j, j ≤ 2 → ∀ x, x < 2 ^ (k + j) → (x % 2 ^ k ||| x / 2 ^ k * 2 ^ k) = x ∧ x / 2 ^ k < 2 ^ j := by decide +kernel
theorem mat_inner (N : Nat) (n w k a : Nat) (hk : k ≤ 2) (hkn : k ≤ n) (hq : n - k ≤ 2) (hw : w < 4294967296) (ha : a < 2 ^ k) (out : List Int) (K : Int → Int → Int → Int → Int → List Int → Option β) :
    ∀ (d b G : Nat), b + d = 2 ^ (n - k) → d < G →
      spec_MatrixOf_l2 N G (k : Int) (a : Int) (tabw (fun c => w.testBit (a ||| c * 2 ^ k)) b : Int) (b : Int) (n : Int) (w : Int) out K = K k a (mrow w k (2 ^ (n - k)) a : Int) n w out := by
  have h4 : 2 ^ (n - k) ≤ 4 := Nat.pow_le_pow_right (by decide) hq
  have h4k : 2 ^ k ≤ 4 := Nat.pow_le_pow_right (by decide) hk
  intro d
  induction d with
  | zero =>
    intro b G hb hG
    obtain ⟨G, rfl⟩ : ∃ H, G = H + 1 := ⟨G - 1, by omega⟩
    simp only [spec_MatrixOf_l2, spec_MatrixOf_l2b]
    rw [show ((n : Int) - (k : Int)) = ((n - k : Nat) : Int) by omega, w64_nat _ (by omega), gd_true (decide_eq_true (by omega : (0 : Int) ≤ ((n - k : Nat) : Int))), shl_one _ (by omega), decide_eq_false (by omega : ¬ (b : Int) < ((2 ^ (n - k) : Nat) : Int)), cond_false, show b = 2 ^ (n - k) by omega]
    rfl
  | succ d ih =>
    intro b G hb hG
    obtain ⟨G, rfl⟩ : ∃ H, G = H + 1 := ⟨G - 1, by omega⟩
    have hsp := small_parts k hk (n - k) hq a ha b (by omega)
    have hn4 : 2 ^ (k + (n - k)) ≤ 2 ^ 4 := Nat.pow_le_pow_right (by decide) (by omega)
    have hbk : b * 2 ^ k < 64 := Nat.lt_of_le_of_lt (Nat.mul_le_mul (by omega : b ≤ 4) h4k) (by decide)
    have hlt := tabw_lt (fun c => w.testBit (a ||| c * 2 ^ k)) b
    have hb2 : 2 ^ b ≤ 2 ^ 4 := Nat.pow_le_pow_right (by decide) (by omega)
    simp only [spec_MatrixOf_l2, spec_MatrixOf_l2b]
    rw [show ((n : Int) - (k : Int)) = ((n - k : Nat) : Int) by omega, w64_nat _ (by omega), gd_true (decide_eq_true (by omega : (0 : Int) ≤ ((n - k : Nat) : Int))), shl_one _ (by omega), decide_eq_true (by omega : (b : Int) < ((2 ^ (n - k) : Nat) : Int)), cond_true,
      gd_true (decide_eq_true (by omega : (0 : Int) ≤ (k : Int))), shl_nat b k (by omega) (by omega), bOr a _ (by omega) (by omega), gd_true (decide_eq_true (by omega : (0 : Int) ≤ ((a ||| b * 2 ^ k : Nat) : Int))), gd_true (decide_eq_true (by omega : (0 : Int) ≤ (b : Int))), bit_at w _ (by omega), w64_succ b (by omega)]
    have h1 := ih (b + 1) G (by omega) (by omega)
    have e : bits .or .i64 ((tabw (fun c => w.testBit (a ||| c * 2 ^ k)) b : Nat) : Int) (shlI .i64 ((if w.testBit (a ||| b * 2 ^ k) then 1 else 0 : Nat) : Int) (b : Int)) = ((tabw (fun c => w.testBit (a ||| c * 2 ^ k)) (b + 1) : Nat) : Int) := by
      cases hbit : w.testBit (a ||| b * 2 ^ k) with
      | true =>
        rw [if_pos rfl, show ((1 : Nat) : Int) = 1 from rfl, shl_one b (by omega), bOr _ _ (by omega) (by omega)]
        simp [tabw, hbit]
      | false =>
        rw [if_neg (by decide), shl_nat 0 b (by omega) (by omega), bOr _ _ (by omega) (by omega)]
        simp [tabw, hbit]
    rw [e]
    exact h1
theorem mat_outer (N : Nat) (hN : 64 < N) (n w k : Nat) (hk : k ≤ 2) (hkn : k ≤ n) (hq : n - k ≤ 2) (hw : w < 4294967296) (K : List Int → Option β) :
    ∀ (d a G : Nat), a + d = 2 ^ k → d < G →
      spec_MatrixOf_l0 N G (k : Int) (a : Int) (n : Int) (w : Int) (rows w k (2 ^ (n - k)) a) K = K (rows w k (2 ^ (n - k)) (2 ^ k)) := by
  have h4 : 2 ^ (n - k) ≤ 4 := Nat.pow_le_pow_right (by decide) hq
  have h4k : 2 ^ k ≤ 4 := Nat.pow_le_pow_right (by decide) hk
  intro d
  induction d with
  | zero =>
    intro a G ha hG
    obtain ⟨G, rfl⟩ : ∃ H, G = H + 1 := ⟨G - 1, by omega⟩
    simp only [spec_MatrixOf_l0, spec_MatrixOf_l0b]
    rw [gd_true (decide_eq_true (by omega : (0 : Int) ≤ (k : Int))), shl_one k (by omega), decide_eq_false (by omega : ¬ (a : Int) < ((2 ^ k : Nat) : Int)), cond_false, show a = 2 ^ k by omega]
  | succ d ih =>
    intro a G ha hG
    obtain ⟨G, rfl⟩ : ∃ H, G = H + 1 := ⟨G - 1, by omega⟩
    simp only [spec_MatrixOf_l0, spec_MatrixOf_l0b]
    rw [gd_true (decide_eq_true (by omega : (0 : Int) ≤ (k : Int))), shl_one k (by omega), decide_eq_true (by omega : (a : Int) < ((2 ^ k : Nat) : Int)), cond_true]
    have h0 := mat_inner (β := β) N n w k a hk hkn hq hw (by omega) (rows w k (2 ^ (n - k)) a) (fun e7_0 e7_1 e7_2 e7_3 e7_4 e7_5 =>
      (gd ((decide ((e7_5.length + ((([] : List Int) ++ [e7_2])).length) * 8 ≤ 140737488355328)))
      (spec_MatrixOf_l0 N G e7_0 ((w64 (e7_1 + 1))) e7_3 e7_4 ((e7_5 ++ (([] : List Int) ++ [e7_2]))) K))) (2 ^ (n - k)) 0 N (by omega) (by omega)
    simp only [tabw, Int.natCast_zero] at h0
    refine Eq.trans h0 ?_
    have hl := rows_len w k (2 ^ (n - k)) a
    rw [gd_true (decide_eq_true (by rw [hl]; simp only [List.nil_append, List.length_cons, List.length_nil]; omega)), w64_succ a (by omega), List.nil_append, ← rows_succ]
    exact ih (a + 1) G (by omega) (by omega)
theorem mrow_lt (w k q r : Nat) (hq : q ≤ 4) : mrow w k q r < 16 := Nat.lt_of_lt_of_le (tabw_lt _ _) (Nat.pow_le_pow_right (by decide) hq : 2 ^ q ≤ 2 ^ 4)

/-- Whether both values stand on a set of rows and a set of columns, and whether a 1 does. -/
def bothOn (w n k A B : Nat) : Bool := hx w k A B false (2 ^ n) 0 && hx w k A B true (2 ^ n) 0
def isOne (w n k A B : Nat) : Bool := hx w k A B true (2 ^ n) 0
theorem scan_eq (w n k A B : Nat) (hk : k ≤ 2) (hkn : k ≤ n) (hq : n - k ≤ 2) (hB : B < 2 ^ 2 ^ (n - k)) (v : Bool) : hrr A B (mrow w k (2 ^ (n - k))) v (2 ^ k) 0 = hx w k A B v (2 ^ n) 0 := by
  have h4 : 2 ^ (n - k) ≤ 4 := Nat.pow_le_pow_right (by decide) hq
  have en : k + (n - k) = n := by omega
  rw [Bool.eq_iff_iff, hrr_iff, hx_iff]
  constructor
  · rintro ⟨r, _, h1, h2, h3⟩
    obtain ⟨c, _, h4', h5, h6⟩ := (hcr_iff _ _ _ _ _).1 h3
    have hc : c < 2 ^ (n - k) := by
      by_cases hge : c < 2 ^ (n - k)
      · exact hge
      · have := Nat.testBit_lt_two_pow (Nat.lt_of_lt_of_le hB (Nat.pow_le_pow_right (by decide) (by omega : 2 ^ (n - k) ≤ c)))
        rw [this] at h5; cases h5
    have hsp := small_parts k hk (n - k) hq r (by omega) c hc
    rw [en] at hsp
    refine ⟨r ||| c * 2 ^ k, by omega, by omega, by rw [hsp.2.1]; exact h2, by rw [hsp.2.2]; exact h5, ?_⟩
    unfold mrow at h6
    rw [tabw_bit, decide_eq_true hc, Bool.true_and] at h6
    exact h6
  · rintro ⟨x, _, h1, h2, h3, h5⟩
    have hsw := small_whole k hk (n - k) hq x (by rw [en]; omega)
    refine ⟨x % 2 ^ k, by omega, by have := Nat.mod_lt x (Nat.two_pow_pos k); omega, h2, (hcr_iff _ _ _ _ _).2 ⟨x / 2 ^ k, Nat.zero_le _, by rw [Nat.zero_add]; exact Nat.lt_of_lt_of_le hsw.2 h4, h3, ?_⟩⟩
    unfold mrow
    rw [tabw_bit, decide_eq_true hsw.2, Bool.true_and]
    rw [hsw.1]
    exact h5
theorem some_bit (A k : Nat) (h0 : A ≠ 0) (h : A < 2 ^ 2 ^ k) : ∃ r, r < 2 ^ k ∧ A.testBit r = true := by
  obtain ⟨r, hr⟩ := Nat.exists_testBit_of_ne_zero h0
  refine ⟨r, ?_, hr⟩
  by_cases hge : r < 2 ^ k
  · exact hge
  · have := Nat.testBit_lt_two_pow (Nat.lt_of_lt_of_le h (Nat.pow_le_pow_right (by decide) (by omega : 2 ^ k ≤ r)))
    rw [this] at hr; cases hr
theorem some_value (w n k A B : Nat) (hk : k ≤ 2) (hkn : k ≤ n) (hq : n - k ≤ 2) (hA : A < 2 ^ 2 ^ k) (hB : B < 2 ^ 2 ^ (n - k)) (hA0 : A ≠ 0) (hB0 : B ≠ 0) : (hx w k A B false (2 ^ n) 0 || hx w k A B true (2 ^ n) 0) = true := by
  obtain ⟨r, hr, hra⟩ := some_bit A k hA0 hA
  obtain ⟨c, hc, hcb⟩ := some_bit B (n - k) hB0 hB
  have hsp := small_parts k hk (n - k) hq r hr c hc
  rw [show k + (n - k) = n by omega] at hsp
  have key : hx w k A B (w.testBit (r ||| c * 2 ^ k)) (2 ^ n) 0 = true := (hx_iff _ _ _ _ _ _ _).2 ⟨r ||| c * 2 ^ k, by omega, by omega, by rw [hsp.2.1]; exact hra, by rw [hsp.2.2]; exact hcb, rfl⟩
  cases hb : w.testBit (r ||| c * 2 ^ k) <;> rw [hb] at key <;> simp [key]
theorem mixed_single (w n k : Nat) (hk : k ≤ 2) (hkn : k ≤ n) (hq : n - k ≤ 2) : Single (bothOn w n k) := by
  intro A B hA hB h0 h1
  have h4 : 2 ^ (n - k) ≤ 4 := Nat.pow_le_pow_right (by decide) hq
  have h4k : 2 ^ k ≤ 4 := Nat.pow_le_pow_right (by decide) hk
  cases hm : bothOn w n k A B with
  | false => rfl
  | true =>
    exfalso
    unfold bothOn at hm
    simp only [Bool.and_eq_true, hx_iff] at hm
    obtain ⟨⟨x, _, hx1, hx2, hx3, hx4⟩, y, _, hy1, hy2, hy3, hy4⟩ := hm
    have ex := small_whole k hk (n - k) hq x (by rw [show k + (n - k) = n by omega]; omega)
    have ey := small_whole k hk (n - k) hq y (by rw [show k + (n - k) = n by omega]; omega)
    have mx := Nat.mod_lt x (Nat.two_pow_pos k)
    have my := Nat.mod_lt y (Nat.two_pow_pos k)
    have e1 := lg_zero A hA _ (by omega) _ (by omega) h0 hx2 hy2
    have e2 := lg_zero B hB _ (by omega) _ (by omega) h1 hx3 hy3
    have : x = y := by rw [← ex.1, ← ey.1, e1, e2]
    rw [this, hy4] at hx4
    cases hx4

/-- What the reference model and the program say of a value. -/
theorem enc_mixed (w n k A B : Nat) : decide (enc (hx w k A B false (2 ^ n) 0) (hx w k A B true (2 ^ n) 0) < 2) = !bothOn w n k A B := by
  unfold bothOn
  cases hx w k A B false (2 ^ n) 0 <;> cases hx w k A B true (2 ^ n) 0 <;> rfl
theorem encI_mixed (w n k A B : Nat) (h : (hx w k A B false (2 ^ n) 0 || hx w k A B true (2 ^ n) 0) = true) : decide (encI (hx w k A B false (2 ^ n) 0) (hx w k A B true (2 ^ n) 0) < 0) = bothOn w n k A B := by
  unfold bothOn
  revert h
  cases hx w k A B false (2 ^ n) 0 <;> cases hx w k A B true (2 ^ n) 0 <;> intro h <;> first | rfl | cases h
theorem enc_value (w n k A B : Nat) (h : (hx w k A B false (2 ^ n) 0 || hx w k A B true (2 ^ n) 0) = true) (hm : bothOn w n k A B = false) : enc (hx w k A B false (2 ^ n) 0) (hx w k A B true (2 ^ n) 0) = ((if isOne w n k A B then 1 else 0 : Nat) : Int) ∧ encI (hx w k A B false (2 ^ n) 0) (hx w k A B true (2 ^ n) 0) = ((if isOne w n k A B then 1 else 0 : Nat) : Int) := by
  unfold bothOn at hm
  unfold isOne
  revert h hm
  cases hx w k A B false (2 ^ n) 0 <;> cases hx w k A B true (2 ^ n) 0 <;> intro h hm <;> first | exact ⟨rfl, rfl⟩ | exact absurd h (by decide) | exact absurd hm (by decide)
end Go.Proofs.YtdkjnadhgdneaaaDoor
