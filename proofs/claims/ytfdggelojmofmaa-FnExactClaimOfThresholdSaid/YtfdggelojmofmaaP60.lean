/- Plain laws of the texts: weights that make a table. -/
import Derived.Test.YtfdggelojmofmaaP44
namespace Go.Proofs.Ytfdggelojmofmaa
open Go.Rv
set_option linter.unusedVariables false
variable {β : Type}
/-- The digits of a number to base 7, less 3, the last one first. -/
def dg : Nat → Nat → List Int
  | 0, _ => []
  | n + 1, c => (((c % 7 : Nat) : Int) - 3) :: dg n (c / 7)
theorem dg_len : ∀ n c, (dg n c).length = n
  | 0, _ => rfl
  | n + 1, c => by simp [dg, dg_len n]
theorem dg_snoc : ∀ n c, dg (n + 1) c = dg n c ++ [((c / 7 ^ n % 7 : Nat) : Int) - 3]
  | 0, c => by simp [dg]
  | n + 1, c => by
    rw [dg, dg_snoc n (c / 7), dg, Nat.div_div_eq_div_mul, Nat.pow_succ', List.cons_append]
theorem dg_range : ∀ n c, ∀ a ∈ dg n c, -3 ≤ a ∧ a ≤ 3
  | 0, _, a, h => by simp [dg] at h
  | n + 1, c, a, h => by
    simp only [dg, List.mem_cons] at h
    rcases h with rfl | h
    · omega
    · exact dg_range n _ a h
/-- The next weights, if there are some. -/
def inc : List Int → Option (List Int)
  | [] => none
  | a :: l => if a = 3 then (inc l).map ((-3) :: ·) else some ((a + 1) :: l)
theorem inc_dg : ∀ n c, c < 7 ^ n → inc (dg n c) = if c + 1 < 7 ^ n then some (dg n (c + 1)) else none
  | 0, c, h => by simp at h; subst h; rfl
  | n + 1, c, h => by
    rw [Nat.pow_succ] at h
    simp only [dg, inc]
    rw [inc_dg n (c / 7) (by omega), Nat.pow_succ]
    by_cases h6 : c % 7 = 6
    · rw [if_pos (by omega)]
      by_cases h7 : c / 7 + 1 < 7 ^ n
      · rw [if_pos h7, if_pos (by omega)]
        rw [show (c + 1) / 7 = c / 7 + 1 by omega, show (c + 1) % 7 = 0 by omega]
        rfl
      · rw [if_neg h7, if_neg (by omega)]
        rfl
    · rw [if_neg (by omega), if_pos (by omega), show (c + 1) / 7 = c / 7 by omega, show (c + 1) % 7 = c % 7 + 1 by omega]
      congr 2
      omega

/-- The weights of a number. -/
def wv (n c : Nat) : List Int := (dg n c).reverse
theorem wv_len (n c : Nat) : (wv n c).length = n := by simp [wv, dg_len]
/-- Weights that are small. -/
def okW (w : List Int) : Prop := w.length ≤ 4 ∧ ∀ a ∈ w, -3 ≤ a ∧ a ≤ 3
theorem okW_wv (n c : Nat) (h : n ≤ 4) : okW (wv n c) := ⟨by rw [wv_len]; exact h, fun a ha => dg_range n c a (by simpa [wv] using ha)⟩
theorem okW_rd {w : List Int} (h : okW w) (i : Nat) : -3 ≤ rd 0 w (i : Int) ∧ rd 0 w (i : Int) ≤ 3 := by
  rcases Nat.lt_or_ge i w.length with hi | hi
  · rw [rd_nat 0 w i hi]
    exact h.2 _ (List.getElem_mem hi)
  · have : rd 0 w (i : Int) = 0 := by simp [rd, List.getD, List.getElem?_eq_none hi]
    omega

def wt (w : List Int) (x i : Nat) : Int := if x.testBit i then rd 0 w (i : Int) else 0
theorem wt_le {w : List Int} (h : okW w) (x i : Nat) : -3 ≤ wt w x i ∧ wt w x i ≤ 3 := by
  unfold wt
  split
  · exact okW_rd h i
  · omega
theorem sumTo_le3 (h : Nat → Int) (hb : ∀ i, -3 ≤ h i ∧ h i ≤ 3) : ∀ m : Nat, -(3 * (m : Int)) ≤ sumTo h m ∧ sumTo h m ≤ 3 * (m : Int)
  | 0 => by simp [sumTo]
  | m + 1 => by have := sumTo_le3 h hb m; have := hb m; simp only [sumTo]; omega
/-- The sum of the weights of the variables that are 1. -/
def sw (w : List Int) (x : Nat) : Int := sumTo (wt w x) w.length
theorem sw_le {w : List Int} (h : okW w) (x : Nat) : -12 ≤ sw w x ∧ sw w x ≤ 12 := by
  have h1 := sumTo_le3 (wt w x) (wt_le h x) w.length
  have h2 := h.1
  unfold sw
  omega

theorem spec_l16Sum_eq (N : Nat) (hN : 64 < N) (w : List Int) (hw : okW w) (x : Nat) (hx : x < 4294967296) (k : Int → Option β) : spec_l16Sum N w (x : Int) k = k (sw w x) := by
  have hl := hw.1
  unfold spec_l16Sum
  refine loop_st (fun F i => spec_l16Sum_l0 N F w (x : Int) (sumTo (wt w x) i) (i : Int) fun e => k e) w.length _ (fun F i hi => ?_) (fun F => ?_) N 0 (by omega) (by omega)
  · simp only [spec_l16Sum_l0, spec_l16Sum_l0b]
    have h1 := sumTo_le3 (wt w x) (wt_le hw x) i
    have h2 := okW_rd hw i
    rw [decide_eq_true (by omega), cond_true, gd_true (decide_eq_true (by omega)), bit_at x i (by omega), w64_succ i (by omega)]
    simp only [sumTo, wt]
    cases x.testBit i with
    | true =>
      rw [gd_true rfl, gd_true (decide_eq_true (by omega)), w64_id (by omega) (by omega)]
      rfl
    | false =>
      rw [if_neg (by decide), if_neg (by decide), Int.add_zero]
      rfl
  · simp only [spec_l16Sum_l0, spec_l16Sum_l0b]
    rw [decide_eq_false (by omega), cond_false]
    rfl
theorem impl_weightAt_eq (N : Nat) (hN : 64 < N) (w : List Int) (hw : okW w) (x : Nat) (hx : x < 4294967296) (k : Int → Option β) : impl_weightAt N w (x : Int) k = k (sw w x) := by
  have hl := hw.1
  unfold impl_weightAt
  refine loop_st (fun F i => impl_weightAt_l0 N F (x : Int) (sumTo (wt w x) i) w (w.length : Int) (i : Int) fun e => k e) w.length _ (fun F i hi => ?_) (fun F => ?_) N 0 (by omega) (by omega)
  · simp only [impl_weightAt_l0, impl_weightAt_l0b]
    have h1 := sumTo_le3 (wt w x) (wt_le hw x) i
    have h2 := okW_rd hw i
    rw [decide_eq_true (by omega), cond_true, gd_true (decide_eq_true (by omega)), gd_true rfl, gd_true (decide_eq_true (by omega)), bit_at x i (by omega), w64_succ i (by omega)]
    have e : rd 0 w (i : Int) * ((if x.testBit i then 1 else 0 : Nat) : Int) = wt w x i := by
      unfold wt
      cases x.testBit i <;> simp
    have h3 := wt_le hw x i
    rw [e, w64_id (x := wt w x i) (by omega) (by omega), w64_id (by omega) (by omega)]
    rfl
  · simp only [impl_weightAt_l0, impl_weightAt_l0b]
    rw [decide_eq_false (by omega), cond_false]
    rfl

/-- The least sum of ones, and the greatest of zeros. -/
def lo (h : Nat → Int) (v : Nat → Bool) : Nat → Option Int
  | 0 => none
  | x + 1 => if v x then some (match lo h v x with | none => h x | some y => if h x < y then h x else y) else lo h v x
def hi (h : Nat → Int) (v : Nat → Bool) : Nat → Option Int
  | 0 => none
  | x + 1 => if v x then hi h v x else some (match hi h v x with | none => h x | some y => if h x > y then h x else y)
theorem lo_le {h : Nat → Int} {v : Nat → Bool} (hb : ∀ x, -12 ≤ h x ∧ h x ≤ 12) : ∀ {m : Nat} {y : Int}, lo h v m = some y → -12 ≤ y ∧ y ≤ 12
  | 0, y, e => by cases e
  | m + 1, y, e => by
    have hm := hb m
    simp only [lo] at e
    split at e
    · cases hl : lo h v m with
      | none => rw [hl] at e; cases e; exact hm
      | some z =>
        have := lo_le hb hl
        rw [hl] at e
        cases e
        show -12 ≤ (if h m < z then h m else z) ∧ (if h m < z then h m else z) ≤ 12
        split <;> assumption
    · exact lo_le hb e
theorem hi_le {h : Nat → Int} {v : Nat → Bool} (hb : ∀ x, -12 ≤ h x ∧ h x ≤ 12) : ∀ {m : Nat} {y : Int}, hi h v m = some y → -12 ≤ y ∧ y ≤ 12
  | 0, y, e => by cases e
  | m + 1, y, e => by
    have hm := hb m
    simp only [hi] at e
    split at e
    · exact hi_le hb e
    · cases hl : hi h v m with
      | none => rw [hl] at e; cases e; exact hm
      | some z =>
        have := hi_le hb hl
        rw [hl] at e
        cases e
        show -12 ≤ (if h m > z then h m else z) ∧ (if h m > z then h m else z) ≤ 12
        split <;> assumption
theorem lo_hi (h : Nat → Int) (v : Nat → Bool) : ∀ m, 0 < m → lo h v m = none → (hi h v m).isSome = true
  | 0, hm, _ => by omega
  | m + 1, _, e => by
    simp only [lo] at e
    simp only [hi]
    split at e
    · cases e
    · rename_i hv
      rw [if_neg hv]
      rfl
/-- The threshold with which weights make a table. -/
def thr (W n : Nat) (w : List Int) : Int × Bool :=
  match lo (sw w) W.testBit (2 ^ n) with
  | none => ((hi (sw w) W.testBit (2 ^ n)).getD 0 + 1, true)
  | some l => (l, match hi (sw w) W.testBit (2 ^ n) with | none => true | some m => decide (m < l))

theorem spec_l16Fits_eq (N : Nat) (hN : 64 < N) (n W : Nat) (hn : n ≤ 5) (hW : W < 4294967296) (w : List Int) (hw : okW w) (k : Int → Bool → Option β) :
    spec_l16Fits N (n : Int) (W : Int) w k = k (thr W n w).1 (thr W n w).2 := by
  have hs := size_le hn
  have hz : (0 : Int) ≤ ((2 ^ n : Nat) : Int) := Int.natCast_nonneg _
  have hb := fun x => sw_le hw x
  unfold spec_l16Fits
  refine loop_st (fun F x => spec_l16Fits_l0 N F w ((lo (sw w) W.testBit x).getD 100) ((hi (sw w) W.testBit x).getD (-100)) (x : Int) (n : Int) (W : Int) fun e6_0 e6_1 =>
    cond (e6_0 == 100) (k (w64 (e6_1 + 1)) true) (k e6_0 (decide (e6_1 < e6_0)))) (2 ^ n) (k (thr W n w).1 (thr W n w).2) (fun F x hx => ?_) (fun F => ?_) N 0 (by omega) (by omega)
  · simp only [spec_l16Fits_l0, spec_l16Fits_l0b]
    have h1 := hb x
    rw [gd_true (decide_eq_true (by omega)), shl_one n (by omega), decide_eq_true (by omega), cond_true, spec_l16Sum_eq N hN w hw x (by omega), gd_true (decide_eq_true (by omega)), bit_at W x (by omega), w64_succ x (by omega)]
    simp only [lo, hi]
    cases W.testBit x with
    | true =>
      rw [if_pos rfl, if_pos rfl, if_pos rfl]
      cases hl : lo (sw w) W.testBit x with
      | none =>
        have e : mnI 100 (sw w x) = sw w x := by unfold mnI; rw [if_pos (by omega)]
        simp only [Option.getD, e]
        rfl
      | some y => rfl
    | false =>
      rw [if_neg (by decide), if_neg (by decide), if_neg (by decide)]
      cases hl : hi (sw w) W.testBit x with
      | none =>
        have e : mxI (-100) (sw w x) = sw w x := by unfold mxI; rw [if_pos (by omega)]
        simp only [Option.getD, e]
        rfl
      | some y => rfl
  · simp only [spec_l16Fits_l0, spec_l16Fits_l0b]
    rw [gd_true (decide_eq_true (by omega)), shl_one n (by omega), decide_eq_false (by omega), cond_false]
    unfold thr
    cases hl : lo (sw w) W.testBit (2 ^ n) with
    | none =>
      obtain ⟨y, hy⟩ := Option.isSome_iff_exists.1 (lo_hi (sw w) W.testBit (2 ^ n) (Nat.two_pow_pos n) hl)
      have := hi_le hb hy
      rw [hy]
      show (cond ((100 : Int) == 100) (k (w64 (y + 1)) true) _) = k (y + 1) true
      rw [w64_id (by omega) (by omega)]
      rfl
    | some l =>
      have h2 := lo_le hb hl
      show (cond (l == 100) _ (k l (decide (_ < l)))) = _
      rw [beq_eq_false_iff_ne.2 (by omega), cond_false]
      cases hm : hi (sw w) W.testBit (2 ^ n) with
      | none =>
        show k l (decide (-100 < l)) = k l true
        rw [decide_eq_true (by omega)]
      | some m => rfl

theorem impl_threshold_eq (N : Nat) (hN : 64 < N) (n W : Nat) (hn : n ≤ 5) (hW : W < 4294967296) (w : List Int) (hw : okW w) (k : Int → Bool → Option β) :
    impl_Table_threshold N (n : Int) (W : Int) w k = k (thr W n w).1 (thr W n w).2 := by
  have hs := size_le hn
  have hz : (0 : Int) ≤ ((2 ^ n : Nat) : Int) := Int.natCast_nonneg _
  have hb := fun x => sw_le hw x
  unfold impl_Table_threshold
  rw [impl_Table_size_eq N n _ hn]
  refine loop_st (fun F x => impl_Table_threshold_l0 N F w ((lo (sw w) W.testBit x).getD 0) ((hi (sw w) W.testBit x).getD 0) (lo (sw w) W.testBit x).isSome (hi (sw w) W.testBit x).isNone ((2 ^ n : Nat) : Int) (x : Int) (n : Int) (W : Int) fun e12_0 e12_1 e12_2 e12_3 =>
    cond (!e12_2) (k (w64 (e12_1 + 1)) true) (cond e12_3 (k e12_0 true) (k e12_0 (decide (e12_1 < e12_0))))) (2 ^ n) (k (thr W n w).1 (thr W n w).2) (fun F x hx => ?_) (fun F => ?_) N 0 (by omega) (by omega)
  · simp only [impl_Table_threshold_l0, impl_Table_threshold_l0b, impl_Table_at_eq N W x _ hW]
    have h1 := hb x
    rw [decide_eq_true (by omega), cond_true, impl_weightAt_eq N hN w hw x (by omega), w64_succ x (by omega)]
    simp only [lo, hi, bw]
    cases W.testBit x with
    | true =>
      rw [if_pos rfl, if_pos rfl, if_pos rfl]
      cases hl : lo (sw w) W.testBit x with
      | none => rfl
      | some y =>
        by_cases hlt : sw w x < y
        · simp only [Option.getD, Option.isSome, decide_eq_true hlt, if_pos hlt]; rfl
        · simp only [Option.getD, Option.isSome, decide_eq_false hlt, if_neg hlt]; rfl
    | false =>
      rw [if_neg (by decide), if_neg (by decide), if_neg (by decide)]
      cases hl : hi (sw w) W.testBit x with
      | none => rfl
      | some y =>
        by_cases hlt : sw w x > y
        · simp only [Option.getD, Option.isNone, decide_eq_true hlt, if_pos hlt]; rfl
        · simp only [Option.getD, Option.isNone, decide_eq_false hlt, if_neg hlt]; rfl
  · simp only [impl_Table_threshold_l0, impl_Table_threshold_l0b]
    rw [decide_eq_false (by omega), cond_false]
    unfold thr
    cases hl : lo (sw w) W.testBit (2 ^ n) with
    | none =>
      obtain ⟨y, hy⟩ := Option.isSome_iff_exists.1 (lo_hi (sw w) W.testBit (2 ^ n) (Nat.two_pow_pos n) hl)
      have := hi_le hb hy
      rw [hy]
      show k (w64 (y + 1)) true = k (y + 1) true
      rw [w64_id (by omega) (by omega)]
    | some l =>
      cases hm : hi (sw w) W.testBit (2 ^ n) with
      | none => rfl
      | some m => rfl
end Go.Proofs.Ytfdggelojmofmaa
