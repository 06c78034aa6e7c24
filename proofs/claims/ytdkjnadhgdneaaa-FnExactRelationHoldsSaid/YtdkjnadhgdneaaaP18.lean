/- Plain laws of the texts: ones, influence and degrees of a table. -/
import Derived.Test.YtdkjnadhgdneaaaP17
namespace Go.Proofs.Ytdkjnadhgdneaaa
open Go.Rv
set_option linter.unusedVariables false
variable {β : Type}
theorem spec_CountOnes_eq (N : Nat) (hN : 64 < N) (n w : Nat) (hn : n ≤ 5) (hw : w < 2 ^ 2 ^ n) (k : Int → Option β) : spec_CountOnes N (n : Int) (w : Int) k = k (ones w : Int) := by
  unfold spec_CountOnes
  rw [spec_IsTable_eq, isT_of hn hw, Bool.not_true, cond_false, spec_l2Count_eq N w hN (two32 hn hw)]
theorem impl_CountOnes_eq (N : Nat) (hN : 64 < N) (n w : Nat) (hn : n ≤ 5) (hw : w < 2 ^ 2 ^ n) (k : Int → Option β) : impl_CountOnes N (n : Int) (w : Int) k = k (ones w : Int) := by
  have hw' := two32 hn hw
  unfold impl_CountOnes
  rw [impl_IsTable_eq N _ _ (by omega), isT_of hn hw, Bool.not_true, cond_false, impl_ones_eq N w hw']

/-- A sum. -/
def sm (f : Nat → Nat) : Nat → Nat
  | 0 => 0
  | m + 1 => sm f m + f m
theorem sm_add (f g : Nat → Nat) : ∀ m, sm (fun x => f x + g x) m = sm f m + sm g m
  | 0 => rfl
  | m + 1 => by simp only [sm, sm_add f g m]; omega
theorem sm_cnt (g : Nat → Bool) : ∀ m, sm (fun x => if g x then 1 else 0) m = cnt g m
  | 0 => rfl
  | m + 1 => by simp only [sm, cnt, sm_cnt g m]
theorem sm_zero : ∀ m, sm (fun _ => 0) m = 0
  | 0 => rfl
  | m + 1 => by simp only [sm, sm_zero m]
theorem sm_le (f : Nat → Nat) (B : Nat) : ∀ m, (∀ x, x < m → f x ≤ B) → sm f m ≤ m * B
  | 0, _ => by simp [sm]
  | m + 1, h => by
    have h1 := sm_le f B m fun x hx => h x (by omega)
    have h2 := h m (by omega)
    simp only [sm, Nat.add_mul]
    omega
theorem sm_congr {f g : Nat → Nat} : ∀ {m : Nat}, (∀ x, x < m → f x = g x) → sm f m = sm g m
  | 0, _ => rfl
  | m + 1, h => by simp only [sm]; rw [sm_congr fun x hx => h x (by omega), h m (by omega)]
theorem sm_swap (e : Nat → Nat → Bool) (n : Nat) : ∀ M, sm (fun x => cnt (fun i => e i x) n) M = sm (fun i => cnt (e i) M) n
  | 0 => by simp only [sm, cnt]; exact (sm_zero n).symm
  | M + 1 => by
    simp only [sm, cnt]
    rw [sm_swap e n M, sm_add, sm_cnt]

/-- The sum of all influences. -/
def total (w n : Nat) : Nat := sm (fun i => infl w i (2 ^ n)) n
theorem infl_le (w i m : Nat) : infl w i m ≤ m := cnt_le _ m
theorem total_le (w n : Nat) (hn : n ≤ 5) : total w n ≤ 160 := by
  have hs := size_le hn
  have := sm_le (fun i => infl w i (2 ^ n)) 32 n fun i _ => Nat.le_trans (infl_le w i _) hs
  unfold total
  omega
theorem sm_even (f : Nat → Nat) : ∀ m, (∀ x, x < m → f x % 2 = 0) → sm f m % 2 = 0
  | 0, _ => rfl
  | m + 1, h => by
    have h1 := sm_even f m fun x hx => h x (by omega)
    have h2 := h m (by omega)
    simp only [sm]
    omega
theorem total_even (w n : Nat) (hn : n ≤ 5) (hw : w < 2 ^ 2 ^ n) : total w n % 2 = 0 := sm_even _ n fun i hi => by
  show infl w i (2 ^ n) % 2 = 0
  rw [infl_half w n i 0 hn hi (by decide) hw]
  omega
theorem spec_TotalInfluence_eq (N : Nat) (hN : 64 < N) (n w : Nat) (hn : n ≤ 5) (hw : w < 2 ^ 2 ^ n) (k : Int → Option β) : spec_TotalInfluence N (n : Int) (w : Int) k = k (total w n : Int) := by
  have hs := size_le hn
  unfold spec_TotalInfluence spec_SensitiveEdges
  simp only [spec_IsTable_eq, isT_of hn hw, Bool.not_true, cond_false]
  have key : ∀ (K : Int → Option β) (F x : Nat), 2 ^ n - x < F → x ≤ 2 ^ n → spec_SensitiveEdges_l0 N F (sm (sens w n) x : Int) (x : Int) (n : Int) (w : Int) K = K (sm (sens w n) (2 ^ n) : Int) := by
    intro K F
    induction F with
    | zero => intro x h; omega
    | succ F ih =>
      intro x hF hx
      simp only [spec_SensitiveEdges_l0, spec_SensitiveEdges_l0b]
      rw [gd_true (decide_eq_true (by omega : (0 : Int) ≤ (n : Int))), shl_one n (by omega)]
      by_cases hlt : x < 2 ^ n
      · have hsm := sm_le (sens w n) 5 (x + 1) fun x _ => Nat.le_trans (sens_le w n x) hn
        rw [decide_eq_true (by omega : (x : Int) < ((2 ^ n : Nat) : Int)), cond_true, spec_l10At_eq N hN n w x hn hw hlt, ← Int.natCast_add, show sm (sens w n) x + sens w n x = sm (sens w n) (x + 1) from rfl, w64_nat _ (by omega), w64_succ x (by omega)]
        exact ih (x + 1) (by omega) (by omega)
      · rw [decide_eq_false (by omega : ¬ (x : Int) < ((2 ^ n : Nat) : Int)), cond_false, show x = 2 ^ n by omega]
  have e := key (fun e5_0 => k (w64 (2 * quoI .i64 e5_0 2))) N 0 (by omega) (Nat.zero_le _)
  simp only [sm, Int.natCast_zero] at e
  refine e.trans ?_
  have e2 : sm (sens w n) (2 ^ n) = total w n := sm_swap (edge w) n (2 ^ n)
  rw [e2]
  have hev := total_even w n hn hw
  have hle := total_le w n hn
  congr 1
  unfold quoI
  rw [show ((total w n : Nat) : Int).tdiv 2 = ((total w n / 2 : Nat) : Int) from (Int.ofNat_tdiv (total w n) 2).symm]
  show w64 (2 * w64 ((total w n / 2 : Nat) : Int)) = _
  rw [w64_nat _ (by omega), w64_id (by omega) (by omega)]
  omega
theorem impl_TotalInfluence_eq (N : Nat) (hN : 64 < N) (n w : Nat) (hn : n ≤ 5) (hw : w < 2 ^ 2 ^ n) (k : Int → Option β) : impl_TotalInfluence N (n : Int) (w : Int) k = k (total w n : Int) := by
  have hw' := two32 hn hw
  have hs := size_le hn
  unfold impl_TotalInfluence
  rw [impl_IsTable_eq N _ _ (by omega), isT_of hn hw, Bool.not_true, cond_false, impl_influences_eq N hN n w hn hw]
  simp only [infls_len]
  have key : ∀ (F i : Nat), n - i < F → i ≤ n → impl_TotalInfluence_l0 N F (sm (fun i => infl w i (2 ^ n)) i : Int) (n : Int) (i : Int) (infls w n n) k = k (total w n : Int) := by
    intro F
    induction F with
    | zero => intro i h; omega
    | succ F ih =>
      intro i hF hi
      simp only [impl_TotalInfluence_l0, impl_TotalInfluence_l0b, infls_len]
      by_cases hlt : i < n
      · have hsm := sm_le (fun i => infl w i (2 ^ n)) 32 (i + 1) fun i _ => Nat.le_trans (infl_le w i _) hs
        have hr : rd 0 (infls w n n) (i : Int) = ((infl w i (2 ^ n) : Nat) : Int) := by
          rw [rd_nat 0 _ i (by rw [infls_len]; exact hlt)]
          have := infls_get w n n i hlt
          rw [List.getElem?_eq_getElem (by rw [infls_len]; exact hlt)] at this
          exact Option.some.inj this
        rw [decide_eq_true (by omega : (i : Int) < (n : Int)), cond_true, gd_true (decide_eq_true (by omega : (0 : Int) ≤ (i : Int))), gd_true rfl, hr, ← Int.natCast_add, show sm (fun i => infl w i (2 ^ n)) i + infl w i (2 ^ n) = sm (fun i => infl w i (2 ^ n)) (i + 1) from rfl, w64_nat _ (by omega), w64_succ i (by omega)]
        exact ih (i + 1) (by omega) (by omega)
      · rw [decide_eq_false (by omega : ¬ (i : Int) < (n : Int)), cond_false, show i = n by omega]
        rfl
  exact key N 0 (by omega) (Nat.zero_le _)

/-! ### Degrees -/

/-- The greatest number of ones of a number that is such; -1, if none is. -/
def dg (p : Nat → Bool) : Nat → Int
  | 0 => -1
  | m + 1 => if p m then mxI (dg p m) (ones m : Int) else dg p m
theorem dg_bound (p : Nat → Bool) : ∀ m, -1 ≤ dg p m ∧ dg p m ≤ 32
  | 0 => by simp [dg]
  | m + 1 => by
    have h1 := dg_bound p m
    have h2 := ones_le m
    simp only [dg, mxI]
    split
    · split <;> omega
    · exact h1
theorem dg_congr {p q : Nat → Bool} : ∀ {m : Nat}, (∀ x, x < m → p x = q x) → dg p m = dg q m
  | 0, _ => rfl
  | m + 1, h => by simp only [dg]; rw [dg_congr fun x hx => h x (by omega), h m (by omega)]
theorem impl_degree_eq (N : Nat) (hN : 64 < N) (n : Nat) (hn : n ≤ 5) (h : Int → (Bool → Option β) → Option β) (p : Nat → Bool) (hh : ∀ (x : Nat) k, x < 2 ^ n → h (x : Int) k = k (p x)) (k : Int → Option β) :
    impl_degree N (n : Int) h k = k (dg p (2 ^ n)) := by
  have hs := size_le hn
  unfold impl_degree
  rw [gd_true (decide_eq_true (by omega : (0 : Int) ≤ (n : Int))), shl_one n (by omega)]
  have key : ∀ (F m : Nat), 2 ^ n - m < F → m ≤ 2 ^ n → impl_degree_l0 N h F (dg p m) ((2 ^ n : Nat) : Int) (m : Int) k = k (dg p (2 ^ n)) := by
    intro F
    induction F with
    | zero => intro x h; omega
    | succ F ih =>
      intro m hF hm
      simp only [impl_degree_l0, impl_degree_l0b]
      by_cases hlt : m < 2 ^ n
      · rw [decide_eq_true (by omega : (m : Int) < ((2 ^ n : Nat) : Int)), cond_true, hh m _ hlt, impl_ones_eq N m (by omega), w64_succ m (by omega)]
        have h1 := ih (m + 1) (by omega) (by omega)
        simp only [dg] at h1
        cases hp : p m with
        | true => rw [hp] at h1; exact h1
        | false => rw [hp] at h1; exact h1
      · rw [decide_eq_false (by omega : ¬ (m : Int) < ((2 ^ n : Nat) : Int)), cond_false, show m = 2 ^ n by omega]
  exact key N 0 (by omega) (Nat.zero_le _)

/-- Whether a value is summed for a set: parts of it with value 1. -/
def part (w m x : Nat) : Bool := x &&& m == x && w.testBit x
theorem part_gt (w m x : Nat) (h : m < x) : (x &&& m == x) = false := by
  have : x &&& m ≤ m := Nat.and_le_right
  exact beq_false_of_ne (by omega)
theorem cnt_part (w m : Nat) : ∀ d, cnt (part w m) (m + 1 + d) = cnt (part w m) (m + 1)
  | 0 => rfl
  | d + 1 => by
    rw [← Nat.add_assoc, cnt, cnt_part w m d]
    unfold part
    rw [part_gt w m (m + 1 + d) (by omega)]
    rfl
/-- The coefficients modulo 2. -/
def anf (w n : Nat) : Nat := tabw (fun m => cnt (part w m) (2 ^ n) % 2 == 1) (2 ^ n)
theorem anf_lt (w n : Nat) : anf w n < 2 ^ 2 ^ n := tabw_lt _ _
theorem and_eq (x m : Nat) : (((x &&& m : Nat) : Int) == (x : Int)) = (x &&& m == x) := by
  rw [Bool.eq_iff_iff, beq_iff_eq, beq_iff_eq]
  omega
theorem andnot_eq (x m : Nat) : (((x ^^^ (x &&& m) : Nat) : Int) == 0) = (x &&& m == x) := by
  rw [Bool.eq_iff_iff, beq_iff_eq, beq_iff_eq]
  constructor
  · intro h
    have h : x ^^^ (x &&& m) = 0 := by omega
    have h2 := xor_self_cancel x (x &&& m)
    rw [h, Nat.zero_xor] at h2
    exact h2
  · intro h
    rw [h, Nat.xor_self]
    rfl
theorem spec_anf_inner (N : Nat) (n w m : Nat) (hw : w < 4294967296) (hm : m < 32) (v0 : Int) (K : Int → Int → Int → Int → Int → Option β) :
    ∀ (F x : Nat), m + 1 - x < F → x ≤ m + 1 → spec_l11Anf_l2 N F v0 (m : Int) (cnt (part w m) x : Int) (x : Int) (n : Int) (w : Int) K = K v0 m (cnt (part w m) (m + 1) : Int) n w := by
  intro F
  induction F with
  | zero => intro x h; omega
  | succ F ih =>
    intro x hF hx
    simp only [spec_l11Anf_l2, spec_l11Anf_l2b]
    by_cases hlt : x ≤ m
    · have hc := cnt_le (part w m) x
      rw [decide_eq_true (by omega : (x : Int) ≤ (m : Int)), cond_true, bAnd x m (by omega) (by omega), and_eq, gd_true (decide_eq_true (by omega : (0 : Int) ≤ (x : Int))), bit_at w x (by omega), w64_succ x (by omega), ← Int.natCast_add, w64_nat _ (by split <;> omega)]
      have h1 := ih (x + 1) (by omega) (by omega)
      have h2 : cnt (part w m) (x + 1) = cnt (part w m) x + (if part w m x then 1 else 0) := rfl
      rw [h2] at h1
      unfold part at h1 ⊢
      cases he : x &&& m == x with
      | true => rw [he] at h1; simpa using h1
      | false => rw [he] at h1; simpa using h1
    · rw [decide_eq_false (by omega : ¬ (x : Int) ≤ (m : Int)), cond_false, show x = m + 1 by omega]
theorem spec_l11Anf_eq (N : Nat) (hN : 64 < N) (n w : Nat) (hn : n ≤ 5) (hw : w < 2 ^ 2 ^ n) (k : Int → Option β) : spec_l11Anf N (n : Int) (w : Int) k = k (anf w n : Int) := by
  have hw' := two32 hn hw
  have hs := size_le hn
  unfold spec_l11Anf
  have key : ∀ (F m : Nat), 2 ^ n - m < F → m ≤ 2 ^ n → spec_l11Anf_l0 N F (tabw (fun m => cnt (part w m) (2 ^ n) % 2 == 1) m : Int) (m : Int) (n : Int) (w : Int) k = k (anf w n : Int) := by
    intro F
    induction F with
    | zero => intro x h; omega
    | succ F ih =>
      intro m hF hm
      simp only [spec_l11Anf_l0, spec_l11Anf_l0b]
      rw [gd_true (decide_eq_true (by omega : (0 : Int) ≤ (n : Int))), shl_one n (by omega)]
      by_cases hlt : m < 2 ^ n
      · have e := fun K => spec_anf_inner (β := β) N n w m hw' (by omega) (tabw (fun m => cnt (part w m) (2 ^ n) % 2 == 1) m : Int) K N 0 (by omega) (by omega)
        simp only [cnt, Int.natCast_zero] at e
        have e2 := cnt_part w m (2 ^ n - (m + 1))
        rw [show m + 1 + (2 ^ n - (m + 1)) = 2 ^ n by omega] at e2
        have e3 : cnt (part w m) m + (if part w m m then 1 else 0) = cnt (part w m) (2 ^ n) := e2.symm
        rw [decide_eq_true (by omega : (m : Int) < ((2 ^ n : Nat) : Int)), cond_true, e, e3]
        have hlt2 := tabw_lt (fun m => cnt (part w m) (2 ^ n) % 2 == 1) m
        have hp : 2 ^ m ≤ 2 ^ 31 := Nat.pow_le_pow_right (by decide) (by omega)
        have e4 : remI ((cnt (part w m) (2 ^ n) : Nat) : Int) 2 = ((cnt (part w m) (2 ^ n) % 2 : Nat) : Int) := remI_len _ 2 (by decide)
        have hmod := Nat.mod_lt (cnt (part w m) (2 ^ n)) (by decide : 0 < 2)
        rw [gd_true (decide_eq_true (by omega : (0 : Int) ≤ (m : Int))), e4, shl_nat _ m (by omega) (by have := Nat.mul_le_mul (Nat.le_of_lt_succ hmod) hp; omega), bOr _ _ (by omega) (by have := Nat.mul_le_mul (Nat.le_of_lt_succ hmod) hp; omega), w64_succ m (by omega)]
        have e5 : tabw (fun m => cnt (part w m) (2 ^ n) % 2 == 1) (m + 1) = (tabw (fun m => cnt (part w m) (2 ^ n) % 2 == 1) m ||| cnt (part w m) (2 ^ n) % 2 * 2 ^ m) := by
          rw [tabw]
          congr 1
          rcases Nat.mod_two_eq_zero_or_one (cnt (part w m) (2 ^ n)) with h | h <;> simp [h]
        have h1 := ih (m + 1) (by omega) (by omega)
        rw [e5] at h1
        exact h1
      · rw [decide_eq_false (by omega : ¬ (m : Int) < ((2 ^ n : Nat) : Int)), cond_false, show m = 2 ^ n by omega]
        rfl
  exact key N 0 (by omega) (Nat.zero_le _)
theorem xor_bit (c : Nat) (b : Bool) : bits .xor .i64 ((c % 2 : Nat) : Int) ((if b then 1 else 0 : Nat) : Int) = (((c + (if b then 1 else 0)) % 2 : Nat) : Int) := by
  have hmod := Nat.mod_lt c (by decide : 0 < 2)
  rw [bXor _ _ (by omega) (by split <;> omega)]
  rcases Nat.mod_two_eq_zero_or_one c with h | h <;> cases b <;> simp [h] <;> omega
theorem impl_anf_bit (N : Nat) (hN : 64 < N) (n w m : Nat) (hn : n ≤ 5) (hw : w < 4294967296) (hm : m < 2 ^ n) (k : Bool → Option β) :
    impl_Table_anf_1 N (m : Int) (n : Int) (w : Int) k = k (cnt (part w m) (2 ^ n) % 2 == 1) := by
  have hs := size_le hn
  unfold impl_Table_anf_1 impl_Table_size
  rw [gd_true (decide_eq_true (by omega : (0 : Int) ≤ (n : Int))), shl_one n (by omega)]
  have key : ∀ (K : Int → Option β) (F x : Nat), 2 ^ n - x < F → x ≤ 2 ^ n → impl_Table_anf_1_l0 N F (m : Int) (n : Int) (w : Int) ((cnt (part w m) x % 2 : Nat) : Int) ((2 ^ n : Nat) : Int) (x : Int) K = K ((cnt (part w m) (2 ^ n) % 2 : Nat) : Int) := by
    intro K F
    induction F with
    | zero => intro x h; omega
    | succ F ih =>
      intro x hF hx
      simp only [impl_Table_anf_1_l0, impl_Table_anf_1_l0b, impl_Table_at]
      by_cases hlt : x < 2 ^ n
      · rw [decide_eq_true (by omega : (x : Int) < ((2 ^ n : Nat) : Int)), cond_true, bAndNot x m (by omega) (by omega), andnot_eq, gd_true (decide_eq_true (by omega : (0 : Int) ≤ (x : Int))), bit_at w x (by omega), xor_bit, w64_succ x (by omega)]
        have h1 := ih (x + 1) (by omega) (by omega)
        have h2 : cnt (part w m) (x + 1) = cnt (part w m) x + (if part w m x then 1 else 0) := rfl
        rw [h2] at h1
        have h3 : part w m x = (x &&& m == x && w.testBit x) := rfl
        rw [h3] at h1
        cases he : x &&& m == x with
        | true => rw [he, Bool.true_and] at h1; exact h1
        | false => rw [he] at h1; simpa using h1
      · rw [decide_eq_false (by omega : ¬ (x : Int) < ((2 ^ n : Nat) : Int)), cond_false, show x = 2 ^ n by omega]
  have e := key (fun e4_0 => k (e4_0 == 1)) N 0 (by omega) (Nat.zero_le _)
  simp only [cnt, Int.natCast_zero, Nat.zero_mod] at e
  refine e.trans ?_
  congr 1
  rw [Bool.eq_iff_iff, beq_iff_eq, beq_iff_eq]
  omega
theorem impl_Table_anf_eq (N : Nat) (hN : 64 < N) (n w : Nat) (hn : n ≤ 5) (hw : w < 2 ^ 2 ^ n) (k : Int → Int → Option β) : impl_Table_anf N (n : Int) (w : Int) k = k n (anf w n : Int) := by
  unfold impl_Table_anf
  rw [makeTable_eq N hN n hn _ (fun m => cnt (part w m) (2 ^ n) % 2 == 1) fun x k hx => impl_anf_bit N hN n w x hn (two32 hn hw) hx k]
  rfl
theorem bit_eq_one (c : Bool) : (((if c then 1 else 0 : Nat) : Int) == 1) = c := by cases c <;> rfl
theorem spec_DegreeMod2_eq (N : Nat) (hN : 64 < N) (n w : Nat) (hn : n ≤ 5) (hw : w < 2 ^ 2 ^ n) (k : Int → Option β) : spec_DegreeMod2 N (n : Int) (w : Int) k = k (dg (anf w n).testBit (2 ^ n)) := by
  have hs := size_le hn
  have ha := two32 hn (anf_lt w n)
  unfold spec_DegreeMod2
  rw [spec_IsTable_eq, isT_of hn hw, Bool.not_true, cond_false, spec_l11Anf_eq N hN n w hn hw]
  have key : ∀ (F m : Nat), 2 ^ n - m < F → m ≤ 2 ^ n → spec_DegreeMod2_l0 N F (anf w n : Int) (dg (anf w n).testBit m) (m : Int) (n : Int) (w : Int) k = k (dg (anf w n).testBit (2 ^ n)) := by
    intro F
    induction F with
    | zero => intro x h; omega
    | succ F ih =>
      intro m hF hm
      simp only [spec_DegreeMod2_l0, spec_DegreeMod2_l0b]
      rw [gd_true (decide_eq_true (by omega : (0 : Int) ≤ (n : Int))), shl_one n (by omega)]
      by_cases hlt : m < 2 ^ n
      · rw [decide_eq_true (by omega : (m : Int) < ((2 ^ n : Nat) : Int)), cond_true, gd_true (decide_eq_true (by omega : (0 : Int) ≤ (m : Int))), bit_at _ m (by omega), bit_eq_one, spec_l2Count_eq N m hN (by omega), w64_succ m (by omega)]
        have h1 := ih (m + 1) (by omega) (by omega)
        simp only [dg] at h1
        cases hp : (anf w n).testBit m with
        | true => rw [hp] at h1; exact h1
        | false => rw [hp] at h1; exact h1
      · rw [decide_eq_false (by omega : ¬ (m : Int) < ((2 ^ n : Nat) : Int)), cond_false, show m = 2 ^ n by omega]
  exact key N 0 (by omega) (Nat.zero_le _)
theorem impl_DegreeMod2_eq (N : Nat) (hN : 64 < N) (n w : Nat) (hn : n ≤ 5) (hw : w < 2 ^ 2 ^ n) (k : Int → Option β) : impl_DegreeMod2 N (n : Int) (w : Int) k = k (dg (anf w n).testBit (2 ^ n)) := by
  have hs := size_le hn
  have hw' := two32 hn hw
  have ha := two32 hn (anf_lt w n)
  unfold impl_DegreeMod2
  rw [impl_IsTable_eq N _ _ (by omega), isT_of hn hw, Bool.not_true, cond_false, impl_Table_anf_eq N hN n w hn hw]
  refine impl_degree_eq N hN n hn _ (anf w n).testBit (fun x k hx => ?_) k
  unfold impl_DegreeMod2_1 impl_Table_at
  rw [gd_true (decide_eq_true (by omega : (0 : Int) ≤ (x : Int))), bit_at _ x (by omega)]
  show k (((if (anf w n).testBit x then 1 else 0 : Nat) : Int) == 1) = _
  rw [bit_eq_one]

/-- A coefficient of the polynomial with integers. -/
def cf (w m : Nat) : Nat → Int
  | 0 => 0
  | x + 1 => if x &&& m == x then (if ones (m ^^^ x) % 2 == 1 then cf w m x - ((if w.testBit x then 1 else 0 : Nat) : Int) else cf w m x + ((if w.testBit x then 1 else 0 : Nat) : Int)) else cf w m x
theorem cf_bound (w m : Nat) : ∀ x : Nat, -(x : Int) ≤ cf w m x ∧ cf w m x ≤ (x : Int)
  | 0 => by simp [cf]
  | x + 1 => by
    have h := cf_bound w m x
    have hb : ((if w.testBit x then 1 else 0 : Nat) : Int) = 0 ∨ ((if w.testBit x then 1 else 0 : Nat) : Int) = 1 := by cases w.testBit x <;> simp
    simp only [cf]
    split
    · split <;> omega
    · omega
theorem cf_more (w m : Nat) : ∀ d, cf w m (m + 1 + d) = cf w m (m + 1)
  | 0 => rfl
  | d + 1 => by
    rw [← Nat.add_assoc, cf, cf_more w m d, part_gt w m (m + 1 + d) (by omega)]
    rfl
def cfs (w n m : Nat) : List Int := (List.range m).map fun m => cf w m (2 ^ n)
theorem cfs_len (w n m : Nat) : (cfs w n m).length = m := by simp [cfs]
theorem cfs_get (w n m i : Nat) (h : i < m) : (cfs w n m)[i]? = some (cf w i (2 ^ n)) := by simp [cfs, h]
theorem cfs_succ (w n m : Nat) : cfs w n (m + 1) = cfs w n m ++ [cf w m (2 ^ n)] := by simp [cfs, List.range_succ]
theorem xor_small : ∀ m, m < 32 → ∀ x, x < 32 → m ^^^ x < 32 := by decide +kernel
theorem spec_coef_inner (N : Nat) (hN : 64 < N) (n w m : Nat) (hw : w < 4294967296) (hm : m < 32) (l : List Int) (K : Int → Int → Int → Int → List Int → Option β) :
    ∀ (F x : Nat), m + 1 - x < F → x ≤ m + 1 → spec_RealCoefficients_l2 N F (m : Int) (cf w m x) (x : Int) (n : Int) (w : Int) l K = K m (cf w m (m + 1)) n w l := by
  intro F
  induction F with
  | zero => intro x h; omega
  | succ F ih =>
    intro x hF hx
    simp only [spec_RealCoefficients_l2, spec_RealCoefficients_l2b]
    by_cases hlt : x ≤ m
    · have hb := cf_bound w m x
      have hxm := xor_small m hm x (by omega)
      have hbit : ((if w.testBit x then 1 else 0 : Nat) : Int) = 0 ∨ ((if w.testBit x then 1 else 0 : Nat) : Int) = 1 := by cases w.testBit x <;> simp
      have hon := ones_le (m ^^^ x)
      rw [decide_eq_true (by omega : (x : Int) ≤ (m : Int)), cond_true, bAnd x m (by omega) (by omega), bXor m x (by omega) (by omega), spec_l2Count_eq N _ hN (by omega), gd_true (decide_eq_true (by omega : (0 : Int) ≤ (x : Int))), bit_at w x (by omega), w64_succ x (by omega), w64_id (by omega) (by omega), gd_true (decide_eq_true (by omega : (0 : Int) ≤ (x : Int))), w64_id (by omega) (by omega)]
      have e0 : (((x &&& m : Nat) : Int) != (x : Int)) = !(x &&& m == x) := by rw [bne, and_eq]
      have e4 : remI ((ones (m ^^^ x) : Nat) : Int) 2 = ((ones (m ^^^ x) % 2 : Nat) : Int) := remI_len _ 2 (by decide)
      have e5 : (((ones (m ^^^ x) % 2 : Nat) : Int) == 1) = (ones (m ^^^ x) % 2 == 1) := by
        rw [Bool.eq_iff_iff, beq_iff_eq, beq_iff_eq]; omega
      rw [e0, e4, e5]
      have h1 := ih (x + 1) (by omega) (by omega)
      simp only [cf] at h1
      cases he : x &&& m == x with
      | false => rw [he] at h1; exact h1
      | true =>
        rw [he] at h1
        cases ho : ones (m ^^^ x) % 2 == 1 with
        | true => rw [ho] at h1; exact h1
        | false => rw [ho] at h1; exact h1
    · rw [decide_eq_false (by omega : ¬ (x : Int) ≤ (m : Int)), cond_false, show x = m + 1 by omega]
theorem spec_RealCoefficients_eq (N : Nat) (hN : 64 < N) (n w : Nat) (hn : n ≤ 5) (hw : w < 2 ^ 2 ^ n) (k : List Int → Option β) : spec_RealCoefficients N (n : Int) (w : Int) k = k (cfs w n (2 ^ n)) := by
  have hw' := two32 hn hw
  have hs := size_le hn
  unfold spec_RealCoefficients
  have key : ∀ (F m : Nat), 2 ^ n - m < F → m ≤ 2 ^ n → spec_RealCoefficients_l0 N F (m : Int) (n : Int) (w : Int) (cfs w n m) k = k (cfs w n (2 ^ n)) := by
    intro F
    induction F with
    | zero => intro x h; omega
    | succ F ih =>
      intro m hF hm
      simp only [spec_RealCoefficients_l0, spec_RealCoefficients_l0b]
      rw [spec_IsTable_eq, isT_of hn hw, cond_true, gd_true (decide_eq_true (by omega : (0 : Int) ≤ (n : Int))), shl_one n (by omega)]
      by_cases hlt : m < 2 ^ n
      · have e := fun K => spec_coef_inner (β := β) N hN n w m hw' (by omega) (cfs w n m) K N 0 (by omega) (by omega)
        simp only [cf, Int.natCast_zero] at e
        have e2 := cf_more w m (2 ^ n - (m + 1))
        rw [show m + 1 + (2 ^ n - (m + 1)) = 2 ^ n by omega] at e2
        simp only [cf] at e2
        rw [decide_eq_true (by omega : (m : Int) < ((2 ^ n : Nat) : Int)), cond_true, e, ← e2, cfs_len, gd_true (decide_eq_true (by simp; omega)), w64_succ m (by omega)]
        have h1 := ih (m + 1) (by omega) (by omega)
        rw [cfs_succ] at h1
        exact h1
      · rw [decide_eq_false (by omega : ¬ (m : Int) < ((2 ^ n : Nat) : Int)), cond_false, show m = 2 ^ n by omega]
  exact key N 0 (by omega) (Nat.zero_le _)
theorem impl_coef_inner (N : Nat) (hN : 64 < N) (n w m : Nat) (hn : n ≤ 5) (hw : w < 4294967296) (hm : m < 2 ^ n) (v1 v2 : Int) (l0 : List Int) (hl0 : l0.length = 2 ^ n) (K : Int → Int → Int → Int → List Int → Option β) :
    ∀ (F x : Nat), 2 ^ n - x < F → x ≤ 2 ^ n → impl_Table_coefficients_l2 N F (m : Int) v1 v2 ((2 ^ n : Nat) : Int) (x : Int) (n : Int) (w : Int) (l0.set m (cf w m x)) K = K v1 v2 n w (l0.set m (cf w m (2 ^ n))) := by
  have hs := size_le hn
  intro F
  induction F with
  | zero => intro x h; omega
  | succ F ih =>
    intro x hF hx
    simp only [impl_Table_coefficients_l2, impl_Table_coefficients_l2b, impl_Table_at]
    by_cases hlt : x < 2 ^ n
    · have hb := cf_bound w m x
      have hxm := xor_small m (by omega) x (by omega)
      have hbit : ((if w.testBit x then 1 else 0 : Nat) : Int) = 0 ∨ ((if w.testBit x then 1 else 0 : Nat) : Int) = 1 := by cases w.testBit x <;> simp
      have hlen : (l0.set m (cf w m x)).length = 2 ^ n := by rw [List.length_set, hl0]
      have hrd : rd 0 (l0.set m (cf w m x)) (m : Int) = cf w m x := by
        rw [rd_nat 0 _ m (by omega), List.getElem_set_self]
      have hwr : ∀ v : Int, wr (l0.set m (cf w m x)) (m : Int) v = l0.set m v := fun v => by
        unfold wr
        rw [Int.toNat_natCast, List.set_set]
      have hon := ones_le (m ^^^ x)
      have g0 : decide ((0 : Int) ≤ (m : Int)) = true := decide_eq_true (by omega)
      have g1 : decide ((m : Int) < ((l0.set m (cf w m x)).length : Int)) = true := by rw [hlen]; exact decide_eq_true (by omega)
      rw [decide_eq_true (by omega : (x : Int) < ((2 ^ n : Nat) : Int)), cond_true, bAndNot x m (by omega) (by omega), bXor m x (by omega) (by omega), impl_ones_eq N _ (by omega)]
      simp only [gd_true g0, gd_true g1, gd_true (decide_eq_true (by omega : (0 : Int) ≤ (x : Int)))]
      rw [bit_at w x (by omega), hrd, hwr, hwr, w64_succ x (by omega), w64_id (by omega) (by omega), w64_id (by omega) (by omega)]
      have e0 : (((x ^^^ (x &&& m) : Nat) : Int) != 0) = !(x &&& m == x) := by rw [bne, andnot_eq]
      have e4 : remI ((ones (m ^^^ x) : Nat) : Int) 2 = ((ones (m ^^^ x) % 2 : Nat) : Int) := remI_len _ 2 (by decide)
      have e5 : (((ones (m ^^^ x) % 2 : Nat) : Int) == 0) = !(ones (m ^^^ x) % 2 == 1) := by
        rcases Nat.mod_two_eq_zero_or_one (ones (m ^^^ x)) with h | h <;> rw [h] <;> rfl
      rw [e0, e4, e5]
      have h1 := ih (x + 1) (by omega) (by omega)
      simp only [cf] at h1
      cases he : x &&& m == x with
      | false => rw [he] at h1; exact h1
      | true =>
        rw [he] at h1
        cases ho : ones (m ^^^ x) % 2 == 1 with
        | true => rw [ho] at h1; exact h1
        | false => rw [ho] at h1; exact h1
    · rw [decide_eq_false (by omega : ¬ (x : Int) < ((2 ^ n : Nat) : Int)), cond_false, show x = 2 ^ n by omega]
theorem impl_coefficients_eq (N : Nat) (hN : 64 < N) (n w : Nat) (hn : n ≤ 5) (hw : w < 2 ^ 2 ^ n) (k : List Int → Option β) : impl_Table_coefficients N (n : Int) (w : Int) k = k (cfs w n (2 ^ n)) := by
  have hw' := two32 hn hw
  have hs := size_le hn
  unfold impl_Table_coefficients impl_Table_size
  rw [gd_true (decide_eq_true (by omega : (0 : Int) ≤ (n : Int))), shl_one n (by omega)]
  show gd (decide ((0 : Int) ≤ ((2 ^ n : Nat) : Int))) (gd (decide (((2 ^ n : Nat) : Int) ≤ ((2 ^ n : Nat) : Int))) (gd (decide (8 * ((2 ^ n : Nat) : Int) ≤ 281474976710656)) (impl_Table_coefficients_l0 N N ((List.replicate (Int.toNat ((2 ^ n : Nat) : Int)) (0 : Int)).length : Int) 0 (n : Int) (w : Int) (List.replicate (Int.toNat ((2 ^ n : Nat) : Int)) (0 : Int)) k))) = _
  rw [gd_true (decide_eq_true (Int.natCast_nonneg _)), gd_true (decide_eq_true (Int.le_refl _)), gd_true (decide_eq_true (by omega)), List.length_replicate, Int.toNat_natCast]
  have key : ∀ (F m : Nat) (l : List Int), 2 ^ n - m < F → m ≤ 2 ^ n → l.length = 2 ^ n → (∀ j, j < m → l[j]? = some (cf w j (2 ^ n))) → (∀ j, m ≤ j → j < 2 ^ n → l[j]? = some 0) →
      impl_Table_coefficients_l0 N F ((2 ^ n : Nat) : Int) (m : Int) (n : Int) (w : Int) l k = k (cfs w n (2 ^ n)) := by
    intro F
    induction F with
    | zero => intro x l h; omega
    | succ F ih =>
      intro m l hF hm hl h1 h2
      simp only [impl_Table_coefficients_l0, impl_Table_coefficients_l0b, impl_Table_size]
      by_cases hlt : m < 2 ^ n
      · have e := fun K => impl_coef_inner (β := β) N hN n w m hn hw' hlt ((2 ^ n : Nat) : Int) (m : Int) l hl K N 0 (by omega) (Nat.zero_le _)
        have e1 : l.set m (cf w m 0) = l := by
          apply List.ext_getElem?
          intro j
          rw [List.getElem?_set]
          split
          · rename_i hj
            subst hj
            rw [if_pos (by omega), h2 m (Nat.le_refl _) hlt]
            rfl
          · rfl
        simp only [e1, Int.natCast_zero] at e
        rw [decide_eq_true (by omega : (m : Int) < ((2 ^ n : Nat) : Int)), cond_true, gd_true (decide_eq_true (by omega : (0 : Int) ≤ (n : Int))), shl_one n (by omega), e, w64_succ m (by omega)]
        refine ih (m + 1) _ (by omega) (by omega) (by rw [List.length_set, hl]) (fun j hj => ?_) (fun j hj hj2 => ?_)
        · rw [List.getElem?_set]
          split
          · rename_i hmj
            subst hmj
            rw [if_pos (by omega)]
          · exact h1 j (by omega)
        · rw [List.getElem?_set, if_neg (by omega)]
          exact h2 j (by omega) hj2
      · rw [decide_eq_false (by omega : ¬ (m : Int) < ((2 ^ n : Nat) : Int)), cond_false]
        congr 1
        apply List.ext_getElem?
        intro j
        rcases Nat.lt_or_ge j (2 ^ n) with h | h
        · rw [h1 j (by omega), cfs_get w n _ j h]
        · rw [List.getElem?_eq_none (by omega), List.getElem?_eq_none (by rw [cfs_len]; exact h)]
  exact key N 0 _ (by omega) (Nat.zero_le _) (by simp) (fun j hj => by omega) (fun j _ hj => by simp [hj])
/-- The degree of a table. -/
def deg (w n : Nat) : Int := dg (fun m => cf w m (2 ^ n) != 0) (2 ^ n)
theorem cfs_rd (w n m : Nat) (h : m < 2 ^ n) : rd 0 (cfs w n (2 ^ n)) (m : Int) = cf w m (2 ^ n) := by
  rw [rd_nat 0 _ m (by rw [cfs_len]; exact h)]
  have := cfs_get w n (2 ^ n) m h
  rw [List.getElem?_eq_getElem (by rw [cfs_len]; exact h)] at this
  exact Option.some.inj this
theorem spec_RealDegree_eq (N : Nat) (hN : 64 < N) (n w : Nat) (hn : n ≤ 5) (hw : w < 2 ^ 2 ^ n) (k : Int → Option β) : spec_RealDegree N (n : Int) (w : Int) k = k (deg w n) := by
  have hs := size_le hn
  unfold spec_RealDegree
  rw [spec_IsTable_eq, isT_of hn hw, Bool.not_true, cond_false, spec_RealCoefficients_eq N hN n w hn hw]
  unfold deg
  generalize hpd : (fun m => cf w m (2 ^ n) != 0) = p
  have hpm : ∀ m, (cf w m (2 ^ n) != 0) = p m := fun m => by rw [← hpd]
  have key : ∀ (F m : Nat), 2 ^ n - m < F → m ≤ 2 ^ n → spec_RealDegree_l0 N F (dg p m) (m : Int) (cfs w n (2 ^ n)) k = k (dg p (2 ^ n)) := by
    intro F
    induction F with
    | zero => intro x h; omega
    | succ F ih =>
      intro m hF hm
      simp only [spec_RealDegree_l0, spec_RealDegree_l0b, cfs_len]
      by_cases hlt : m < 2 ^ n
      · rw [decide_eq_true (by omega : (m : Int) < ((2 ^ n : Nat) : Int)), cond_true, gd_true (decide_eq_true (by omega : (0 : Int) ≤ (m : Int))), gd_true rfl, cfs_rd w n m hlt, spec_l2Count_eq N m hN (by omega), w64_succ m (by omega), hpm]
        have h1 := ih (m + 1) (by omega) (by omega)
        simp only [dg] at h1
        cases hp : p m with
        | true => rw [hp] at h1; exact h1
        | false => rw [hp] at h1; exact h1
      · rw [decide_eq_false (by omega : ¬ (m : Int) < ((2 ^ n : Nat) : Int)), cond_false, show m = 2 ^ n by omega]
  exact key N 0 (by omega) (Nat.zero_le _)
theorem impl_RealDegree_eq (N : Nat) (hN : 64 < N) (n w : Nat) (hn : n ≤ 5) (hw : w < 2 ^ 2 ^ n) (k : Int → Option β) : impl_RealDegree N (n : Int) (w : Int) k = k (deg w n) := by
  have hs := size_le hn
  have hw' := two32 hn hw
  unfold impl_RealDegree
  rw [impl_IsTable_eq N _ _ (by omega), isT_of hn hw, Bool.not_true, cond_false, impl_coefficients_eq N hN n w hn hw]
  refine impl_degree_eq N hN n hn _ (fun m => cf w m (2 ^ n) != 0) (fun x k hx => ?_) k
  unfold impl_RealDegree_1
  rw [gd_true (decide_eq_true (by omega : (0 : Int) ≤ (x : Int))), cfs_len, gd_true (decide_eq_true (by omega : (x : Int) < ((2 ^ n : Nat) : Int))), cfs_rd w n x hx]
end Go.Proofs.Ytdkjnadhgdneaaa
