/- Simple games: what both texts tell of the players. -/
import Derived.Test.YtfdggelojmofmaaDoorP46
namespace Go.Proofs.YtfdggelojmofmaaDoor
open Go.Rv
variable {β : Type}
theorem natq (n m : Nat) : ((n : Int) == (m : Int)) = (n == m) := by
  by_cases h : n = m
  · subst h; simp
  · rw [beq_eq_false_iff_ne.2 h, beq_eq_false_iff_ne.2 (by omega)]
theorem bw_eq0 (w x : Nat) : ((bw w x : Int) == 0) = !w.testBit x := by unfold bw; cases w.testBit x <;> rfl
theorem bw_eq1 (w x : Nat) : ((bw w x : Int) == 1) = w.testBit x := by unfold bw; cases w.testBit x <;> rfl
theorem bw_ne1 (w x : Nat) : ((bw w x : Int) != 1) = !w.testBit x := by unfold bw; cases w.testBit x <;> rfl
theorem bw_ne (w x y : Nat) : ((bw w x : Int) != (bw w y : Int)) = (w.testBit x != w.testBit y) := by unfold bw; cases w.testBit x <;> cases w.testBit y <;> rfl
theorem bit_w (w x : Nat) (hw : w < 9223372036854775808) : bits .and .i64 (shrI .i64 (w : Int) (x : Int)) 1 = (bw w x : Int) := bit_at w x hw

/-- That all below a number are such. -/
def allTo (p : Nat → Bool) : Nat → Bool
  | 0 => true
  | m + 1 => allTo p m && p m
theorem allTo_spec {p : Nat → Bool} : ∀ {m : Nat}, allTo p m = true → ∀ i, i < m → p i = true
  | 0, _, i, h => by omega
  | m + 1, h, i, hi => by
    simp only [allTo, Bool.and_eq_true] at h
    rcases Nat.lt_or_ge i m with h1 | h1
    · exact allTo_spec h.1 i h1
    · have : i = m := by omega
      subst this; exact h.2
theorem allTo_of {p : Nat → Bool} : ∀ {m : Nat}, (∀ i, i < m → p i = true) → allTo p m = true
  | 0, _ => rfl
  | m + 1, h => by
    simp only [allTo, Bool.and_eq_true]
    exact ⟨allTo_of fun i hi => h i (by omega), h m (by omega)⟩
theorem allTo_eq {p q : Nat → Bool} {m m' : Nat} (h : (∀ i, i < m → p i = true) ↔ (∀ i, i < m' → q i = true)) : allTo p m = allTo q m' := by
  cases h1 : allTo p m with
  | true => exact (allTo_of (h.1 (allTo_spec h1))).symm
  | false =>
    cases h2 : allTo q m' with
    | false => rfl
    | true => rw [allTo_of (h.2 (allTo_spec h2))] at h1; cases h1
/-- A loop that leaves at the first that is not such. -/
theorem loop_all (g : Nat → Nat → Option β) (p : Nat → Bool) (m : Nat) (r0 r1 : Option β) (hs : ∀ F i, i < m → g (F + 1) i = cond (p i) (g F (i + 1)) r0) (he : ∀ F, g (F + 1) m = r1) :
    ∀ F, m < F → g F 0 = cond (allTo p m) r1 r0 := by
  have key : ∀ (F i : Nat), i ≤ m → m - i < F → allTo p i = true → g F i = cond (allTo p m) r1 r0 := by
    intro F
    induction F with
    | zero => intro i _ h; omega
    | succ F ih =>
      intro i hi hF ha
      rcases Nat.lt_or_ge i m with h | h
      · rw [hs F i h]
        cases hp : p i with
        | true => exact ih (i + 1) h (by omega) (by simp only [allTo, ha, hp, Bool.and_self])
        | false =>
          have : allTo p m = false := by
            cases hm : allTo p m with
            | false => rfl
            | true => rw [allTo_spec hm i h] at hp; cases hp
          rw [this]; rfl
      · have : i = m := by omega
        subst this
        rw [he, ha]; rfl
  intro F hF
  exact key F 0 (Nat.zero_le _) (by omega) rfl

theorem xor_zero {a b : Nat} (h : a ^^^ b = 0) : a = b := by
  have : a ^^^ b ^^^ b = b := by rw [h, Nat.zero_xor]
  rwa [Nat.xor_assoc, Nat.xor_self, Nat.xor_zero] at this
theorem bit_eq1 (c : Bool) : (((if c then 1 else 0 : Nat) : Int) == 1) = c := by cases c <;> rfl
theorem spread_sm : ∀ x : Nat, x < 16 → ∀ i : Nat, i < 5 → ∀ b : Nat, b < 2 → bits .or .i64 (bits .or .i64 (shlI .i64 (w64 ((x : Int) - bits .and .i64 (x : Int) (w64 (shlI .i64 1 (i : Int) - 1)))) 1) (shlI .i64 (b : Int) (i : Int))) (bits .and .i64 (x : Int) (w64 (shlI .i64 1 (i : Int) - 1))) = (ins x i b : Int) := by decide +kernel
theorem impl_restr_eq (N : Nat) (hN : 64 < N) (n w i b : Nat) (hn : n ≤ 5) (hi : i < n) (hw : w < 4294967296) (hb : b < 2) (k : Int → Int → Option β) :
    impl_Table_restrict N (n : Int) (w : Int) (i : Int) (b : Int) k = k ((n - 1 : Nat) : Int) (tabw (fun x => w.testBit (ins x i b)) (2 ^ (n - 1)) : Int) := by
  unfold impl_Table_restrict
  have hs : 2 ^ (n - 1) ≤ 16 := Nat.le_trans (Nat.pow_le_pow_right (by decide) (by omega : n - 1 ≤ 4)) (by decide)
  rw [show (n : Int) - 1 = ((n - 1 : Nat) : Int) by omega, w64_nat _ (by omega), makeTable_eq N hN (n - 1) (by omega) _ (fun x => w.testBit (ins x i b)) fun x k hx => ?_]
  unfold impl_Table_restrict_1 impl_spread impl_Table_at
  rw [gd_true (decide_eq_true (by omega : (0 : Int) ≤ (i : Int))), gd_true (decide_eq_true (by omega : (0 : Int) ≤ (i : Int))), spread_sm x (by omega) i (by omega) b hb]
  show gd (decide ((0 : Int) ≤ ((ins x i b : Nat) : Int))) (k (bits .and .i64 (shrI .i64 (w : Int) ((ins x i b : Nat) : Int)) 1 == 1)) = _
  rw [gd_true (decide_eq_true (Int.natCast_nonneg _)), bit_at w _ (by omega), bit_eq1]
theorem impl_deps_eq (N : Nat) (hN : 64 < N) (n w i : Nat) (hn : n ≤ 5) (hi : i < n) (hw : w < 4294967296) (k : Bool → Option β) : impl_Table_depends N (n : Int) (w : Int) (i : Int) k = k (dep w n i) := by
  unfold impl_Table_depends
  have e0 := fun k => impl_restr_eq (β := β) N hN n w i 0 hn hi hw (by decide) k
  have e1 := fun k => impl_restr_eq (β := β) N hN n w i 1 hn hi hw (by decide) k
  simp only [Int.natCast_zero] at e0
  have e1 : ∀ k : Int → Int → Option β, impl_Table_restrict N (n : Int) (w : Int) (i : Int) 1 k = k ((n - 1 : Nat) : Int) (tabw (fun x => w.testBit (ins x i 1)) (2 ^ (n - 1)) : Int) := e1
  simp only [e0, e1]
  congr 1
  unfold dep
  rw [beq_self_eq_true, Bool.true_and, bne]
  congr 1
  rw [Bool.eq_iff_iff, beq_iff_eq, beq_iff_eq]
  omega
/-! ### Monotone tables and games -/
def R (w n i b : Nat) : Nat := tabw (fun x => w.testBit (ins x i b)) (2 ^ (n - 1))
theorem R_lt (w n i b : Nat) (hn : n ≤ 5) : R w n i b < 9223372036854775808 :=
  Nat.lt_of_lt_of_le (tabw_lt _ _) (Nat.le_trans (Nat.pow_le_pow_right (by decide) (Nat.le_trans (Nat.pow_le_pow_right (by decide) (by omega : n - 1 ≤ 5)) (by decide : 2 ^ 5 ≤ 32))) (by decide))
def mono (w n i : Nat) : Bool := (R w n i 0 &&& R w n i 1) == R w n i 0
theorem spec_mono (N n w : Nat) (hN : 64 < N) (hn : n ≤ 5) (hw : w < 2 ^ 2 ^ n) (k : Bool → Option β) : spec_l15Monotone N (n : Int) (w : Int) k = k (allTo (mono w n) n) := by
  have hw' := w_small hn hw
  unfold spec_l15Monotone
  have := loop_all (fun F i => spec_l15Monotone_l0 N F (i : Int) (n : Int) (w : Int) (fun e => k e) (k true)) (mono w n) n (k false) (k true) (fun F i hi => ?_) (fun F => ?_) N (by omega)
  · refine this.trans ?_
    cases allTo (mono w n) n <;> rfl
  · simp only [spec_l15Monotone_l0, spec_l15Monotone_l0b]
    have e0 := fun k => spec_l3Restrict_eq (β := β) N hN n w i 0 hn hi hw' (by decide) k
    have e1 := fun k => spec_l3Restrict_eq (β := β) N hN n w i 1 hn hi hw' (by decide) k
    simp only [Int.natCast_zero, Int.natCast_one] at e0 e1
    rw [decide_eq_true (show (i : Int) < (n : Int) by omega), cond_true, e0, e1]
    show cond (bits .and .i64 (R w n i 0 : Int) (R w n i 1 : Int) != (R w n i 0 : Int)) _ _ = _
    rw [bAnd _ _ (R_lt w n i 0 hn) (R_lt w n i 1 hn), w64_succ i (by omega)]
    unfold mono
    by_cases h : R w n i 0 &&& R w n i 1 = R w n i 0
    · rw [h, beq_self_eq_true]; simp
    · rw [beq_eq_false_iff_ne.2 h, bne_iff_ne.2 fun e => h (by exact_mod_cast e)]; rfl
  · simp only [spec_l15Monotone_l0, spec_l15Monotone_l0b]
    rw [decide_eq_false (by omega), cond_false]
theorem impl_mono (N n w : Nat) (hN : 64 < N) (hn : n ≤ 5) (hw : w < 2 ^ 2 ^ n) (k : Bool → Option β) : impl_Table_isMonotone N (n : Int) (w : Int) k = k (allTo (mono w n) n) := by
  have hw' := w_small hn hw
  unfold impl_Table_isMonotone
  have := loop_all (fun F i => impl_Table_isMonotone_l0 N F (n : Int) (i : Int) (n : Int) (w : Int) (fun e => k e) (k true)) (mono w n) n (k false) (k true) (fun F i hi => ?_) (fun F => ?_) N (by omega)
  · refine this.trans ?_
    cases allTo (mono w n) n <;> rfl
  · simp only [impl_Table_isMonotone_l0, impl_Table_isMonotone_l0b]
    have e0 := fun k => impl_restr_eq (β := β) N hN n w i 0 hn hi hw' (by decide) k
    have e1 := fun k => impl_restr_eq (β := β) N hN n w i 1 hn hi hw' (by decide) k
    simp only [Int.natCast_zero, Int.natCast_one] at e0 e1
    rw [decide_eq_true (show (i : Int) < (n : Int) by omega), cond_true, e0, e1]
    show cond (bits .andNot .i64 (R w n i 0 : Int) (R w n i 1 : Int) != 0) _ _ = _
    rw [bAndNot _ _ (R_lt w n i 0 hn) (R_lt w n i 1 hn), w64_succ i (by omega)]
    unfold mono
    by_cases h : R w n i 0 &&& R w n i 1 = R w n i 0
    · rw [h, beq_self_eq_true, Nat.xor_self]; rfl
    · rw [beq_eq_false_iff_ne.2 h]
      have : ((R w n i 0 ^^^ (R w n i 0 &&& R w n i 1) : Nat) : Int) != 0 := by
        rw [bne_iff_ne]
        intro e
        have e : R w n i 0 ^^^ (R w n i 0 &&& R w n i 1) = 0 := by exact_mod_cast e
        exact h (xor_zero e).symm
      rw [this]; rfl
  · simp only [impl_Table_isMonotone_l0, impl_Table_isMonotone_l0b]
    rw [decide_eq_false (by omega), cond_false]
theorem flip_ins : ∀ n, n ≤ 5 → ∀ i, i < n → ∀ x, x < 2 ^ n → (x.testBit i = true ∨ (x = ins (del x i) i 0 ∧ x ^^^ 2 ^ i = ins (del x i) i 1 ∧ x ||| 2 ^ i = x ^^^ 2 ^ i ∧ x ^^^ 2 ^ i < 2 ^ n)) ∧ del x i < 2 ^ (n - 1) := by decide +kernel
theorem ins_bit : ∀ n, n ≤ 5 → ∀ i, i < n → ∀ y, y < 2 ^ (n - 1) → (ins y i 0).testBit i = false ∧ (ins y i 1).testBit i = true ∧ ins y i 0 < 2 ^ n ∧ ins y i 1 < 2 ^ n ∧ ins y i 0 ^^^ 2 ^ i = ins y i 1 := by decide +kernel
theorem mono_at (w n i x : Nat) (hn : n ≤ 5) (hi : i < n) (hx : x < 2 ^ n) (h : mono w n i = true) (hb : x.testBit i = false) : w.testBit x = true → w.testBit (x ^^^ 2 ^ i) = true := by
  intro h1
  obtain ⟨f1, f2⟩ := flip_ins n hn i hi x hx
  rcases f1 with f1 | ⟨g1, g2, _⟩
  · rw [hb] at f1; cases f1
  unfold mono at h
  have e := congrArg (fun z => z.testBit (del x i)) (eq_of_beq h)
  simp only [Nat.testBit_and, R, tabw_bit, decide_eq_true f2, Bool.true_and] at e
  rw [← g1, ← g2, h1] at e
  simpa using e

def game (w n : Nat) : Bool := allTo (mono w n) n && (!w.testBit 0 && w.testBit (2 ^ n - 1))
theorem wu_pow : ∀ n : Nat, n ≤ 5 → wu64 (shlI .u64 1 (n : Int) - 1) = ((2 ^ n - 1 : Nat) : Int) := by decide +kernel
theorem spec_IsSimpleGame_n (N n w : Nat) (hN : 64 < N) (hn : n ≤ 5) (hw : w < 2 ^ 2 ^ n) (k : Bool → Option β) : spec_IsSimpleGame N (n : Int) (w : Int) k = k (game w n) := by
  have hw' := w_small hn hw
  unfold spec_IsSimpleGame game
  rw [spec_IsTable_eq, isTn hn hw, cond_true, spec_mono N n w hN hn hw]
  have b0 : (bits .and .i64 (w : Int) 1 == 0) = !w.testBit 0 := by
    have := bit_w w 0 (by omega)
    rw [shr_nat w 0 (by omega)] at this
    simp only [Nat.pow_zero, Nat.div_one] at this
    rw [this, bw_eq0]
  rw [b0, wu_pow n hn, gd_true (decide_eq_true (by omega)), gd_true (decide_eq_true (Int.natCast_nonneg _)), bit_w w _ (by omega), bw_eq1]
  cases allTo (mono w n) n <;> cases w.testBit 0 <;> rfl
theorem impl_IsSimpleGame_n (N n w : Nat) (hN : 64 < N) (hn : n ≤ 5) (hw : w < 2 ^ 2 ^ n) (k : Bool → Option β) : impl_IsSimpleGame N (n : Int) (w : Int) k = k (game w n) := by
  have hw' := w_small hn hw
  have hp := two_pos n
  have hs := size_le hn
  unfold impl_IsSimpleGame impl_IsMonotone game
  rw [impl_IsTable_eq N _ _ (by omega), isTn hn hw, cond_true, impl_mono N n w hN hn hw]
  have e0 := fun k => impl_Table_at_eq (β := β) N w 0 (n : Int) hw' k
  simp only [Int.natCast_zero] at e0
  rw [e0, impl_Table_size_eq N n _ hn, show w64 (((2 ^ n : Nat) : Int) - 1) = ((2 ^ n - 1 : Nat) : Int) by rw [w64_id (by omega) (by omega)]; omega, impl_Table_at_eq N w _ _ hw', bw_eq0, bw_eq1]
  cases allTo (mono w n) n <;> cases w.testBit 0 <;> rfl

/-! ### Minimal points -/
def minp (w _n x : Nat) (m : Nat) : Bool := w.testBit x && allTo (fun i => !x.testBit i || !w.testBit (x ^^^ 2 ^ i)) m
def picks (p : Nat → Bool) : Nat → List Int
  | 0 => []
  | m + 1 => cond (p m) (picks p m ++ [(m : Int)]) (picks p m)
theorem picks_len (p : Nat → Bool) : ∀ m, (picks p m).length ≤ m
  | 0 => by simp [picks]
  | m + 1 => by have := picks_len p m; simp only [picks]; cases p m <;> simp <;> omega
theorem picks_in (p : Nat → Bool) : ∀ m, m ≤ 1000 → ∀ x ∈ picks p m, in64 x
  | 0, _ => by simp [picks]
  | m + 1, h => by
    have h1 := picks_in p m (by omega)
    intro x hx
    simp only [picks] at hx
    cases hp : p m with
    | false => rw [hp] at hx; exact h1 x hx
    | true =>
      rw [hp, cond_true, List.mem_append, List.mem_singleton] at hx
      rcases hx with hx | rfl
      · exact h1 x hx
      · unfold in64; omega
theorem xor_small {n x i : Nat} (hi : i < n) (hx : x < 2 ^ n) : x ^^^ 2 ^ i < 2 ^ n := Nat.xor_lt_two_pow hx (Nat.pow_lt_pow_right (by decide) hi)

theorem spec_min_inner (N n w x : Nat) (hN : 64 < N) (hn : n ≤ 5) (hw : w < 2 ^ 2 ^ n) (hx : x < 2 ^ n) (L : List Int) (k0 : Int → Bool → Int → Int → List Int → Option β) :
    spec_MinimalPoints_l2 N N (x : Int) (w.testBit x) 0 (n : Int) (w : Int) L k0 = k0 (x : Int) (minp w n x n) (n : Int) (w : Int) L := by
  have hw' := w_small hn hw
  have hs := size_le hn
  have key := loop_st (fun F i => spec_MinimalPoints_l2 N F (x : Int) (minp w n x i) (i : Int) (n : Int) (w : Int) L k0) n (k0 (x : Int) (minp w n x n) (n : Int) (w : Int) L) (fun F i hi => ?_) (fun F => ?_) N 0 (by omega) (by omega)
  · simpa [minp, allTo] using key
  · simp only [spec_MinimalPoints_l2, spec_MinimalPoints_l2b]
    have hxs := xor_small hi hx
    have h2 : 2 ^ i < 2 ^ n := Nat.pow_lt_pow_right (by decide) hi
    rw [decide_eq_true (show (i : Int) < (n : Int) by omega), cond_true, w64_succ i (by omega)]
    have e : minp w n x (i + 1) = (minp w n x i && (!x.testBit i || !w.testBit (x ^^^ 2 ^ i))) := by simp only [minp, allTo, Bool.and_assoc]
    rw [e]
    cases hm : minp w n x i with
    | false => rfl
    | true =>
      rw [cond_true, gd_true (decide_eq_true (by omega)), bit_w x i (by omega), bw_eq0, gd_true (decide_eq_true (by omega)), shl_one i (by omega), bXor x (2 ^ i) (by omega) (by omega), gd_true (decide_eq_true (Int.natCast_nonneg _)), bit_w w _ (by omega), bw_eq0]
      cases x.testBit i <;> rfl
  · simp only [spec_MinimalPoints_l2, spec_MinimalPoints_l2b]
    rw [decide_eq_false (by omega), cond_false]
theorem spec_MinimalPoints_n (N n w : Nat) (hN : 64 < N) (hn : n ≤ 5) (hw : w < 2 ^ 2 ^ n) (k : List Int → Option β) : spec_MinimalPoints N (n : Int) (w : Int) k = k (picks (fun x => minp w n x n) (2 ^ n)) := by
  have hw' := w_small hn hw
  have hs := size_le hn
  have hz : (0 : Int) ≤ ((2 ^ n : Nat) : Int) := Int.natCast_nonneg _
  refine loop_st (fun F x => spec_MinimalPoints_l0 N F (x : Int) (n : Int) (w : Int) (picks (fun x => minp w n x n) x) fun e => k e) (2 ^ n) _ (fun F x hx => ?_) (fun F => ?_) N 0 (by omega) (by omega)
  · have hpl := picks_len (fun x => minp w n x n) x
    simp only [spec_MinimalPoints_l0, spec_MinimalPoints_l0b]
    rw [spec_IsTable_eq, isTn hn hw, cond_true, gd_true (decide_eq_true (by omega)), shl_one n (by omega), decide_eq_true (by omega), cond_true, gd_true (decide_eq_true (by omega)), bit_w w x (by omega), bw_eq1, spec_min_inner N n w x hN hn hw hx, w64_succ x (by omega)]
    simp only [picks]
    cases minp w n x n with
    | false => rfl
    | true => rw [cond_true, gd_true (decide_eq_true (by simp; omega))]; rfl
  · simp only [spec_MinimalPoints_l0, spec_MinimalPoints_l0b]
    rw [spec_IsTable_eq, isTn hn hw, cond_true, gd_true (decide_eq_true (by omega)), shl_one n (by omega), decide_eq_false (by omega), cond_false]
theorem changes_eq (N w x i : Nat) (n : Int) (hw : w < 4294967296) (hx : x < 32) (hi : i < 5) (k : Bool → Option β) : impl_Table_changes N n (w : Int) (x : Int) (shlI .i64 1 (i : Int)) k = k (w.testBit x != w.testBit (x ^^^ 2 ^ i)) := by
  have h2 : 2 ^ i < 2 ^ 5 := Nat.pow_lt_pow_right (by decide) hi
  unfold impl_Table_changes
  rw [impl_Table_at_eq N w x _ hw, shl_one i (by omega), bXor x (2 ^ i) (by omega) (by omega), impl_Table_at_eq N w _ _ hw, bw_ne]
theorem impl_min_inner (N n w x : Nat) (hN : 64 < N) (hn : n ≤ 5) (hw : w < 2 ^ 2 ^ n) (hx : x < 2 ^ n) (c0 c4 c5 : Int) (L : List Int) (k0 : Int → Int → Int → Bool → Int → Int → Int → Int → List Int → Option β) :
    impl_Table_edgePoints_l2 N N c0 1 (x : Int) (w.testBit x) c4 c5 (n : Int) 0 (n : Int) (w : Int) L k0 = k0 c0 1 (x : Int) (minp w n x n) c4 c5 (n : Int) (w : Int) L := by
  have hw' := w_small hn hw
  have hs := size_le hn
  have key := loop_st (fun F i => impl_Table_edgePoints_l2 N F c0 1 (x : Int) (minp w n x i) c4 c5 (n : Int) (i : Int) (n : Int) (w : Int) L k0) n (k0 c0 1 (x : Int) (minp w n x n) c4 c5 (n : Int) (w : Int) L) (fun F i hi => ?_) (fun F => ?_) N 0 (by omega) (by omega)
  · simpa [minp, allTo] using key
  · simp only [impl_Table_edgePoints_l2, impl_Table_edgePoints_l2b]
    rw [decide_eq_true (show (i : Int) < (n : Int) by omega), cond_true, w64_succ i (by omega)]
    have e : minp w n x (i + 1) = (minp w n x i && (!x.testBit i || !w.testBit (x ^^^ 2 ^ i))) := by simp only [minp, allTo, Bool.and_assoc]
    rw [e]
    cases hm : minp w n x i with
    | false => rfl
    | true =>
      have hwx : w.testBit x = true := by
        simp only [minp, Bool.and_eq_true] at hm
        exact hm.1
      rw [cond_true, gd_true (decide_eq_true (by omega)), bit_w x i (by omega), bw_ne1, gd_true (decide_eq_true (by omega)), changes_eq N w x i _ hw' (by omega) (by omega), hwx]
      cases x.testBit i <;> cases w.testBit (x ^^^ 2 ^ i) <;> rfl
  · simp only [impl_Table_edgePoints_l2, impl_Table_edgePoints_l2b]
    rw [decide_eq_false (by omega), cond_false]
theorem impl_MinimalPoints_n (N n w : Nat) (hN : 64 < N) (hn : n ≤ 5) (hw : w < 2 ^ 2 ^ n) (k : List Int → Option β) : impl_MinimalPoints N (n : Int) (w : Int) k = k (picks (fun x => minp w n x n) (2 ^ n)) := by
  have hw' := w_small hn hw
  have hs := size_le hn
  have hz : (0 : Int) ≤ ((2 ^ n : Nat) : Int) := Int.natCast_nonneg _
  unfold impl_MinimalPoints impl_Table_edgePoints
  rw [impl_IsTable_eq N _ _ (by omega), isTn hn hw]
  simp only [Bool.not_true, cond_false]
  rw [impl_Table_size_eq N n _ hn]
  refine loop_st (fun F x => impl_Table_edgePoints_l0 N F 1 1 ((2 ^ n : Nat) : Int) (x : Int) (n : Int) (w : Int) (picks (fun x => minp w n x n) x) fun e => k e) (2 ^ n) _ (fun F x hx => ?_) (fun F => ?_) N 0 (by omega) (by omega)
  · have hpl := picks_len (fun x => minp w n x n) x
    simp only [impl_Table_edgePoints_l0, impl_Table_edgePoints_l0b]
    rw [decide_eq_true (by omega), cond_true, impl_Table_at_eq N w x _ hw', bw_eq1, impl_min_inner N n w x hN hn hw hx, w64_succ x (by omega)]
    simp only [picks]
    cases minp w n x n with
    | false => rfl
    | true => rw [cond_true, gd_true (decide_eq_true (by simp; omega))]; rfl
  · simp only [impl_Table_edgePoints_l0, impl_Table_edgePoints_l0b]
    rw [decide_eq_false (by omega), cond_false]
end Go.Proofs.YtfdggelojmofmaaDoor
