/- Plain laws of the texts. -/
import Derived.Test.YtfdggelojmofmaaT0
import Derived.Test.YtfdggelojmofmaaRvNum
namespace Go.Proofs.Ytfdggelojmofmaa
open Go.Rv

variable {β : Type}
end Go.Proofs.Ytfdggelojmofmaa
namespace Go.Proofs.Ytfdggelojmofmaa
open Go.Rv
variable {β : Type}

end Go.Proofs.Ytfdggelojmofmaa
namespace Go.Proofs.Ytfdggelojmofmaa
open Go.Rv
set_option linter.unusedVariables false
variable {β : Type}
/-- A table's word, input by input. -/
def tabw (g : Nat → Bool) : Nat → Nat
  | 0 => 0
  | i + 1 => tabw g i ||| (if g i then 2 ^ i else 0)
theorem tabw_lt (g : Nat → Bool) : ∀ i, tabw g i < 2 ^ i
  | 0 => by simp [tabw]
  | i + 1 => by
    have := tabw_lt g i
    unfold tabw
    have h2 : 2 ^ (i + 1) = 2 ^ i + 2 ^ i := by rw [Nat.pow_succ]; omega
    refine Nat.or_lt_two_pow (by omega) ?_
    split
    · have := Nat.two_pow_pos i; omega
    · exact Nat.two_pow_pos _
theorem tabw_congr {g h : Nat → Bool} : ∀ {n : Nat}, (∀ i, i < n → g i = h i) → tabw g n = tabw h n
  | 0, _ => rfl
  | n + 1, e => by
    unfold tabw
    rw [tabw_congr (n := n) fun i hi => e i (by omega), e n (by omega)]

theorem pow_le_64 {n : Nat} (h : n ≤ 62) : 2 ^ n < 9223372036854775808 := Nat.lt_of_le_of_lt (Nat.pow_le_pow_right (by decide) h) (by decide)
theorem size_le {n : Nat} (h : n ≤ 5) : 2 ^ n ≤ 32 := Nat.le_trans (Nat.pow_le_pow_right (by decide) h) (by decide)

theorem shl_one (n : Nat) (h : n ≤ 62) : shlI .i64 1 (n : Int) = ((2 ^ n : Nat) : Int) := by
  have := shl_nat 1 n (by omega) (by rw [Nat.one_mul]; exact pow_le_64 h)
  rw [Nat.one_mul] at this
  exact this

theorem makeTable_loop (N : Nat) (h : Int → (Bool → Option β) → Option β) (g : Nat → Bool) (m : Nat) (hm : m ≤ 32) (hh : ∀ (x : Nat) k, x < m → h (x : Int) k = k (g x)) (k0 : Int → Int → Int → Int → Option β) (a b n : Int) :
    ∀ (F i : Nat), m - i < F → i ≤ m → zj142 N h F (m : Int) (i : Int) a b n (tabw g i : Int) k0 = k0 a b n (tabw g m : Int) := by
  intro F
  induction F with
  | zero => intro i hF; omega
  | succ F ih =>
    intro i hF hi
    simp only [zj142, zj141]
    by_cases hlt : i < m
    · rw [decide_eq_true (by omega : (i : Int) < (m : Int))]
      simp only [cond_true, hh i _ hlt]
      have h1 := ih (i + 1) (by omega) (by omega)
      rw [w64_succ i (by omega)]
      have hw : tabw g i < 2 ^ 63 := Nat.lt_of_lt_of_le (tabw_lt g i) (Nat.pow_le_pow_right (by decide) (by omega))
      cases hg : g i with
      | true =>
        have e : tabw g (i + 1) = tabw g i ||| 2 ^ i := by simp [tabw, hg]
        rw [e] at h1
        simp only [cond_true, gd_true (decide_eq_true (by omega : 0 ≤ (i : Int)))]
        rw [shl_one i (by omega), bOr _ _ hw (Nat.pow_lt_pow_right (by decide) (by omega))]
        exact h1
      | false =>
        have e : tabw g (i + 1) = tabw g i := by simp [tabw, hg]
        rw [e] at h1
        exact h1
    · have : i = m := by omega
      subst this
      rw [decide_eq_false (by omega : ¬ (i : Int) < (i : Int))]
      rfl

theorem makeTable_eq (N : Nat) (hN : 64 < N) (n : Nat) (hn : n ≤ 5) (h : Int → (Bool → Option β) → Option β) (g : Nat → Bool) (hh : ∀ (x : Nat) k, x < 2 ^ n → h (x : Int) k = k (g x)) (k : Int → Int → Option β) :
    zj143 N (n : Int) h k = k n (tabw g (2 ^ n) : Int) := by
  unfold zj143
  rw [gd_true (decide_eq_true (by omega)), shl_one n (by omega)]
  have := size_le hn
  exact makeTable_loop N h g (2 ^ n) this hh (fun _ _ e2 e3 => k e2 e3) 0 0 n N 0 (by omega) (Nat.zero_le _)

def ys (x i b : Nat) : Nat := x - (x &&& 2 ^ i) + b * 2 ^ i
/-- A bit of a word, as the program takes it. -/
theorem bit_at (w y : Nat) (hw : w < 9223372036854775808) : bits .and .i64 (shrI .i64 (w : Int) (y : Int)) 1 = ((if w.testBit y then 1 else 0 : Nat) : Int) := by
  rw [shr_nat w y hw]
  have h1 : w / 2 ^ y < 2 ^ 63 := Nat.lt_of_le_of_lt (Nat.div_le_self _ _) hw
  have := bAnd (w / 2 ^ y) 1 h1 (by decide)
  rw [show ((1 : Nat) : Int) = 1 from rfl] at this
  rw [this, Nat.and_one_is_mod]
  congr 1
  rw [Nat.testBit, Nat.shiftRight_eq_div_pow, Nat.and_comm, Nat.and_one_is_mod]
  have := Nat.mod_two_eq_zero_or_one (w / 2 ^ y)
  rcases this with h | h <;> simp [h]

/-- What a table is. -/
def isT (a0 a1 : Int) : Bool := decide (0 ≤ a0) && decide (a0 ≤ 5) && decide (0 ≤ a1) && decide (a1 < 2 ^ 2 ^ a0.toNat)

theorem isT_nat {a0 a1 : Int} (h : isT a0 a1 = true) : ∃ n w : Nat, a0 = n ∧ a1 = w ∧ n ≤ 5 ∧ w < 2 ^ 2 ^ n ∧ w < 4294967296 := by
  simp only [isT, Bool.and_eq_true, decide_eq_true_eq] at h
  obtain ⟨⟨⟨h1, h2⟩, h3⟩, h4⟩ := h
  obtain ⟨n, rfl⟩ := Int.eq_ofNat_of_zero_le h1
  obtain ⟨w, rfl⟩ := Int.eq_ofNat_of_zero_le h3
  simp only [Int.toNat_natCast] at h4
  have h5 : w < 2 ^ 2 ^ n := by exact_mod_cast h4
  have h6 : 2 ^ 2 ^ n ≤ 2 ^ 32 := Nat.pow_le_pow_right (by decide) (size_le (by omega))
  exact ⟨n, w, rfl, rfl, by omega, h5, by omega⟩

theorem shl_u64 : ∀ n : Nat, n ≤ 5 → shlI .u64 1 (n : Int) = ((2 ^ n : Nat) : Int) := by decide +kernel

theorem spec_IsTable_eq (N : Nat) (a0 a1 : Int) (k : Bool → Option β) : zj2 N a0 a1 k = k (isT a0 a1) := by
  unfold zj2 zj1
  by_cases h0 : 0 ≤ a0
  · rw [decide_eq_true (by omega : a0 ≥ 0)]
    simp only [cond_true]
    by_cases h5 : a0 ≤ 5
    · rw [decide_eq_true h5]
      obtain ⟨n, rfl⟩ := Int.eq_ofNat_of_zero_le h0
      have hn : n ≤ 5 := by omega
      have hs := size_le hn
      have hp := pow_le_64 (n := 2 ^ n) (by omega)
      have hpos := Nat.two_pow_pos (2 ^ n)
      simp only [cond_true]
      rw [gd_true rfl, shl_u64 n hn, gd_true (decide_eq_true (Int.natCast_nonneg _)), shl_one (2 ^ n) (by omega), w64_id (by omega) (by omega)]
      have e : isT (n : Int) a1 = (decide (0 ≤ a1) && decide (a1 < ((2 ^ 2 ^ n : Nat) : Int))) := by
        simp only [isT, Int.toNat_natCast, decide_eq_true (by omega : 0 ≤ (n : Int)), decide_eq_true (by omega : (n : Int) ≤ 5), Bool.true_and]
        push_cast
        rfl
      rw [e]
      by_cases h1 : 0 ≤ a1
      · rw [decide_eq_true (by omega : a1 ≥ 0)]
        simp only [cond_true, Bool.true_and]
        congr 1
        exact decide_eq_decide.2 (by omega)
      · rw [decide_eq_false (by omega : ¬ a1 ≥ 0)]; rfl
    · rw [decide_eq_false h5]
      simp [isT, h5]
  · rw [decide_eq_false (by omega : ¬ a0 ≥ 0)]
    simp [isT, h0]

theorem impl_IsTable_eq (N : Nat) (a0 a1 : Int) (h : a1 < 9223372036854775808) (k : Bool → Option β) : zj80 N a0 a1 k = k (isT a0 a1) := by
  unfold zj80 zj78 zj79
  by_cases h0 : 0 ≤ a0
  · rw [decide_eq_true (by omega : a0 ≥ 0)]
    simp only [cond_true]
    by_cases h5 : a0 ≤ 5
    · rw [decide_eq_true h5]
      obtain ⟨n, rfl⟩ := Int.eq_ofNat_of_zero_le h0
      have hn : n ≤ 5 := by omega
      have hs := size_le hn
      have hpos := Nat.two_pow_pos (2 ^ n)
      simp only [cond_true]
      rw [gd_true rfl]
      have e : isT (n : Int) a1 = (decide (0 ≤ a1) && decide (a1 < ((2 ^ 2 ^ n : Nat) : Int))) := by
        simp only [isT, Int.toNat_natCast, decide_eq_true (by omega : 0 ≤ (n : Int)), decide_eq_true (by omega : (n : Int) ≤ 5), Bool.true_and]
        push_cast
        rfl
      rw [e]
      by_cases h1 : 0 ≤ a1
      · obtain ⟨w, rfl⟩ := Int.eq_ofNat_of_zero_le h1
        rw [decide_eq_true (by omega : (w : Int) ≥ 0), shl_one n (by omega)]
        simp only [cond_true, Bool.true_and]
        rw [gd_true (decide_eq_true (Int.natCast_nonneg _)), shr_nat w (2 ^ n) (by omega)]
        congr 1
        have : w / 2 ^ 2 ^ n = 0 ↔ w < 2 ^ 2 ^ n := by
          rw [Nat.div_eq_zero_iff]
          omega
        by_cases hw : w < 2 ^ 2 ^ n
        · rw [this.2 hw, decide_eq_true (by omega)]; rfl
        · rw [decide_eq_false (by omega)]
          have : ¬ w / 2 ^ 2 ^ n = 0 := fun h => hw (this.1 h)
          simp only [beq_eq_false_iff_ne, ne_eq]
          omega
      · rw [decide_eq_false (by omega : ¬ a1 ≥ 0)]; rfl
    · rw [decide_eq_false h5]
      simp [isT, h5]
  · rw [decide_eq_false (by omega : ¬ a0 ≥ 0)]
    simp [isT, h0]
end Go.Proofs.Ytfdggelojmofmaa
namespace Go.Proofs.Ytfdggelojmofmaa
open Go.Rv
set_option linter.unusedVariables false
variable {β : Type}
theorem tabw_bit (g : Nat → Bool) : ∀ (n x : Nat), (tabw g n).testBit x = (decide (x < n) && g x)
  | 0, x => by simp [tabw]
  | n + 1, x => by
    unfold tabw
    rw [Nat.testBit_or, tabw_bit g n x]
    by_cases hx : x = n
    · subst hx
      cases hg : g x <;> simp [Nat.testBit_two_pow_self]
    · have h1 : (if g n then 2 ^ n else 0 : Nat).testBit x = false := by
        split
        · exact Nat.testBit_two_pow_of_ne (Ne.symm hx)
        · exact Nat.zero_testBit _
      rw [h1, Bool.or_false]
      congr 1
      exact decide_eq_decide.2 (by omega)

theorem tabw_eq_iff (g h : Nat → Bool) (n : Nat) : tabw g n = tabw h n ↔ ∀ x, x < n → g x = h x := by
  refine ⟨fun e x hx => ?_, fun e => tabw_congr e⟩
  have := congrArg (fun t => t.testBit x) e
  simpa [tabw_bit, hx] using this

theorem tabw_self (w n : Nat) (h : w < 2 ^ n) : tabw w.testBit n = w := by
  apply Nat.eq_of_testBit_eq
  intro x
  rw [tabw_bit]
  by_cases hx : x < n
  · simp [hx]
  · have : w.testBit x = false := Nat.testBit_lt_two_pow (Nat.lt_of_lt_of_le h (Nat.pow_le_pow_right (by decide) (by omega)))
    simp [hx, this]

/-- A bit put in between. -/
def ins (x i b : Nat) : Nat := (x / 2 ^ i) * 2 ^ (i + 1) ||| b * 2 ^ i ||| (x &&& (2 ^ i - 1))
def del (x i : Nat) : Nat := (x / 2 ^ (i + 1)) * 2 ^ i ||| (x &&& (2 ^ i - 1))
theorem del_ins : ∀ n, n ≤ 5 → ∀ i, i < n → ∀ x, x < 2 ^ n → del x i < 2 ^ (n - 1) ∧ ins (del x i) i (x / 2 ^ i % 2) = x ∧ ∀ b, b < 2 → ys x i b = ins (del x i) i b := by decide +kernel
theorem ins_lt1 : ∀ n, n ≤ 5 → ∀ i, i < n → ∀ x, x < 2 ^ (n - 1) → ins x i 0 < 2 ^ n ∧ ins x i 1 < 2 ^ n := by decide +kernel
theorem ins_ys : ∀ n, n ≤ 5 → ∀ i, i < n → ∀ x, x < 2 ^ (n - 1) → ys (ins x i 0) i 0 = ins x i 0 ∧ ys (ins x i 0) i 1 = ins x i 1 ∧ ys (ins x i 1) i 0 = ins x i 0 ∧ ys (ins x i 1) i 1 = ins x i 1 := by decide +kernel
theorem ins_lt (n : Nat) (hn : n ≤ 5) (i : Nat) (hi : i < n) (x : Nat) (hx : x < 2 ^ (n - 1)) (b : Nat) (hb : b < 2) : ins x i b < 2 ^ n ∧ ∀ c, c < 2 → ys (ins x i c) i b = ins x i b := by
  obtain ⟨h1, h2⟩ := ins_lt1 n hn i hi x hx
  obtain ⟨h3, h4, h5, h6⟩ := ins_ys n hn i hi x hx
  have hb' : b = 0 ∨ b = 1 := by omega
  rcases hb' with rfl | rfl
  · exact ⟨h1, fun c hc => by have hc' : c = 0 ∨ c = 1 := by omega
                              rcases hc' with rfl | rfl <;> assumption⟩
  · exact ⟨h2, fun c hc => by have hc' : c = 0 ∨ c = 1 := by omega
                              rcases hc' with rfl | rfl <;> assumption⟩

/-- Whether a word depends on an input. -/
def dep (w n i : Nat) : Bool := tabw (fun x => w.testBit (ins x i 0)) (2 ^ (n - 1)) != tabw (fun x => w.testBit (ins x i 1)) (2 ^ (n - 1))

theorem stuck_same (w n i b : Nat) (hn : n ≤ 5) (hi : i < n) (hb : b < 2) (hw : w < 2 ^ 2 ^ n) : (tabw (fun x => w.testBit (ys x i b)) (2 ^ n) == w) = !dep w n i := by
  have key : tabw (fun x => w.testBit (ys x i b)) (2 ^ n) = w ↔ tabw (fun x => w.testBit (ins x i 0)) (2 ^ (n - 1)) = tabw (fun x => w.testBit (ins x i 1)) (2 ^ (n - 1)) := by
    conv => lhs; rhs; rw [← tabw_self w (2 ^ n) hw]
    rw [tabw_eq_iff, tabw_eq_iff]
    constructor
    · intro h x hx
      obtain ⟨a1, a2⟩ := ins_lt n hn i hi x hx 0 (by omega)
      obtain ⟨b1, b2⟩ := ins_lt n hn i hi x hx 1 (by omega)
      have e0 := h _ a1
      have e1 := h _ b1
      have c0 := (ins_lt n hn i hi x hx b hb).2 0 (by omega)
      have c1 := (ins_lt n hn i hi x hx b hb).2 1 (by omega)
      rw [c0] at e0
      rw [c1] at e1
      rw [← e0, ← e1]
    · intro h x hx
      obtain ⟨h1, h2, h3⟩ := del_ins n hn i hi x hx
      have e := h _ h1
      rw [h3 b hb]
      conv => rhs; rw [← h2]
      have hc : x / 2 ^ i % 2 = 0 ∨ x / 2 ^ i % 2 = 1 := by omega
      have hb' : b = 0 ∨ b = 1 := by omega
      rcases hc with hc | hc <;> rcases hb' with rfl | rfl <;> rw [hc] <;> simp only [e]
  unfold dep
  by_cases h : tabw (fun x => w.testBit (ys x i b)) (2 ^ n) = w
  · rw [beq_iff_eq.2 h]
    simp [key.1 h]
  · rw [beq_eq_false_iff_ne.2 h]
    rw [bne_iff_ne.2 fun e => h (key.2 e)]
    rfl

theorem ins_small : ∀ x, x < 32 → ∀ i, i < 5 → x / 2 ^ i * 2 ^ (i + 1) < 64 ∧ (x &&& (2 ^ i - 1)) < 32 ∧ ins x i 0 < 128 ∧ ins x i 1 < 128 := by decide +kernel

theorem spec_l3Insert_eq (N x i b : Nat) (hx : x < 32) (hi : i < 5) (hb : b < 2) (k : Int → Option β) : zj66 N (x : Int) (i : Int) (b : Int) k = k (ins x i b : Int) := by
  obtain ⟨h1, h2, _, _⟩ := ins_small x hx i hi
  have hp5 : 2 ^ i ≤ 32 := size_le (by omega)
  have hp0 := Nat.two_pow_pos i
  have hb2 : b * 2 ^ i ≤ 1 * 32 := Nat.mul_le_mul (by omega) hp5
  unfold zj66
  rw [w64_succ i (by omega)]
  simp only [gd_true (decide_eq_true (by omega : 0 ≤ (i : Int))), gd_true (decide_eq_true (by omega : 0 ≤ ((i + 1 : Nat) : Int)))]
  have e1 : w64 (shlI .i64 1 (i : Int) - 1) = ((2 ^ i - 1 : Nat) : Int) := by
    rw [shl_one i (by omega), w64_id (by omega) (by omega)]
    omega
  have h3 : x / 2 ^ i * 2 ^ (i + 1) ||| b * 2 ^ i < 2 ^ 63 := Nat.or_lt_two_pow (by omega) (by omega)
  rw [e1, shr_nat x i (by omega), shl_nat (x / 2 ^ i) (i + 1) (by omega) (by omega), shl_nat b i (by omega) (by omega), bOr _ _ (by omega) (by omega), bAnd x (2 ^ i - 1) (by omega) (by omega), bOr _ _ h3 (by omega)]
  rfl

theorem spec_l3Restrict_loop (N n w i b : Nat) (hn : n ≤ 5) (hi : i < n) (hw : w < 4294967296) (hb : b < 2) (c d : Int) (k0 : Int → Int → Int → Int → Int → Option β) :
    ∀ (F x : Nat), 2 ^ (n - 1) - x < F → x ≤ 2 ^ (n - 1) → zj68 N F (i : Int) (b : Int) (tabw (fun x => w.testBit (ins x i b)) x : Int) (x : Int) (n : Int) (w : Int) c d k0 =
      k0 (tabw (fun x => w.testBit (ins x i b)) (2 ^ (n - 1)) : Int) n w c d := by
  have hs : 2 ^ (n - 1) ≤ 32 := size_le (by omega)
  have hn1 : w64 ((n : Int) - 1) = ((n - 1 : Nat) : Int) := by rw [w64_id (by omega) (by omega)]; omega
  intro F
  induction F with
  | zero => intro x hF; omega
  | succ F ih =>
    intro x hF hx
    simp only [zj68, zj67]
    rw [hn1, gd_true (decide_eq_true (by omega : 0 ≤ ((n - 1 : Nat) : Int))), shl_one (n - 1) (by omega)]
    by_cases hlt : x < 2 ^ (n - 1)
    · rw [decide_eq_true (by omega : (x : Int) < ((2 ^ (n - 1) : Nat) : Int))]
      simp only [cond_true, spec_l3Insert_eq N x i b (by omega) (by omega) hb, gd_true (decide_eq_true (Int.natCast_nonneg _))]
      have htw : tabw (fun x => w.testBit (ins x i b)) x < 2 ^ 63 := Nat.lt_of_lt_of_le (tabw_lt _ x) (Nat.pow_le_pow_right (by decide) (by omega))
      have h5 := ih (x + 1) (by omega) (by omega)
      rw [w64_succ x (by omega), bit_at w _ (by omega)]
      have hpx : 2 ^ x < 9223372036854775808 := pow_le_64 (by omega)
      have e : shlI .i64 ((if w.testBit (ins x i b) then 1 else 0 : Nat) : Int) (x : Int) = ((if w.testBit (ins x i b) then 2 ^ x else 0 : Nat) : Int) := by
        rw [shl_nat _ x (by omega) (by split <;> omega)]
        split <;> simp
      rw [e, bOr _ _ htw (by split <;> omega)]
      exact h5
    · have : x = 2 ^ (n - 1) := by omega
      subst this
      rw [decide_eq_false (by omega : ¬ ((2 ^ (n - 1) : Nat) : Int) < ((2 ^ (n - 1) : Nat) : Int))]
      rfl

theorem spec_l3Restrict_eq (N : Nat) (hN : 64 < N) (n w i b : Nat) (hn : n ≤ 5) (hi : i < n) (hw : w < 4294967296) (hb : b < 2) (k : Int → Int → Option β) :
    zj69 N (n : Int) (w : Int) (i : Int) (b : Int) k = k ((n - 1 : Nat) : Int) (tabw (fun x => w.testBit (ins x i b)) (2 ^ (n - 1)) : Int) := by
  have hs : 2 ^ (n - 1) ≤ 32 := size_le (by omega)
  have hn1 : w64 ((n : Int) - 1) = ((n - 1 : Nat) : Int) := by rw [w64_id (by omega) (by omega)]; omega
  unfold zj69
  refine (spec_l3Restrict_loop N n w i b hn hi hw hb 0 0 (fun e0 e1 _ _ _ => k (w64 (e1 - 1)) e0) N 0 (by omega) (Nat.zero_le _)).trans ?_
  rw [hn1]

theorem spec_l3Depends_eq (N : Nat) (hN : 64 < N) (n w i : Nat) (hn : n ≤ 5) (hi : i < n) (hw : w < 4294967296) (k : Bool → Option β) : zj70 N (n : Int) (w : Int) (i : Int) k = k (dep w n i) := by
  unfold zj70
  have h0 := fun k => spec_l3Restrict_eq (β := β) N hN n w i 0 hn hi hw (by omega) k
  have h1 := fun k => spec_l3Restrict_eq (β := β) N hN n w i 1 hn hi hw (by omega) k
  simp only [Int.natCast_zero, Int.natCast_one] at h0 h1
  rw [h0, h1]
  congr 1
  unfold dep
  by_cases h : tabw (fun x => w.testBit (ins x i 0)) (2 ^ (n - 1)) = tabw (fun x => w.testBit (ins x i 1)) (2 ^ (n - 1))
  · simp [h]
  · rw [bne_iff_ne.2 h, bne_iff_ne.2 fun e => h (by exact_mod_cast e)]

/-- The inputs that a word depends on. -/
def vars (w n m : Nat) : List Int := ((List.range m).filter fun i => dep w n i).map Int.ofNat
theorem vars_len (w n m : Nat) : (vars w n m).length ≤ m := by
  unfold vars
  rw [List.length_map]
  exact Nat.le_trans (List.length_filter_le _ _) (by simp)
theorem vars_succ (w n m : Nat) : vars w n (m + 1) = if dep w n m then vars w n m ++ [(m : Int)] else vars w n m := by
  unfold vars
  rw [List.range_succ, List.filter_append, List.map_append]
  cases h : dep w n m <;> simp [h]

theorem spec_VariablesOf_eq (N : Nat) (hN : 64 < N) (n w : Nat) (hn : n ≤ 5) (hw : w < 2 ^ 2 ^ n) (k : List Int → Option β) : zj73 N (n : Int) (w : Int) k = k (vars w n n) := by
  have hw' : w < 4294967296 := Nat.lt_of_lt_of_le hw (Nat.pow_le_pow_right (by decide) (size_le hn) : 2 ^ 2 ^ n ≤ 2 ^ 32)
  have ht : isT (n : Int) (w : Int) = true := by
    simp only [isT, Int.toNat_natCast, Bool.and_eq_true, decide_eq_true_eq]
    exact ⟨⟨⟨by omega, by omega⟩, by omega⟩, by exact_mod_cast hw⟩
  have key : ∀ (F i : Nat), n - i < F → i ≤ n → zj72 N F (i : Int) (n : Int) (w : Int) (vars w n i) k = k (vars w n n) := by
    intro F
    induction F with
    | zero => intro i hF; omega
    | succ F ih =>
      intro i hF hi
      simp only [zj72, zj71, spec_IsTable_eq, ht, cond_true]
      by_cases hlt : i < n
      · rw [decide_eq_true (by omega : (i : Int) < (n : Int))]
        simp only [cond_true, spec_l3Depends_eq N hN n w i hn hlt hw']
        have h1 := ih (i + 1) (by omega) (by omega)
        rw [vars_succ] at h1
        have hl := vars_len w n i
        rw [w64_succ i (by omega)]
        cases hd : dep w n i with
        | true =>
          rw [hd] at h1
          simp only [cond_true]
          rw [gd_true (decide_eq_true (by simp; omega))]
          simpa using h1
        | false =>
          rw [hd] at h1
          simpa using h1
      · have : i = n := by omega
        subst this
        rw [decide_eq_false (by omega : ¬ (i : Int) < (i : Int))]
        rfl
  unfold zj73
  exact key N 0 (by omega) (Nat.zero_le _)
end Go.Proofs.Ytfdggelojmofmaa
namespace Go.Proofs.Ytfdggelojmofmaa
open Go.Rv
set_option linter.unusedVariables false
variable {β : Type}
theorem detects (w n i b : Nat) (hn : n ≤ 5) (hi : i < n) (hb : b < 2) (hw : w < 2 ^ 2 ^ n) : (((w ^^^ tabw (fun x => w.testBit (ys x i b)) (2 ^ n) : Nat) : Int) != 0) = dep w n i := by
  have h := stuck_same w n i b hn hi hb hw
  cases hd : dep w n i with
  | true =>
    rw [hd] at h
    have h1 : ¬ tabw (fun x => w.testBit (ys x i b)) (2 ^ n) = w := by simpa using h
    rw [bne_iff_ne]
    intro e
    have : w ^^^ tabw (fun x => w.testBit (ys x i b)) (2 ^ n) = 0 := by exact_mod_cast e
    refine h1 (Nat.eq_of_testBit_eq fun j => ?_)
    have := congrArg (fun t => t.testBit j) this
    simp only [Nat.testBit_xor, Nat.zero_testBit] at this
    revert this
    cases w.testBit j <;> cases (tabw (fun x => w.testBit (ys x i b)) (2 ^ n)).testBit j <;> simp
  | false =>
    rw [hd] at h
    have h1 : tabw (fun x => w.testBit (ys x i b)) (2 ^ n) = w := by simpa using h
    rw [h1, Nat.xor_self]
    rfl
end Go.Proofs.Ytfdggelojmofmaa
namespace Go.Proofs.Ytfdggelojmofmaa
open Go.Rv
set_option linter.unusedVariables false
variable {β : Type}
end Go.Proofs.Ytfdggelojmofmaa
namespace Go.Proofs.Ytfdggelojmofmaa
open Go.Rv
set_option linter.unusedVariables false
variable {β : Type}
/-- Whether an input tells a stuck one apart. -/
def sees (w n x i b : Nat) : Bool := (w ^^^ tabw (fun x => w.testBit (ys x i b)) (2 ^ n)).testBit x
def addIf (c : Bool) (l : List Int) (v : Int) : List Int := if c then l ++ [v] else l
/-- The faults seen at an input. -/
def seen (w n x : Nat) : Nat → List Int
  | 0 => []
  | i + 1 => addIf (sees w n x i 1) (addIf (sees w n x i 0) (seen w n x i) ((2 * i : Nat) : Int)) ((2 * i + 1 : Nat) : Int)
theorem isT_of {n w : Nat} (hn : n ≤ 5) (hw : w < 2 ^ 2 ^ n) : isT (n : Int) (w : Int) = true := by
  simp only [isT, Bool.and_eq_true, decide_eq_true_eq, Int.toNat_natCast]
  refine ⟨⟨⟨by omega, by omega⟩, by omega⟩, ?_⟩
  rw [show ((2 : Int) ^ 2 ^ n) = ((2 ^ 2 ^ n : Nat) : Int) by simp]
  omega

/-- Whether a number is an input. -/
def isIn (a0 a1 a2 : Int) : Bool := isT a0 a1 && decide (0 ≤ a2) && decide (a2 < 2 ^ a0.toNat)

theorem spec_l9In_eq (N : Nat) (a0 a1 a2 : Int) (k : Bool → Option β) : zj10 N a0 a1 a2 k = k (isIn a0 a1 a2) := by
  unfold zj10 zj1 isIn
  rw [spec_IsTable_eq]
  cases ht : isT a0 a1 with
  | false => rfl
  | true =>
    obtain ⟨n, w, rfl, rfl, hn, hw, hw'⟩ := isT_nat ht
    have hs := size_le hn
    have hp := Nat.two_pow_pos n
    simp only [cond_true, gd_true (decide_eq_true (by omega : 0 ≤ (n : Int))), Bool.true_and, Int.toNat_natCast]
    rw [shl_one n (by omega), w64_id (by omega) (by omega)]
    by_cases h : 0 ≤ a2
    · rw [decide_eq_true (by omega : a2 ≥ 0)]
      simp only [cond_true, Bool.true_and]
      congr 1
      exact decide_eq_decide.2 (by rw [show ((2 : Int) ^ n) = ((2 ^ n : Nat) : Int) by simp]; omega)
    · rw [decide_eq_false (by omega : ¬ a2 ≥ 0)]; rfl

end Go.Proofs.Ytfdggelojmofmaa
namespace Go.Proofs.Ytfdggelojmofmaa
open Go.Rv
set_option linter.unusedVariables false
variable {β : Type}
theorem spec_l1In_eq (N : Nat) (a b c : Int) (k : Bool → Option β) : zj1 N a b c k = k (decide (b ≤ a) && decide (a ≤ c)) := by
  unfold zj1
  by_cases h : b ≤ a
  · rw [decide_eq_true (by omega : a ≥ b)]; rfl
  · rw [decide_eq_false (by omega : ¬ a ≥ b)]; rfl
theorem impl_isBit_eq (N : Nat) (a : Int) (k : Bool → Option β) : zj104 N a k = k (decide (0 ≤ a) && decide (a ≤ 1)) := by
  unfold zj104
  by_cases h : a = 0
  · subst h; rfl
  · rw [beq_eq_false_iff_ne.2 h, cond_false]
    by_cases h1 : a = 1
    · subst h1; rfl
    · rw [beq_eq_false_iff_ne.2 h1]
      congr 1
      symm
      simp only [Bool.and_eq_false_iff, decide_eq_false_iff_not]
      omega
/-- The word of a table whose variable is stuck. -/
def stuckw (w n i b : Nat) : Nat := tabw (fun x => w.testBit (ys x i b)) (2 ^ n)
/-- The numbers of a set. -/
def elems (d : Nat) : Nat → List Int
  | 0 => []
  | m + 1 => addIf (d.testBit m) (elems d m) (m : Int)
theorem elems_more (d m : Nat) (h : d < 2 ^ m) : ∀ j, elems d (m + j) = elems d m
  | 0 => rfl
  | j + 1 => by
    show addIf (d.testBit (m + j)) (elems d (m + j)) _ = _
    rw [elems_more d m h j, Nat.testBit_lt_two_pow (Nat.lt_of_lt_of_le h (Nat.pow_le_pow_right (by decide) (by omega)))]
    rfl

theorem stuckw_lt (w n i b : Nat) : stuckw w n i b < 2 ^ 2 ^ n := tabw_lt _ _
theorem two32 {n w : Nat} (hn : n ≤ 5) (hw : w < 2 ^ 2 ^ n) : w < 4294967296 := Nat.lt_of_lt_of_le hw (Nat.pow_le_pow_right (by decide) (size_le hn) : 2 ^ 2 ^ n ≤ 2 ^ 32)

/-- A set with more numbers. -/
def addAll (s : Nat) (l : List Int) : Nat := l.foldl (fun s x => s ||| 2 ^ x.toNat) s

end Go.Proofs.Ytfdggelojmofmaa
namespace Go.Proofs.Ytfdggelojmofmaa
open Go.Rv
set_option linter.unusedVariables false
variable {β : Type}
/-- How many ones a number has, of at most so many bits. -/
def pc : Nat → Nat → Nat
  | 0, _ => 0
  | f + 1, w => w % 2 + pc f (w / 2)
theorem pc_le : ∀ f w, pc f w ≤ f
  | 0, _ => Nat.le_refl _
  | f + 1, w => by have := pc_le f (w / 2); simp only [pc]; omega
theorem pc_split : ∀ (j f c y : Nat), c < 2 ^ j → pc (j + f) (c + 2 ^ j * y) = pc j c + pc f y
  | 0, f, c, y, h => by
    have : c = 0 := by simpa using h
    subst this
    simp [pc]
  | j + 1, f, c, y, h => by
    rw [show j + 1 + f = (j + f) + 1 by omega]
    simp only [pc]
    have e : 2 ^ (j + 1) * y = 2 * (2 ^ j * y) := by rw [Nat.pow_succ]; rw [Nat.mul_comm (2 ^ j) 2, Nat.mul_assoc]
    rw [e, show (c + 2 * (2 ^ j * y)) % 2 = c % 2 by omega, show (c + 2 * (2 ^ j * y)) / 2 = c / 2 + 2 ^ j * y by omega, pc_split j f (c / 2) y (by rw [Nat.pow_succ] at h; omega)]
    omega
/-- The ones of a word. -/
def ones (w : Nat) : Nat := pc 32 w
theorem ones_le (w : Nat) : ones w ≤ 32 := pc_le 32 w
theorem ones_bytes (c0 c1 c2 c3 : Nat) (h0 : c0 < 256) (h1 : c1 < 256) (h2 : c2 < 256) (h3 : c3 < 256) : ones (c0 + 256 * (c1 + 256 * (c2 + 256 * c3))) = pc 8 c0 + (pc 8 c1 + (pc 8 c2 + pc 8 c3)) := by
  unfold ones
  rw [show (32 : Nat) = 8 + 24 from rfl, show (256 : Nat) = 2 ^ 8 from rfl, pc_split 8 24 c0 _ h0, show (24 : Nat) = 8 + 16 from rfl, pc_split 8 16 c1 _ h1, show (16 : Nat) = 8 + 8 from rfl, pc_split 8 8 c2 _ h2]

theorem and_byte (c y m M : Nat) (hc : c < 256) (hm : m < 256) : (c + 256 * y) &&& (m + 256 * M) = (c &&& m) + 256 * (y &&& M) := by
  have h1 : ((c + 256 * y) &&& (m + 256 * M)) % 2 ^ 8 = (c + 256 * y) % 2 ^ 8 &&& (m + 256 * M) % 2 ^ 8 := Nat.and_mod_two_pow
  have h2 : ((c + 256 * y) &&& (m + 256 * M)) / 2 ^ 8 = (c + 256 * y) / 2 ^ 8 &&& (m + 256 * M) / 2 ^ 8 := Nat.and_div_two_pow
  rw [show (c + 256 * y) % 2 ^ 8 = c by omega, show (m + 256 * M) % 2 ^ 8 = m by omega] at h1
  rw [show (c + 256 * y) / 2 ^ 8 = y by omega, show (m + 256 * M) / 2 ^ 8 = M by omega] at h2
  omega
theorem byte1 : ∀ c, c < 128 → ∀ b, b < 2 → (c + 128 * b) &&& 85 = c &&& 85 := by decide +kernel
theorem byte2 : ∀ c, c < 64 → ∀ b, b < 4 → (c + 64 * b) &&& 51 = c &&& 51 := by decide +kernel
theorem byte3 : ∀ c, c < 74 → ∀ b, b < 5 → (c + 16 * b) &&& 15 = c &&& 15 := by decide +kernel
theorem step1 (c y M : Nat) (hc : c < 256) : ((c + 256 * y) / 2 &&& (85 + 256 * M)) + ((c + 256 * y) &&& (85 + 256 * M)) = ((c / 2 &&& 85) + (c &&& 85)) + 256 * ((y / 2 &&& M) + (y &&& M)) := by
  rw [show (c + 256 * y) / 2 = (c / 2 + 128 * (y % 2)) + 256 * (y / 2) by omega, and_byte _ _ _ _ (by omega) (by omega), and_byte _ _ _ _ hc (by omega), byte1 _ (by omega) _ (by omega)]
  omega
theorem step2 (c y M : Nat) (hc : c < 256) : ((c + 256 * y) / 4 &&& (51 + 256 * M)) + ((c + 256 * y) &&& (51 + 256 * M)) = ((c / 4 &&& 51) + (c &&& 51)) + 256 * ((y / 4 &&& M) + (y &&& M)) := by
  rw [show (c + 256 * y) / 4 = (c / 4 + 64 * (y % 4)) + 256 * (y / 4) by omega, and_byte _ _ _ _ (by omega) (by omega), and_byte _ _ _ _ hc (by omega), byte2 _ (by omega) _ (by omega)]
  omega
theorem step3 (c y M : Nat) (hc : c ≤ 68) (hy : y % 16 ≤ 4) : ((c + 256 * y) / 16 + (c + 256 * y)) &&& (15 + 256 * M) = ((c / 16 + c) &&& 15) + 256 * ((y / 16 + y) &&& M) := by
  rw [show (c + 256 * y) / 16 + (c + 256 * y) = ((c / 16 + c) + 16 * (y % 16)) + 256 * (y / 16 + y) by omega, and_byte _ _ _ _ (by omega) (by omega), byte3 _ (by omega) _ (by omega)]
def q1 (c : Nat) : Nat := (c / 2 &&& 85) + (c &&& 85)
def q2 (c : Nat) : Nat := (c / 4 &&& 51) + (c &&& 51)
def q3 (c : Nat) : Nat := (c / 16 + c) &&& 15
theorem q_spec : ∀ c, c < 256 → q1 c < 256 ∧ q2 (q1 c) ≤ 68 ∧ q2 (q1 c) % 16 ≤ 4 ∧ q3 (q2 (q1 c)) = pc 8 c ∧ pc 8 c ≤ 8 := by decide +kernel

/-- The count as the library reckons it. -/
def swar (w : Nat) : Nat :=
  let a := (w / 2 &&& 6148914691236517205) + (w &&& 6148914691236517205)
  let b := (a / 4 &&& 3689348814741910323) + (a &&& 3689348814741910323)
  (b / 16 + b) &&& 1085102592571150095
theorem swar_eq (c0 c1 c2 c3 : Nat) (h0 : c0 < 256) (h1 : c1 < 256) (h2 : c2 < 256) (h3 : c3 < 256) :
    swar (c0 + 256 * (c1 + 256 * (c2 + 256 * c3))) = pc 8 c0 + 256 * (pc 8 c1 + 256 * (pc 8 c2 + 256 * pc 8 c3)) := by
  obtain ⟨a0, b0, d0, e0, _⟩ := q_spec c0 h0
  obtain ⟨a1, b1, d1, e1, _⟩ := q_spec c1 h1
  obtain ⟨a2, b2, d2, e2, _⟩ := q_spec c2 h2
  obtain ⟨a3, b3, d3, e3, _⟩ := q_spec c3 h3
  have s1 : ((c0 + 256 * (c1 + 256 * (c2 + 256 * (c3 + 256 * 0)))) / 2 &&& 6148914691236517205) + ((c0 + 256 * (c1 + 256 * (c2 + 256 * (c3 + 256 * 0)))) &&& 6148914691236517205) = q1 c0 + 256 * (q1 c1 + 256 * (q1 c2 + 256 * (q1 c3 + 256 * 0))) := by
    rw [show (6148914691236517205 : Nat) = 85 + 256 * (85 + 256 * (85 + 256 * (85 + 256 * 1431655765))) from rfl, step1 _ _ _ h0, step1 _ _ _ h1, step1 _ _ _ h2, step1 _ _ _ h3]
    simp [q1]
  have s2 : ((q1 c0 + 256 * (q1 c1 + 256 * (q1 c2 + 256 * (q1 c3 + 256 * 0)))) / 4 &&& 3689348814741910323) + ((q1 c0 + 256 * (q1 c1 + 256 * (q1 c2 + 256 * (q1 c3 + 256 * 0)))) &&& 3689348814741910323) = q2 (q1 c0) + 256 * (q2 (q1 c1) + 256 * (q2 (q1 c2) + 256 * (q2 (q1 c3) + 256 * 0))) := by
    rw [show (3689348814741910323 : Nat) = 51 + 256 * (51 + 256 * (51 + 256 * (51 + 256 * 858993459))) from rfl, step2 _ _ _ a0, step2 _ _ _ a1, step2 _ _ _ a2, step2 _ _ _ a3]
    simp [q2]
  have s3 : ((q2 (q1 c0) + 256 * (q2 (q1 c1) + 256 * (q2 (q1 c2) + 256 * (q2 (q1 c3) + 256 * 0)))) / 16 + (q2 (q1 c0) + 256 * (q2 (q1 c1) + 256 * (q2 (q1 c2) + 256 * (q2 (q1 c3) + 256 * 0))))) &&& 1085102592571150095 = q3 (q2 (q1 c0)) + 256 * (q3 (q2 (q1 c1)) + 256 * (q3 (q2 (q1 c2)) + 256 * (q3 (q2 (q1 c3)) + 256 * 0))) := by
    rw [show (1085102592571150095 : Nat) = 15 + 256 * (15 + 256 * (15 + 256 * (15 + 256 * 252645135))) from rfl, step3 _ _ _ b0 (by omega), step3 _ _ _ b1 (by omega), step3 _ _ _ b2 (by omega), step3 _ _ _ b3 (by omega)]
    simp [q3]
  have e : c0 + 256 * (c1 + 256 * (c2 + 256 * c3)) = c0 + 256 * (c1 + 256 * (c2 + 256 * (c3 + 256 * 0))) := by omega
  unfold swar
  rw [e]
  simp only [s1, s2, s3]
  rw [e0, e1, e2, e3]
  omega
theorem swar_sum (q0 q1 q2 q3 : Nat) (h0 : q0 ≤ 8) (h1 : q1 ≤ 8) (h2 : q2 ≤ 8) (h3 : q3 ≤ 8) (x y z u : Nat) (hx : x = q0 + 256 * (q1 + 256 * (q2 + 256 * q3))) (hy : y = x + x / 256) (hz : z = y + y / 65536) (hu : u = z + z / 4294967296) :
    u % 128 = q0 + (q1 + (q2 + q3)) ∧ u < 9223372036854775808 ∧ x < 4294967296 ∧ y < 8589934592 ∧ z < 17179869184 := by
  have e1 : x / 256 = q1 + 256 * (q2 + 256 * q3) := by omega
  have e2 : y = (q0 + q1 + 256 * (q1 + q2)) + 65536 * (q2 + q3 + 256 * q3) := by omega
  have e3 : y / 65536 = q2 + q3 + 256 * q3 := by omega
  have e4 : z = (q0 + (q1 + (q2 + q3))) + 256 * (q1 + q2 + q3 + 256 * (q2 + q3 + 256 * q3)) := by omega
  have e5 : z / 4294967296 = 0 := by omega
  have e6 : u = z := by omega
  have e7 : u % 128 = q0 + (q1 + (q2 + q3)) := by omega
  exact ⟨e7, by omega, by omega, by omega, by omega⟩

theorem wrapU_small (n : Int) (h0 : 0 ≤ n) (h1 : n < 2 ^ 64) : IntKind.u64.wrap n = n := by
  rw [IntKind.wrap_u64]
  have : (2 : Int) ^ 64 = 18446744073709551616 := by decide
  omega
theorem wu64_nat (n : Nat) (h : n < 18446744073709551616) : wu64 (n : Int) = n := by
  have : (2 : Int) ^ 64 = 18446744073709551616 := by decide
  exact wrapU_small _ (by omega) (by omega)
theorem bAndU (a b : Nat) (ha : a < 2 ^ 64) (hb : b < 2 ^ 64) : bits .and .u64 (a : Int) (b : Int) = ((a &&& b : Nat) : Int) := (bits_nat .u64 64 (by decide) wrapU_small a b ha hb).1
theorem shrU (a n : Nat) (hn : n ≤ 64) : shrI .u64 (a : Int) (n : Int) = ((a / 2 ^ n : Nat) : Int) := by
  have e : IntKind.u64.bits = 64 := rfl
  simp only [shrI, Int.toNat_natCast, e]
  rw [Nat.min_eq_left hn]; simp

def g1 (a : Int) : Int := wu64 (bits .and .u64 (shrI .u64 a 1) 6148914691236517205 + bits .and .u64 a 6148914691236517205)
def g2 (a : Int) : Int := wu64 (bits .and .u64 (shrI .u64 a 2) 3689348814741910323 + bits .and .u64 a 3689348814741910323)
def g3 (a : Int) : Int := bits .and .u64 (wu64 (shrI .u64 a 4 + a)) 1085102592571150095
def g4 (a : Int) : Int := wu64 (a + shrI .u64 a 8)
def g5 (a : Int) : Int := wu64 (a + shrI .u64 a 16)
def g6 (a : Int) : Int := wu64 (a + shrI .u64 a 32)
theorem g1_nat (w : Nat) (h : w < 9223372036854775808) : g1 (w : Int) = (((w / 2 &&& 6148914691236517205) + (w &&& 6148914691236517205) : Nat) : Int) := by
  have e1 := shrU w 1 (by omega)
  have e2 := bAndU (w / 2 ^ 1) 6148914691236517205 (by omega) (by omega)
  have e3 := bAndU w 6148914691236517205 (by omega) (by omega)
  have l1 : w / 2 ^ 1 &&& 6148914691236517205 ≤ 6148914691236517205 := Nat.and_le_right
  have l2 : w &&& 6148914691236517205 ≤ 6148914691236517205 := Nat.and_le_right
  have e4 := wu64_nat ((w / 2 ^ 1 &&& 6148914691236517205) + (w &&& 6148914691236517205)) (by omega)
  unfold g1
  rw [show (1 : Int) = ((1 : Nat) : Int) from rfl, show (6148914691236517205 : Int) = ((6148914691236517205 : Nat) : Int) from rfl, e1, e2, e3, ← Int.natCast_add, e4]
theorem g2_nat (w : Nat) (h : w < 18446744073709551616) : g2 (w : Int) = (((w / 4 &&& 3689348814741910323) + (w &&& 3689348814741910323) : Nat) : Int) := by
  have e1 := shrU w 2 (by omega)
  have e2 := bAndU (w / 2 ^ 2) 3689348814741910323 (by omega) (by omega)
  have e3 := bAndU w 3689348814741910323 (by omega) (by omega)
  have l1 : w / 2 ^ 2 &&& 3689348814741910323 ≤ 3689348814741910323 := Nat.and_le_right
  have l2 : w &&& 3689348814741910323 ≤ 3689348814741910323 := Nat.and_le_right
  have e4 := wu64_nat ((w / 2 ^ 2 &&& 3689348814741910323) + (w &&& 3689348814741910323)) (by omega)
  unfold g2
  rw [show (2 : Int) = ((2 : Nat) : Int) from rfl, show (3689348814741910323 : Int) = ((3689348814741910323 : Nat) : Int) from rfl, e1, e2, e3, ← Int.natCast_add, e4]
theorem g3_nat (w : Nat) (h : w < 9223372036854775808) : g3 (w : Int) = (((w / 16 + w) &&& 1085102592571150095 : Nat) : Int) := by
  have e1 := shrU w 4 (by omega)
  have e4 := wu64_nat (w / 2 ^ 4 + w) (by omega)
  have e2 := bAndU (w / 2 ^ 4 + w) 1085102592571150095 (by omega) (by omega)
  unfold g3
  rw [show (4 : Int) = ((4 : Nat) : Int) from rfl, show (1085102592571150095 : Int) = ((1085102592571150095 : Nat) : Int) from rfl, e1, ← Int.natCast_add, e4, e2]
theorem g4_nat (w : Nat) (h : w < 9223372036854775808) : g4 (w : Int) = ((w + w / 256 : Nat) : Int) := by
  have e1 := shrU w 8 (by omega)
  have e4 := wu64_nat (w + w / 2 ^ 8) (by omega)
  unfold g4
  rw [show (8 : Int) = ((8 : Nat) : Int) from rfl, e1, ← Int.natCast_add, e4]
theorem g5_nat (w : Nat) (h : w < 9223372036854775808) : g5 (w : Int) = ((w + w / 65536 : Nat) : Int) := by
  have e1 := shrU w 16 (by omega)
  have e4 := wu64_nat (w + w / 2 ^ 16) (by omega)
  unfold g5
  rw [show (16 : Int) = ((16 : Nat) : Int) from rfl, e1, ← Int.natCast_add, e4]
theorem g6_nat (w : Nat) (h : w < 9223372036854775808) : g6 (w : Int) = ((w + w / 4294967296 : Nat) : Int) := by
  have e1 := shrU w 32 (by omega)
  have e4 := wu64_nat (w + w / 2 ^ 32) (by omega)
  unfold g6
  rw [show (32 : Int) = ((32 : Nat) : Int) from rfl, e1, ← Int.natCast_add, e4]

theorem math_bits_OnesCount64_eq (N w : Nat) (hw : w < 4294967296) (k : Int → Option β) : zj105 N (w : Int) k = k (ones w : Int) := by
  have e : zj105 N (w : Int) k = k (bits .and .i64 (w64 (g6 (g5 (g4 (g3 (g2 (g1 (w : Int)))))))) 127) := rfl
  rw [e]
  congr 1
  have l1 : w / 2 &&& 6148914691236517205 ≤ w / 2 := Nat.and_le_left
  have l2 : w &&& 6148914691236517205 ≤ w := Nat.and_le_left
  rw [g1_nat w (by omega)]
  generalize hA : (w / 2 &&& 6148914691236517205) + (w &&& 6148914691236517205) = A
  have l3 : A / 4 &&& 3689348814741910323 ≤ A / 4 := Nat.and_le_left
  have l4 : A &&& 3689348814741910323 ≤ A := Nat.and_le_left
  rw [g2_nat A (by omega)]
  generalize hB : (A / 4 &&& 3689348814741910323) + (A &&& 3689348814741910323) = B
  rw [g3_nat B (by omega)]
  have hC : (B / 16 + B) &&& 1085102592571150095 = swar w := by rw [← hB, ← hA]; rfl
  rw [hC]
  have hb : w = (w % 256) + 256 * ((w / 256 % 256) + 256 * ((w / 65536 % 256) + 256 * (w / 16777216))) := by omega
  have b0 := q_spec (w % 256) (by omega)
  have b1 := q_spec (w / 256 % 256) (by omega)
  have b2 := q_spec (w / 65536 % 256) (by omega)
  have b3 := q_spec (w / 16777216) (by omega)
  have hs := swar_eq (w % 256) (w / 256 % 256) (w / 65536 % 256) (w / 16777216) (by omega) (by omega) (by omega) (by omega)
  have ho := ones_bytes (w % 256) (w / 256 % 256) (w / 65536 % 256) (w / 16777216) (by omega) (by omega) (by omega) (by omega)
  rw [← hb] at hs ho
  obtain ⟨r1, r2, r3, r4, r5⟩ := swar_sum _ _ _ _ b0.2.2.2.2 b1.2.2.2.2 b2.2.2.2.2 b3.2.2.2.2 (swar w) _ _ _ hs rfl rfl rfl
  rw [g4_nat _ (by omega), g5_nat _ (by omega), g6_nat _ (by omega), w64_nat _ r2]
  have ha := bAnd (swar w + swar w / 256 + (swar w + swar w / 256) / 65536 + (swar w + swar w / 256 + (swar w + swar w / 256) / 65536) / 4294967296) 127 (by omega) (by omega)
  rw [show (127 : Int) = ((127 : Nat) : Int) from rfl, ha, show (127 : Nat) = 2 ^ 7 - 1 from rfl, Nat.and_two_pow_sub_one_eq_mod, show (2 : Nat) ^ 7 = 128 from rfl, r1, ho]

theorem impl_ones_eq (N w : Nat) (hw : w < 4294967296) (k : Int → Option β) : zj106 N (w : Int) k = k (ones w : Int) := by
  unfold zj106
  rw [wu64_nat w (by omega), math_bits_OnesCount64_eq N w hw]

theorem spec_l2Count_eq (N w : Nat) (hN : 64 < N) (hw : w < 4294967296) (k : Int → Option β) : zj27 N (w : Int) k = k (ones w : Int) := by
  have key : ∀ (f F n w : Nat), f < F → w < 2 ^ f → n + f < 1000 → w < 4294967296 → zj26 N F (n : Int) (w : Int) k = k ((n + pc f w : Nat) : Int) := by
    intro f
    induction f with
    | zero =>
      intro F n w hF hw _ _
      obtain ⟨F, rfl⟩ : ∃ G, F = G + 1 := ⟨F - 1, by omega⟩
      have : w = 0 := by simpa using hw
      subst this
      simp only [zj26, zj25, pc]
      rfl
    | succ f ih =>
      intro F n w hF hw hn hw'
      obtain ⟨F, rfl⟩ : ∃ G, F = G + 1 := ⟨F - 1, by omega⟩
      simp only [zj26, zj25, pc]
      by_cases h0 : w = 0
      · subst h0
        have z : ∀ f, pc f 0 = 0 := fun f => by
          induction f with
          | zero => rfl
          | succ f ih => simp [pc, ih]
        simp [z]
      · have ha := bAnd w 1 (by omega) (by omega)
        rw [decide_eq_true (by omega : (w : Int) > 0), cond_true, show (1 : Int) = ((1 : Nat) : Int) from rfl, ha, shr_nat w 1 (by omega), Nat.and_one_is_mod, ← Int.natCast_add, w64_nat _ (by omega)]
        rw [ih F (n + w % 2) (w / 2 ^ 1) (by omega) (by rw [Nat.pow_succ] at hw; omega) (by omega) (by omega)]
        congr 2
        simp only [Nat.pow_one]
        omega
  have := key 32 N 0 w (by omega) hw (by omega) hw
  simpa [ones, zj27] using this
end Go.Proofs.Ytfdggelojmofmaa
namespace Go.Proofs.Ytfdggelojmofmaa
open Go.Rv
set_option linter.unusedVariables false
variable {β : Type}
/-- How many numbers below one are such. -/
def cnt (g : Nat → Bool) : Nat → Nat
  | 0 => 0
  | m + 1 => cnt g m + (if g m then 1 else 0)
theorem cnt_le (g : Nat → Bool) : ∀ m, cnt g m ≤ m
  | 0 => Nat.le_refl _
  | m + 1 => by have := cnt_le g m; simp only [cnt]; split <;> omega
theorem cnt_congr {g h : Nat → Bool} : ∀ {m : Nat}, (∀ i, i < m → g i = h i) → cnt g m = cnt h m
  | 0, _ => rfl
  | m + 1, e => by simp only [cnt]; rw [cnt_congr (m := m) fun i hi => e i (by omega), e m (by omega)]
/-- Whether a variable matters at an input. -/
def edge (w i x : Nat) : Bool := w.testBit x != w.testBit (x ^^^ 2 ^ i)
def infl (w i m : Nat) : Nat := cnt (edge w i) m
def infls (w n m : Nat) : List Int := (List.range m).map fun i => ((infl w i (2 ^ n) : Nat) : Int)
theorem infls_len (w n m : Nat) : (infls w n m).length = m := by simp [infls]
theorem infls_get (w n m i : Nat) (h : i < m) : (infls w n m)[i]? = some ((infl w i (2 ^ n) : Nat) : Int) := by simp [infls, h]

theorem spec_bit2 (w x y : Nat) (hw : w < 4294967296) : bits .and .i64 (bits .xor .i64 (shrI .i64 (w : Int) (x : Int)) (shrI .i64 (w : Int) (y : Int))) 1 = ((if w.testBit x != w.testBit y then 1 else 0 : Nat) : Int) := by
  have h1 : w / 2 ^ x < 2 ^ 63 := Nat.lt_of_le_of_lt (Nat.div_le_self _ _) (by omega)
  have h2 : w / 2 ^ y < 2 ^ 63 := Nat.lt_of_le_of_lt (Nat.div_le_self _ _) (by omega)
  rw [shr_nat w x (by omega), shr_nat w y (by omega), bXor _ _ h1 h2]
  have h3 : w / 2 ^ x ^^^ w / 2 ^ y < 2 ^ 63 := Nat.xor_lt_two_pow h1 h2
  have h4 := bit_at (w / 2 ^ x ^^^ w / 2 ^ y) 0 (by omega)
  have h5 : shrI .i64 ((w / 2 ^ x ^^^ w / 2 ^ y : Nat) : Int) ((0 : Nat) : Int) = ((w / 2 ^ x ^^^ w / 2 ^ y : Nat) : Int) := by
    rw [shr_nat _ 0 (by omega)]; simp
  rw [h5] at h4
  rw [h4]
  have e : ∀ m x : Nat, (m / 2 ^ x).testBit 0 = m.testBit x := fun m x => by
    rw [Nat.testBit_zero, Nat.testBit, Nat.shiftRight_eq_div_pow, Nat.and_comm, Nat.and_one_is_mod]
    have := Nat.mod_two_eq_zero_or_one (m / 2 ^ x)
    rcases this with h | h <;> simp [h]
  rw [Nat.testBit_xor, e, e]

theorem impl_influence_eq (N : Nat) (hN : 64 < N) (n w i : Nat) (hn : n ≤ 5) (hi : i < n) (hw : w < 2 ^ 2 ^ n) (k : Int → Option β) :
    zj149 N (n : Int) (w : Int) (i : Int) k = k (infl w i (2 ^ n) : Int) := by
  have hw' := two32 hn hw
  have hs := size_le hn
  unfold zj149 zj79
  rw [shl_one n (by omega), decide_eq_true (by omega : (0 : Int) ≤ (n : Int)), gd_true rfl]
  have key : ∀ (F x : Nat), 2 ^ n - x < F → x ≤ 2 ^ n → zj148 N F (i : Int) (infl w i x : Int) ((2 ^ n : Nat) : Int) (x : Int) (n : Int) (w : Int) k = k (infl w i (2 ^ n) : Int) := by
    intro F
    induction F with
    | zero => intro x h; omega
    | succ F ih =>
      intro x hF hx
      have hc := cnt_le (edge w i) x
      simp only [zj148, zj147, zj84, zj83]
      by_cases hlt : x < 2 ^ n
      · have hp : 2 ^ i < 2 ^ 5 := Nat.pow_lt_pow_right (by decide) (by omega)
        have hxp : x ^^^ 2 ^ i < 2 ^ 5 := Nat.xor_lt_two_pow (by omega) hp
        rw [decide_eq_true (by omega : (x : Int) < ((2 ^ n : Nat) : Int)), decide_eq_true (by omega : (0 : Int) ≤ (x : Int)), decide_eq_true (by omega : (0 : Int) ≤ (i : Int)), shl_one i (by omega), bXor x (2 ^ i) (by omega) (by omega), decide_eq_true (by omega : (0 : Int) ≤ ((x ^^^ 2 ^ i : Nat) : Int)), bit_at w x (by omega), bit_at w _ (by omega), w64_succ x (by omega), w64_succ (infl w i x) (by unfold infl; omega)]
        simp only [cond_true, gd_true rfl]
        have e : ((((if w.testBit x then 1 else 0 : Nat) : Int)) != ((if w.testBit (x ^^^ 2 ^ i) then 1 else 0 : Nat) : Int)) = edge w i x := by
          unfold edge
          cases w.testBit x <;> cases w.testBit (x ^^^ 2 ^ i) <;> rfl
        rw [e]
        have h1 := ih (x + 1) (by omega) (by omega)
        have h2 : infl w i (x + 1) = infl w i x + (if edge w i x then 1 else 0) := rfl
        rw [h2] at h1
        cases he : edge w i x with
        | true => rw [he] at h1; exact h1
        | false => rw [he] at h1; exact h1
      · rw [decide_eq_false (by omega : ¬ (x : Int) < ((2 ^ n : Nat) : Int)), cond_false, show x = 2 ^ n by omega]
  exact key N 0 (by omega) (Nat.zero_le _)

theorem impl_influences_eq (N : Nat) (hN : 64 < N) (n w : Nat) (hn : n ≤ 5) (hw : w < 2 ^ 2 ^ n) (k : List Int → Option β) :
    zj152 N (n : Int) (w : Int) k = k (infls w n n) := by
  unfold zj152
  rw [decide_eq_true (by omega : (0 : Int) ≤ (n : Int)), decide_eq_true (Int.le_refl (n : Int)), decide_eq_true (by omega : 8 * (n : Int) ≤ 281474976710656), gd_true rfl, gd_true rfl, gd_true rfl, List.length_replicate, Int.toNat_natCast]
  have key : ∀ (F i : Nat) (m : List Int), n - i < F → i ≤ n → m.length = n → (∀ j, j < i → m[j]? = (infls w n n)[j]?) →
      zj151 N F (n : Int) (i : Int) (n : Int) (w : Int) m k = k (infls w n n) := by
    intro F
    induction F with
    | zero => intro i m h; omega
    | succ F ih =>
      intro i m hF hi hm heq
      simp only [zj151, zj150]
      by_cases hlt : i < n
      · rw [decide_eq_true (by omega : (i : Int) < (n : Int)), cond_true, impl_influence_eq N hN n w i hn hlt hw, hm, decide_eq_true (by omega : (i : Int) < (n : Int)), decide_eq_true (by omega : (0 : Int) ≤ (i : Int)), w64_succ i (by omega), gd_true rfl, gd_true rfl]
        refine ih (i + 1) _ (by omega) (by omega) (by simp [wr, hm]) fun j hj => ?_
        simp only [wr, Int.toNat_natCast, List.getElem?_set]
        by_cases hij : i = j
        · subst hij
          have : i < m.length := by omega
          simp [this, infls_get w n n i hlt]
        · simp only [hij, if_false]
          exact heq j (by omega)
      · rw [decide_eq_false (by omega : ¬ (i : Int) < (n : Int)), cond_false]
        congr 1
        apply List.ext_getElem?
        intro j
        rcases Nat.lt_or_ge j i with h | h
        · exact heq j h
        · rw [List.getElem?_eq_none (by omega), List.getElem?_eq_none (by rw [infls_len]; omega)]
  exact key N 0 _ (by omega) (Nat.zero_le _) (by simp) (fun j hj => by omega)

end Go.Proofs.Ytfdggelojmofmaa
namespace Go.Proofs.Ytfdggelojmofmaa
open Go.Rv
set_option linter.unusedVariables false
set_option maxRecDepth 100000
variable {β : Type}
theorem xor_self_cancel (a b : Nat) : a ^^^ b ^^^ b = a := by rw [Nat.xor_assoc, Nat.xor_self, Nat.xor_zero]
theorem edge_sym (w i x : Nat) : edge w i (x ^^^ 2 ^ i) = edge w i x := by
  unfold edge
  rw [xor_self_cancel]
  cases w.testBit x <;> cases w.testBit (x ^^^ 2 ^ i) <;> rfl
/-- A word flipped at all of some inputs. -/
def flips (w : Nat) (l : List Int) : Nat := l.foldl (fun w x => w ^^^ 2 ^ x.toNat) w
end Go.Proofs.Ytfdggelojmofmaa
namespace Go.Proofs.Ytfdggelojmofmaa
open Go.Rv
set_option linter.unusedVariables false
variable {β : Type}
def smallT (a0 a1 m : Int) : Bool := isT a0 a1 && decide (a0 ≤ m)
theorem impl_isSmall_eq (N : Nat) (a0 a1 m : Int) (h1 : a1 < 9223372036854775808) (k : Bool → Option β) : zj81 N a0 a1 m k = k (smallT a0 a1 m) := by
  unfold zj81 smallT
  rw [impl_IsTable_eq N a0 a1 h1]
  cases isT a0 a1 <;> rfl
end Go.Proofs.Ytfdggelojmofmaa
namespace Go.Proofs.Ytfdggelojmofmaa
open Go.Rv
set_option linter.unusedVariables false
variable {β : Type}
theorem ys_bit : ∀ x, x < 32 → ∀ i, i < 5 → ∀ b, b < 2 → ys x i b = if x.testBit i == (b == 1) then x else x ^^^ 2 ^ i := by decide +kernel

theorem sees_eq (w n x i b : Nat) (hn : n ≤ 5) (hi : i < n) (hb : b < 2) (hx : x < 2 ^ n) : sees w n x i b = (x.testBit i != (b == 1) && edge w i x) := by
  have hs := size_le hn
  unfold sees edge
  rw [Nat.testBit_xor, tabw_bit, decide_eq_true hx, Bool.true_and, ys_bit x (by omega) i (by omega) b hb]
  cases h : x.testBit i == (b == 1) with
  | true =>
    simp only [if_true]
    simp only [bne, h, Bool.not_true, Bool.false_and, Bool.xor_self]
  | false =>
    simp only [Bool.false_eq_true, if_false]
    simp only [bne, h, Bool.not_false, Bool.true_and]
    try (cases w.testBit x <;> cases w.testBit (x ^^^ 2 ^ i) <;> rfl)

theorem elems_count (d : Nat) : ∀ m, (elems d m).length = cnt d.testBit m
  | 0 => rfl
  | m + 1 => by
    simp only [elems, cnt, ← elems_count d m, addIf]
    cases d.testBit m <;> simp

theorem cnt_range (g : Nat → Bool) : ∀ m, cnt g m = (List.range m).countP g
  | 0 => rfl
  | m + 1 => by
    rw [List.range_succ, List.countP_append, cnt, cnt_range g m]
    simp [List.countP_cons]

theorem flip_perm : ∀ n, n ≤ 5 → ∀ i, i < n → (((List.range (2 ^ n)).map fun x => x ^^^ 2 ^ i).isPerm (List.range (2 ^ n))) = true := by decide +kernel
theorem flip_bit : ∀ x, x < 32 → ∀ i, i < 5 → (x ^^^ 2 ^ i).testBit i = !x.testBit i := by decide +kernel
theorem infl_half (w n i b : Nat) (hn : n ≤ 5) (hi : i < n) (hb : b < 2) (hw : w < 2 ^ 2 ^ n) : infl w i (2 ^ n) = 2 * (elems (w ^^^ stuckw w n i b) 32).length := by
  have hs := size_le hn
  have hd : w ^^^ stuckw w n i b < 2 ^ 2 ^ n := Nat.xor_lt_two_pow hw (stuckw_lt w n i b)
  have e1 : elems (w ^^^ stuckw w n i b) 32 = elems (w ^^^ stuckw w n i b) (2 ^ n) := by
    have := elems_more (w ^^^ stuckw w n i b) (2 ^ n) hd (32 - 2 ^ n)
    rw [show 2 ^ n + (32 - 2 ^ n) = 32 by omega] at this
    exact this
  rw [e1, elems_count]
  have e2 : cnt (w ^^^ stuckw w n i b).testBit (2 ^ n) = cnt (fun x => x.testBit i != (b == 1) && edge w i x) (2 ^ n) := cnt_congr fun x hx => sees_eq w n x i b hn hi hb hx
  have e3 : cnt (fun x => x.testBit i != (b == 1) && edge w i x) (2 ^ n) = cnt (fun x => x.testBit i == (b == 1) && edge w i x) (2 ^ n) := by
    rw [cnt_range, cnt_range]
    have hp := (List.isPerm_iff.1 (flip_perm n hn i hi)).countP_eq (fun x => x.testBit i == (b == 1) && edge w i x)
    rw [List.countP_map] at hp
    rw [← hp]
    apply List.countP_congr
    intro x hx
    have hx := List.mem_range.1 hx
    simp only [Function.comp]
    rw [edge_sym, flip_bit x (by omega) i (by omega)]
    cases x.testBit i <;> cases (b == 1) <;> cases edge w i x <;> decide
  have e4 : infl w i (2 ^ n) = cnt (fun x => x.testBit i != (b == 1) && edge w i x) (2 ^ n) + cnt (fun x => x.testBit i == (b == 1) && edge w i x) (2 ^ n) := by
    unfold infl
    generalize 2 ^ n = m
    induction m with
    | zero => rfl
    | succ m ih =>
      simp only [cnt]
      rw [ih]
      rcases Bool.eq_false_or_eq_true (m.testBit i) with h1 | h1 <;> rcases Bool.eq_false_or_eq_true (b == 1) with h2 | h2 <;> rcases Bool.eq_false_or_eq_true (edge w i m) with h3 | h3 <;> simp only [h1, h2, h3] <;> simp <;> omega
  rw [e4, e2, ← e3]
  omega
end Go.Proofs.Ytfdggelojmofmaa
namespace Go.Proofs.Ytfdggelojmofmaa
open Go.Rv
set_option linter.unusedVariables false
variable {β : Type}
theorem remI_len (m : Nat) (c : Nat) (hc : 0 < c) : remI (m : Int) (c : Int) = ((m % c : Nat) : Int) := by
  unfold remI
  exact (Int.ofNat_tmod m c).symm
/-- How many variables matter at an input. -/
def sens (w n x : Nat) : Nat := cnt (fun i => edge w i x) n
theorem impl_sensitivity_eq (N : Nat) (hN : 64 < N) (n w x : Nat) (hn : n ≤ 5) (hw : w < 2 ^ 2 ^ n) (hx : x < 2 ^ n) (k : Int → Option β) :
    zj87 N (n : Int) (w : Int) (x : Int) k = k (sens w n x : Int) := by
  have hw' := two32 hn hw
  have hs := size_le hn
  unfold zj87
  have key : ∀ (F i : Nat), n - i < F → i ≤ n → zj86 N F (x : Int) (cnt (fun i => edge w i x) i : Int) (n : Int) (i : Int) (n : Int) (w : Int) k = k (sens w n x : Int) := by
    intro F
    induction F with
    | zero => intro i h; omega
    | succ F ih =>
      intro i hF hi
      have hc := cnt_le (fun i => edge w i x) i
      simp only [zj86, zj85, zj84, zj83]
      by_cases hlt : i < n
      · have hp : 2 ^ i < 2 ^ 5 := Nat.pow_lt_pow_right (by decide) (by omega)
        have hxp : x ^^^ 2 ^ i < 2 ^ 5 := Nat.xor_lt_two_pow (by omega) hp
        rw [decide_eq_true (by omega : (i : Int) < (n : Int)), decide_eq_true (by omega : (0 : Int) ≤ (x : Int)), decide_eq_true (by omega : (0 : Int) ≤ (i : Int)), shl_one i (by omega), bXor x (2 ^ i) (by omega) (by omega), decide_eq_true (by omega : (0 : Int) ≤ ((x ^^^ 2 ^ i : Nat) : Int)), bit_at w x (by omega), bit_at w _ (by omega), w64_succ i (by omega), w64_succ (cnt (fun i => edge w i x) i) (by omega)]
        simp only [cond_true, gd_true rfl]
        have e : ((((if w.testBit x then 1 else 0 : Nat) : Int)) != ((if w.testBit (x ^^^ 2 ^ i) then 1 else 0 : Nat) : Int)) = edge w i x := by
          unfold edge
          cases w.testBit x <;> cases w.testBit (x ^^^ 2 ^ i) <;> rfl
        rw [e]
        have h1 := ih (i + 1) (by omega) (by omega)
        have h2 : cnt (fun i => edge w i x) (i + 1) = cnt (fun i => edge w i x) i + (if edge w i x then 1 else 0) := rfl
        rw [h2] at h1
        cases he : edge w i x with
        | true => rw [he] at h1; exact h1
        | false => rw [he] at h1; exact h1
      · rw [decide_eq_false (by omega : ¬ (i : Int) < (n : Int)), cond_false, show i = n by omega]
        rfl
  exact key N 0 (by omega) (Nat.zero_le _)
end Go.Proofs.Ytfdggelojmofmaa
namespace Go.Proofs.Ytfdggelojmofmaa
open Go.Rv
set_option linter.unusedVariables false
variable {β : Type}
end Go.Proofs.Ytfdggelojmofmaa
namespace Go.Proofs.Ytfdggelojmofmaa
open Go.Rv
set_option linter.unusedVariables false
variable {β : Type}
theorem mxI_nat (a b : Nat) : mxI (a : Int) (b : Int) = ((max a b : Nat) : Int) := by unfold mxI; split <;> omega
theorem mnI_nat (a b : Nat) : mnI (a : Int) (b : Int) = ((min a b : Nat) : Int) := by unfold mnI; split <;> omega
/-- The greatest of some numbers, 0 at least. -/
def mx (f : Nat → Nat) : Nat → Nat
  | 0 => 0
  | m + 1 => max (mx f m) (f m)
theorem mx_le (f : Nat → Nat) (B : Nat) : ∀ m, (∀ x, x < m → f x ≤ B) → mx f m ≤ B
  | 0, _ => Nat.zero_le _
  | m + 1, h => by
    have h1 := mx_le f B m fun x hx => h x (by omega)
    have h2 := h m (by omega)
    simp only [mx]
    omega

theorem sens_le (w n x : Nat) : sens w n x ≤ n := cnt_le _ n
theorem spec_l10At_eq (N : Nat) (hN : 64 < N) (n w x : Nat) (hn : n ≤ 5) (hw : w < 2 ^ 2 ^ n) (hx : x < 2 ^ n) (k : Int → Option β) : zj6 N (n : Int) (w : Int) (x : Int) k = k (sens w n x : Int) := by
  have hw' := two32 hn hw
  have hs := size_le hn
  unfold zj6
  have key : ∀ (F i : Nat), n - i < F → i ≤ n → zj5 N F (x : Int) (cnt (fun i => edge w i x) i : Int) (i : Int) (n : Int) (w : Int) k = k (sens w n x : Int) := by
    intro F
    induction F with
    | zero => intro i h; omega
    | succ F ih =>
      intro i hF hi
      have hc := cnt_le (fun i => edge w i x) i
      simp only [zj5, zj4]
      by_cases hlt : i < n
      · have hp : 2 ^ i < 2 ^ 5 := Nat.pow_lt_pow_right (by decide) (by omega)
        have hxp : x ^^^ 2 ^ i < 2 ^ 5 := Nat.xor_lt_two_pow (by omega) hp
        rw [decide_eq_true (by omega : (i : Int) < (n : Int)), decide_eq_true (by omega : (0 : Int) ≤ (x : Int)), decide_eq_true (by omega : (0 : Int) ≤ (i : Int)), shl_one i (by omega), bXor x (2 ^ i) (by omega) (by omega), decide_eq_true (by omega : (0 : Int) ≤ ((x ^^^ 2 ^ i : Nat) : Int)), spec_bit2 w x _ hw', w64_succ i (by omega), ← Int.natCast_add]
        simp only [cond_true, gd_true rfl]
        have e : cnt (fun i => edge w i x) i + (if (w.testBit x != w.testBit (x ^^^ 2 ^ i)) = true then 1 else 0) = cnt (fun i => edge w i x) (i + 1) := rfl
        have hc' := cnt_le (fun i => edge w i x) (i + 1)
        rw [e, w64_nat _ (by omega)]
        exact ih (i + 1) (by omega) (by omega)
      · rw [decide_eq_false (by omega : ¬ (i : Int) < (n : Int)), cond_false, show i = n by omega]
        rfl
  exact key N 0 (by omega) (Nat.zero_le _)

/-- The sensitivity of a table. -/
def sensOf (w n : Nat) : Nat := mx (sens w n) (2 ^ n)
theorem sensOf_le (w n : Nat) : sensOf w n ≤ n := mx_le _ _ _ fun x _ => sens_le w n x
theorem spec_SensitivityOf_eq (N : Nat) (hN : 64 < N) (n w : Nat) (hn : n ≤ 5) (hw : w < 2 ^ 2 ^ n) (k : Int → Option β) : zj9 N (n : Int) (w : Int) k = k (sensOf w n : Int) := by
  have hs := size_le hn
  unfold zj9
  rw [spec_IsTable_eq, isT_of hn hw, Bool.not_true, cond_false]
  have key : ∀ (F x : Nat), 2 ^ n - x < F → x ≤ 2 ^ n → zj8 N F (mx (sens w n) x : Int) (x : Int) (n : Int) (w : Int) k = k (sensOf w n : Int) := by
    intro F
    induction F with
    | zero => intro x h; omega
    | succ F ih =>
      intro x hF hx
      simp only [zj8, zj7]
      rw [gd_true (decide_eq_true (by omega : (0 : Int) ≤ (n : Int))), shl_one n (by omega)]
      by_cases hlt : x < 2 ^ n
      · rw [decide_eq_true (by omega : (x : Int) < ((2 ^ n : Nat) : Int)), cond_true, spec_l10At_eq N hN n w x hn hw hlt, mxI_nat, w64_succ x (by omega)]
        exact ih (x + 1) (by omega) (by omega)
      · rw [decide_eq_false (by omega : ¬ (x : Int) < ((2 ^ n : Nat) : Int)), cond_false, show x = 2 ^ n by omega]
        rfl
  exact key N 0 (by omega) (Nat.zero_le _)
theorem impl_SensitivityOf_eq (N : Nat) (hN : 64 < N) (n w : Nat) (hn : n ≤ 5) (hw : w < 2 ^ 2 ^ n) (k : Int → Option β) : zj90 N (n : Int) (w : Int) k = k (sensOf w n : Int) := by
  have hs := size_le hn
  have hw' := two32 hn hw
  unfold zj90 zj79
  rw [impl_IsTable_eq N _ _ (by omega), isT_of hn hw, Bool.not_true, cond_false, gd_true (decide_eq_true (by omega : (0 : Int) ≤ (n : Int))), shl_one n (by omega)]
  have key : ∀ (F x : Nat), 2 ^ n - x < F → x ≤ 2 ^ n → zj89 N F (mx (sens w n) x : Int) ((2 ^ n : Nat) : Int) (x : Int) (n : Int) (w : Int) k = k (sensOf w n : Int) := by
    intro F
    induction F with
    | zero => intro x h; omega
    | succ F ih =>
      intro x hF hx
      simp only [zj89, zj88]
      by_cases hlt : x < 2 ^ n
      · rw [decide_eq_true (by omega : (x : Int) < ((2 ^ n : Nat) : Int)), cond_true, impl_sensitivity_eq N hN n w x hn hw hlt, mxI_nat, w64_succ x (by omega)]
        exact ih (x + 1) (by omega) (by omega)
      · rw [decide_eq_false (by omega : ¬ (x : Int) < ((2 ^ n : Nat) : Int)), cond_false, show x = 2 ^ n by omega]
        rfl
  exact key N 0 (by omega) (Nat.zero_le _)

/-! ### Certificates -/

/-- Whether a value is seen at an input that agrees, below one. -/
def sc (w m v : Nat) (b : Bool) : Nat → Bool
  | 0 => false
  | x + 1 => sc w m v b x || (x &&& m == v && w.testBit x == b)
def cres (p q : Bool) : Int := cond p (cond q 2 0) (cond q 1 (-1))
/-- Whether both values are seen. -/
def bothV (w n m v : Nat) : Bool := sc w m v false (2 ^ n) && sc w m v true (2 ^ n)
theorem sc_mono (w m v : Nat) (b : Bool) (x : Nat) (h : sc w m v b x = true) : ∀ d, sc w m v b (x + d) = true
  | 0 => h
  | d + 1 => by rw [← Nat.add_assoc, sc, sc_mono w m v b x h d]; rfl

theorem bit_ne (c d : Bool) : (((if c then 1 else 0 : Nat) : Int) == ((if d then 1 else 0 : Nat) : Int)) = (c == d) := by cases c <;> cases d <;> rfl
theorem spec_l3Cube_eq (N : Nat) (hN : 64 < N) (n w m v : Nat) (hn : n ≤ 5) (hw : w < 4294967296) (hm : m < 4294967296) (k : Int → Option β) :
    zj30 N (n : Int) (w : Int) (m : Int) (v : Int) k = k (cres (sc w m v false (2 ^ n)) (sc w m v true (2 ^ n))) := by
  have hs := size_le hn
  unfold zj30
  have key : ∀ (F x : Nat), 2 ^ n - x < F → x ≤ 2 ^ n → (sc w m v false x && sc w m v true x) = false →
      zj29 N F (m : Int) (v : Int) (cres (sc w m v false x) (sc w m v true x)) (x : Int) (n : Int) (w : Int) k k = k (cres (sc w m v false (2 ^ n)) (sc w m v true (2 ^ n))) := by
    intro F
    induction F with
    | zero => intro x h; omega
    | succ F ih =>
      intro x hF hx hno
      simp only [zj29, zj28]
      rw [gd_true (decide_eq_true (by omega : (0 : Int) ≤ (n : Int))), shl_one n (by omega)]
      by_cases hlt : x < 2 ^ n
      · rw [decide_eq_true (by omega : (x : Int) < ((2 ^ n : Nat) : Int)), cond_true, bAnd x m (by omega) (by omega), bit_at w x (by omega), w64_succ x (by omega), gd_true (decide_eq_true (by omega : (0 : Int) ≤ (x : Int)))]
        have e0 : (((x &&& m : Nat) : Int) != (v : Int)) = !(x &&& m == v) := by
          rw [bne, Bool.eq_iff_iff]
          simp only [Bool.not_eq_true', beq_eq_false_iff_ne, ne_eq]
          omega
        rw [e0]
        have ih' := ih (x + 1) (by omega) (by omega)
        have s0 : ∀ b, sc w m v b (x + 1) = (sc w m v b x || (x &&& m == v && w.testBit x == b)) := fun _ => rfl
        rw [s0, s0] at ih'
        cases hv : (x &&& m == v) with
        | false =>
          rw [hv] at ih'
          simp only [Bool.false_and, Bool.or_false] at ih'
          rw [Bool.not_false, cond_true]
          exact ih' hno
        | true =>
          rw [hv] at ih'
          simp only [Bool.true_and] at ih'
          rw [Bool.not_true, cond_false]
          have both : sc w m v false (x + 1) = true → sc w m v true (x + 1) = true → cres (sc w m v false (2 ^ n)) (sc w m v true (2 ^ n)) = 2 := fun h1 h2 => by
            have h3 := sc_mono w m v false (x + 1) h1 (2 ^ n - (x + 1))
            have h4 := sc_mono w m v true (x + 1) h2 (2 ^ n - (x + 1))
            rw [show x + 1 + (2 ^ n - (x + 1)) = 2 ^ n by omega] at h3 h4
            rw [h3, h4]
            rfl
          rw [s0, s0, hv] at both
          simp only [Bool.true_and] at both
          generalize cres (sc w m v false (2 ^ n)) (sc w m v true (2 ^ n)) = R at ih' both ⊢
          cases h0 : sc w m v false x <;> cases h1 : sc w m v true x <;> cases hb : w.testBit x <;> rw [h0, h1] at hno <;> simp only [h0, h1, hb] at ih' both <;> simp [cres] at hno ih' both ⊢ <;> first | exact ih' | (rw [both]) | (cases hno)
      · rw [decide_eq_false (by omega : ¬ (x : Int) < ((2 ^ n : Nat) : Int)), cond_false, show x = 2 ^ n by omega]
  exact key N 0 (by omega) (Nat.zero_le _) rfl

theorem impl_cube_eq (N : Nat) (hN : 64 < N) (n w m v : Nat) (hn : n ≤ 5) (hw : w < 4294967296) (hm : m < 4294967296) (k : Int → Option β) :
    zj109 N (n : Int) (w : Int) (m : Int) (v : Int) k = k (cond (sc w m v false (2 ^ n)) (cond (sc w m v true (2 ^ n)) 2 0) (cond (sc w m v true (2 ^ n)) 1 0)) := by
  have hs := size_le hn
  unfold zj109 zj79
  rw [gd_true (decide_eq_true (by omega : (0 : Int) ≤ (n : Int))), shl_one n (by omega)]
  have key : ∀ (K : Bool → Bool → Option β) (F x : Nat), 2 ^ n - x < F → x ≤ 2 ^ n →
      zj108 N F (m : Int) (v : Int) ((2 ^ n : Nat) : Int) (x : Int) (n : Int) (w : Int) (sc w m v false x) (sc w m v true x) K = K (sc w m v false (2 ^ n)) (sc w m v true (2 ^ n)) := by
    intro K F
    induction F with
    | zero => intro x h; omega
    | succ F ih =>
      intro x hF hx
      simp only [zj108, zj107, zj83]
      by_cases hlt : x < 2 ^ n
      · rw [decide_eq_true (by omega : (x : Int) < ((2 ^ n : Nat) : Int)), cond_true, bAnd x m (by omega) (by omega), bit_at w x (by omega), w64_succ x (by omega), gd_true (decide_eq_true (by omega : (0 : Int) ≤ (x : Int)))]
        have e0 : (((x &&& m : Nat) : Int) == (v : Int)) = (x &&& m == v) := by
          rw [Bool.eq_iff_iff, beq_iff_eq, beq_iff_eq]
          omega
        rw [e0]
        have ih' := ih (x + 1) (by omega) (by omega)
        have s0 : ∀ b, sc w m v b (x + 1) = (sc w m v b x || (x &&& m == v && w.testBit x == b)) := fun _ => rfl
        rw [s0, s0] at ih'
        cases hv : (x &&& m == v) with
        | false =>
          rw [hv] at ih'
          simp only [Bool.false_and, Bool.or_false] at ih'
          exact ih'
        | true =>
          rw [hv] at ih'
          simp only [Bool.true_and] at ih'
          cases hb : w.testBit x with
          | false =>
            rw [hb] at ih'
            simpa [gd] using ih'
          | true =>
            rw [hb] at ih'
            simpa [gd] using ih'
      · rw [decide_eq_false (by omega : ¬ (x : Int) < ((2 ^ n : Nat) : Int)), cond_false, show x = 2 ^ n by omega]
  have := key (fun e7_0 e7_1 => cond e7_0 (cond e7_1 (k 2) (cond e7_1 (k 1) (k 0))) (cond e7_1 (k 1) (k 0))) N 0 (by omega) (Nat.zero_le _)
  simp only [sc, Int.natCast_zero] at this
  refine this.trans ?_
  cases sc w m v false (2 ^ n) <;> cases sc w m v true (2 ^ n) <;> rfl

/-- The least certificate, as far as looked. -/
def cert (w n x : Nat) : Nat → Nat
  | 0 => 2 ^ n - 1
  | m + 1 => if decide (ones m < ones (cert w n x m)) && !bothV w n m (x &&& m) then m else cert w n x m
theorem cert_lt (w n x : Nat) : ∀ m, m ≤ 2 ^ n → cert w n x m < 2 ^ n
  | 0, _ => Nat.sub_lt (Nat.two_pow_pos n) (by decide)
  | m + 1, h => by
    have := cert_lt w n x m (by omega)
    simp only [cert]
    split <;> omega
theorem spec_l9Set_eq (N : Nat) (hN : 64 < N) (n w x : Nat) (hn : n ≤ 5) (hw : w < 2 ^ 2 ^ n) (hx : x < 2 ^ n) (k : Int → Option β) : zj33 N (n : Int) (w : Int) (x : Int) k = k (cert w n x (2 ^ n) : Int) := by
  have hw' := two32 hn hw
  have hs := size_le hn
  have hpos := Nat.two_pow_pos n
  unfold zj33
  rw [gd_true (decide_eq_true (by omega : (0 : Int) ≤ (n : Int))), shl_one n (by omega), show ((2 ^ n : Nat) : Int) - 1 = ((2 ^ n - 1 : Nat) : Int) by omega, w64_nat _ (by omega)]
  have key : ∀ (F m : Nat), 2 ^ n - m < F → m ≤ 2 ^ n → zj32 N F (x : Int) (cert w n x m : Int) (m : Int) (n : Int) (w : Int) k = k (cert w n x (2 ^ n) : Int) := by
    intro F
    induction F with
    | zero => intro m h; omega
    | succ F ih =>
      intro m hF hm
      have hc := cert_lt w n x m hm
      simp only [zj32, zj31]
      rw [gd_true (decide_eq_true (by omega : (0 : Int) ≤ (n : Int))), shl_one n (by omega)]
      by_cases hlt : m < 2 ^ n
      · rw [decide_eq_true (by omega : (m : Int) < ((2 ^ n : Nat) : Int)), cond_true, spec_l2Count_eq N m hN (by omega), spec_l2Count_eq N _ hN (by omega), bAnd x m (by omega) (by omega), spec_l3Cube_eq N hN n w m _ hn hw' (by omega), w64_succ m (by omega)]
        have h1 := ih (m + 1) (by omega) (by omega)
        simp only [cert] at h1
        have e : decide (cres (sc w m (x &&& m) false (2 ^ n)) (sc w m (x &&& m) true (2 ^ n)) < 2) = !bothV w n m (x &&& m) := by
          unfold bothV
          cases sc w m (x &&& m) false (2 ^ n) <;> cases sc w m (x &&& m) true (2 ^ n) <;> rfl
        rw [e]
        by_cases ho : ones m < ones (cert w n x m)
        · rw [decide_eq_true (by omega : ((ones m : Nat) : Int) < (ones (cert w n x m) : Int)), cond_true]
          rw [decide_eq_true ho, Bool.true_and] at h1
          cases hm2 : bothV w n m (x &&& m) with
          | true => rw [hm2] at h1; exact h1
          | false => rw [hm2] at h1; exact h1
        · rw [decide_eq_false (by omega : ¬ ((ones m : Nat) : Int) < (ones (cert w n x m) : Int)), cond_false]
          rw [decide_eq_false ho, Bool.false_and] at h1
          exact h1
      · rw [decide_eq_false (by omega : ¬ (m : Int) < ((2 ^ n : Nat) : Int)), cond_false, show m = 2 ^ n by omega]
  exact key N 0 (by omega) (Nat.zero_le _)
theorem impl_certificate_eq (N : Nat) (hN : 64 < N) (n w x : Nat) (hn : n ≤ 5) (hw : w < 2 ^ 2 ^ n) (hx : x < 2 ^ n) (k : Int → Option β) : zj113 N (n : Int) (w : Int) (x : Int) k = k (cert w n x (2 ^ n) : Int) := by
  have hw' := two32 hn hw
  have hs := size_le hn
  have hpos := Nat.two_pow_pos n
  unfold zj113 zj79
  rw [gd_true (decide_eq_true (by omega : (0 : Int) ≤ (n : Int))), shl_one n (by omega)]
  show gd (decide ((0 : Int) ≤ (n : Int))) (zj112 N N (x : Int) (w64 (((2 ^ n : Nat) : Int) - 1)) ((2 ^ n : Nat) : Int) 0 (n : Int) (w : Int) k) = _
  rw [gd_true (decide_eq_true (by omega : (0 : Int) ≤ (n : Int))), show ((2 ^ n : Nat) : Int) - 1 = ((2 ^ n - 1 : Nat) : Int) by omega, w64_nat _ (by omega)]
  have key : ∀ (F m : Nat), 2 ^ n - m < F → m ≤ 2 ^ n → zj112 N F (x : Int) (cert w n x m : Int) ((2 ^ n : Nat) : Int) (m : Int) (n : Int) (w : Int) k = k (cert w n x (2 ^ n) : Int) := by
    intro F
    induction F with
    | zero => intro m h; omega
    | succ F ih =>
      intro m hF hm
      have hc := cert_lt w n x m hm
      simp only [zj112, zj111, zj110]
      by_cases hlt : m < 2 ^ n
      · rw [decide_eq_true (by omega : (m : Int) < ((2 ^ n : Nat) : Int)), cond_true, impl_ones_eq N m (by omega), impl_ones_eq N _ (by omega), bAnd x m (by omega) (by omega), impl_cube_eq N hN n w m _ hn hw' (by omega), w64_succ m (by omega)]
        have h1 := ih (m + 1) (by omega) (by omega)
        simp only [cert] at h1
        have e : ((cond (sc w m (x &&& m) false (2 ^ n)) (cond (sc w m (x &&& m) true (2 ^ n)) (2 : Int) 0) (cond (sc w m (x &&& m) true (2 ^ n)) 1 0)) != 2) = !bothV w n m (x &&& m) := by
          unfold bothV
          cases sc w m (x &&& m) false (2 ^ n) <;> cases sc w m (x &&& m) true (2 ^ n) <;> rfl
        rw [e]
        by_cases ho : ones m < ones (cert w n x m)
        · rw [decide_eq_true (by omega : ((ones m : Nat) : Int) < (ones (cert w n x m) : Int)), cond_true]
          rw [decide_eq_true ho, Bool.true_and] at h1
          cases hm2 : bothV w n m (x &&& m) with
          | true => rw [hm2] at h1; exact h1
          | false => rw [hm2] at h1; exact h1
        · rw [decide_eq_false (by omega : ¬ ((ones m : Nat) : Int) < (ones (cert w n x m) : Int)), cond_false]
          rw [decide_eq_false ho, Bool.false_and] at h1
          exact h1
      · rw [decide_eq_false (by omega : ¬ (m : Int) < ((2 ^ n : Nat) : Int)), cond_false, show m = 2 ^ n by omega]
  exact key N 0 (by omega) (Nat.zero_le _)
/-- How great the certificates of a value's inputs are. -/
def certOf (w n : Nat) (b : Bool) : Nat := mx (fun x => if w.testBit x == b then ones (cert w n x (2 ^ n)) else 0) (2 ^ n)
theorem isIn_of {n w x : Nat} (hn : n ≤ 5) (hw : w < 2 ^ 2 ^ n) (hx : x < 2 ^ n) : isIn (n : Int) (w : Int) (x : Int) = true := by
  simp only [isIn, isT_of hn hw, Bool.true_and, Bool.and_eq_true, decide_eq_true_eq, Int.toNat_natCast]
  exact ⟨by omega, by exact_mod_cast hx⟩
theorem spec_CertificateOf_eq (N : Nat) (hN : 64 < N) (n w : Nat) (hn : n ≤ 5) (hw : w < 2 ^ 2 ^ n) (b : Bool) (k : Int → Option β) : zj37 N (n : Int) (w : Int) ((if b then 1 else 0 : Nat) : Int) k = k (certOf w n b : Int) := by
  have hw' := two32 hn hw
  have hs := size_le hn
  have hbit : ((if b then 1 else 0 : Nat) : Int) = 0 ∨ ((if b then 1 else 0 : Nat) : Int) = 1 := by cases b <;> simp
  unfold zj37
  rw [spec_IsTable_eq, isT_of hn hw, spec_l1In_eq, decide_eq_true (by omega : (0 : Int) ≤ ((if b then 1 else 0 : Nat) : Int)), decide_eq_true (by omega : ((if b then 1 else 0 : Nat) : Int) ≤ 1)]
  simp only [Bool.not_true, cond_false, Bool.and_self]
  have key : ∀ (F x : Nat), 2 ^ n - x < F → x ≤ 2 ^ n → zj36 N F ((if b then 1 else 0 : Nat) : Int) (mx (fun x => if w.testBit x == b then ones (cert w n x (2 ^ n)) else 0) x : Int) (x : Int) (n : Int) (w : Int) k = k (certOf w n b : Int) := by
    intro F
    induction F with
    | zero => intro x h; omega
    | succ F ih =>
      intro x hF hx
      simp only [zj36, zj35, zj34]
      rw [gd_true (decide_eq_true (by omega : (0 : Int) ≤ (n : Int))), shl_one n (by omega)]
      by_cases hlt : x < 2 ^ n
      · have hc := cert_lt w n x (2 ^ n) (Nat.le_refl _)
        rw [decide_eq_true (by omega : (x : Int) < ((2 ^ n : Nat) : Int)), cond_true, gd_true (decide_eq_true (by omega : (0 : Int) ≤ (x : Int))), bit_at w x (by omega), bit_ne, spec_l9In_eq, isIn_of hn hw hlt, Bool.not_true, cond_false, spec_l9Set_eq N hN n w x hn hw hlt, spec_l2Count_eq N _ hN (by omega), mxI_nat, w64_succ x (by omega)]
        have h1 := ih (x + 1) (by omega) (by omega)
        simp only [mx] at h1
        cases he : w.testBit x == b with
        | true => rw [he] at h1; exact h1
        | false => rw [he] at h1; simpa using h1
      · rw [decide_eq_false (by omega : ¬ (x : Int) < ((2 ^ n : Nat) : Int)), cond_false, show x = 2 ^ n by omega]
        rfl
  exact key N 0 (by omega) (Nat.zero_le _)
theorem impl_CertificateOf_eq (N : Nat) (hN : 64 < N) (n w : Nat) (hn : n ≤ 5) (hw : w < 2 ^ 2 ^ n) (b : Bool) (k : Int → Option β) : zj116 N (n : Int) (w : Int) ((if b then 1 else 0 : Nat) : Int) k = k (certOf w n b : Int) := by
  have hw' := two32 hn hw
  have hs := size_le hn
  have hbit : ((if b then 1 else 0 : Nat) : Int) = 0 ∨ ((if b then 1 else 0 : Nat) : Int) = 1 := by cases b <;> simp
  unfold zj116 zj79
  rw [impl_IsTable_eq N _ _ (by omega), isT_of hn hw, impl_isBit_eq, decide_eq_true (by omega : (0 : Int) ≤ ((if b then 1 else 0 : Nat) : Int)), decide_eq_true (by omega : ((if b then 1 else 0 : Nat) : Int) ≤ 1)]
  simp only [Bool.not_true, cond_false, Bool.and_self]
  rw [gd_true (decide_eq_true (by omega : (0 : Int) ≤ (n : Int))), shl_one n (by omega)]
  have key : ∀ (F x : Nat), 2 ^ n - x < F → x ≤ 2 ^ n → zj115 N F ((if b then 1 else 0 : Nat) : Int) (mx (fun x => if w.testBit x == b then ones (cert w n x (2 ^ n)) else 0) x : Int) ((2 ^ n : Nat) : Int) (x : Int) (n : Int) (w : Int) k = k (certOf w n b : Int) := by
    intro F
    induction F with
    | zero => intro x h; omega
    | succ F ih =>
      intro x hF hx
      simp only [zj115, zj114, zj83]
      by_cases hlt : x < 2 ^ n
      · have hc := cert_lt w n x (2 ^ n) (Nat.le_refl _)
        rw [decide_eq_true (by omega : (x : Int) < ((2 ^ n : Nat) : Int)), cond_true, gd_true (decide_eq_true (by omega : (0 : Int) ≤ (x : Int))), bit_at w x (by omega), bit_ne, impl_certificate_eq N hN n w x hn hw hlt, impl_ones_eq N _ (by omega), mxI_nat, w64_succ x (by omega)]
        have h1 := ih (x + 1) (by omega) (by omega)
        simp only [mx] at h1
        cases he : w.testBit x == b with
        | true => rw [he] at h1; exact h1
        | false => rw [he] at h1; simpa using h1
      · rw [decide_eq_false (by omega : ¬ (x : Int) < ((2 ^ n : Nat) : Int)), cond_false, show x = 2 ^ n by omega]
        rfl
  exact key N 0 (by omega) (Nat.zero_le _)
end Go.Proofs.Ytfdggelojmofmaa
namespace Go.Proofs.Ytfdggelojmofmaa
open Go.Rv
set_option linter.unusedVariables false
variable {β : Type}
theorem spec_CountOnes_eq (N : Nat) (hN : 64 < N) (n w : Nat) (hn : n ≤ 5) (hw : w < 2 ^ 2 ^ n) (k : Int → Option β) : zj60 N (n : Int) (w : Int) k = k (ones w : Int) := by
  unfold zj60
  rw [spec_IsTable_eq, isT_of hn hw, Bool.not_true, cond_false, spec_l2Count_eq N w hN (two32 hn hw)]
theorem impl_CountOnes_eq (N : Nat) (hN : 64 < N) (n w : Nat) (hn : n ≤ 5) (hw : w < 2 ^ 2 ^ n) (k : Int → Option β) : zj146 N (n : Int) (w : Int) k = k (ones w : Int) := by
  have hw' := two32 hn hw
  unfold zj146
  rw [impl_IsTable_eq N _ _ (by omega), isT_of hn hw, Bool.not_true, cond_false, impl_ones_eq N w hw']

/-- A sum. -/
def sm (f : Nat → Nat) : Nat → Nat
  | 0 => 0
  | m + 1 => sm f m + f m
theorem sm_add (f g : Nat → Nat) : ∀ m, sm (fun x => f x + g x) m = sm f m + sm g m
  | 0 => rfl
  | m + 1 => by simp only [sm, sm_add f g m]; omega
theorem sm_cnt (g : Nat → Bool) : ∀ m, sm (fun x => if g x then 1 else 0) m = cnt g m
  | 0 => rfl
  | m + 1 => by simp only [sm, cnt, sm_cnt g m]
theorem sm_zero : ∀ m, sm (fun _ => 0) m = 0
  | 0 => rfl
  | m + 1 => by simp only [sm, sm_zero m]
theorem sm_le (f : Nat → Nat) (B : Nat) : ∀ m, (∀ x, x < m → f x ≤ B) → sm f m ≤ m * B
  | 0, _ => by simp [sm]
  | m + 1, h => by
    have h1 := sm_le f B m fun x hx => h x (by omega)
    have h2 := h m (by omega)
    simp only [sm, Nat.add_mul]
    omega
theorem sm_swap (e : Nat → Nat → Bool) (n : Nat) : ∀ M, sm (fun x => cnt (fun i => e i x) n) M = sm (fun i => cnt (e i) M) n
  | 0 => by simp only [sm, cnt]; exact (sm_zero n).symm
  | M + 1 => by
    simp only [sm, cnt]
    rw [sm_swap e n M, sm_add, sm_cnt]

/-- The sum of all influences. -/
def total (w n : Nat) : Nat := sm (fun i => infl w i (2 ^ n)) n
theorem infl_le (w i m : Nat) : infl w i m ≤ m := cnt_le _ m
theorem total_le (w n : Nat) (hn : n ≤ 5) : total w n ≤ 160 := by
  have hs := size_le hn
  have := sm_le (fun i => infl w i (2 ^ n)) 32 n fun i _ => Nat.le_trans (infl_le w i _) hs
  unfold total
  omega
theorem sm_even (f : Nat → Nat) : ∀ m, (∀ x, x < m → f x % 2 = 0) → sm f m % 2 = 0
  | 0, _ => rfl
  | m + 1, h => by
    have h1 := sm_even f m fun x hx => h x (by omega)
    have h2 := h m (by omega)
    simp only [sm]
    omega
theorem total_even (w n : Nat) (hn : n ≤ 5) (hw : w < 2 ^ 2 ^ n) : total w n % 2 = 0 := sm_even _ n fun i hi => by
  show infl w i (2 ^ n) % 2 = 0
  rw [infl_half w n i 0 hn hi (by decide) hw]
  omega
theorem spec_TotalInfluence_eq (N : Nat) (hN : 64 < N) (n w : Nat) (hn : n ≤ 5) (hw : w < 2 ^ 2 ^ n) (k : Int → Option β) : zj64 N (n : Int) (w : Int) k = k (total w n : Int) := by
  have hs := size_le hn
  unfold zj64 zj63
  simp only [spec_IsTable_eq, isT_of hn hw, Bool.not_true, cond_false]
  have key : ∀ (K : Int → Option β) (F x : Nat), 2 ^ n - x < F → x ≤ 2 ^ n → zj62 N F (sm (sens w n) x : Int) (x : Int) (n : Int) (w : Int) K = K (sm (sens w n) (2 ^ n) : Int) := by
    intro K F
    induction F with
    | zero => intro x h; omega
    | succ F ih =>
      intro x hF hx
      simp only [zj62, zj61]
      rw [gd_true (decide_eq_true (by omega : (0 : Int) ≤ (n : Int))), shl_one n (by omega)]
      by_cases hlt : x < 2 ^ n
      · have hsm := sm_le (sens w n) 5 (x + 1) fun x _ => Nat.le_trans (sens_le w n x) hn
        rw [decide_eq_true (by omega : (x : Int) < ((2 ^ n : Nat) : Int)), cond_true, spec_l10At_eq N hN n w x hn hw hlt, ← Int.natCast_add, show sm (sens w n) x + sens w n x = sm (sens w n) (x + 1) from rfl, w64_nat _ (by omega), w64_succ x (by omega)]
        exact ih (x + 1) (by omega) (by omega)
      · rw [decide_eq_false (by omega : ¬ (x : Int) < ((2 ^ n : Nat) : Int)), cond_false, show x = 2 ^ n by omega]
  have e := key (fun e5_0 => k (w64 (2 * quoI .i64 e5_0 2))) N 0 (by omega) (Nat.zero_le _)
  simp only [sm, Int.natCast_zero] at e
  refine e.trans ?_
  have e2 : sm (sens w n) (2 ^ n) = total w n := sm_swap (edge w) n (2 ^ n)
  rw [e2]
  have hev := total_even w n hn hw
  have hle := total_le w n hn
  congr 1
  unfold quoI
  rw [show ((total w n : Nat) : Int).tdiv 2 = ((total w n / 2 : Nat) : Int) from (Int.ofNat_tdiv (total w n) 2).symm]
  show w64 (2 * w64 ((total w n / 2 : Nat) : Int)) = _
  rw [w64_nat _ (by omega), w64_id (by omega) (by omega)]
  omega
theorem impl_TotalInfluence_eq (N : Nat) (hN : 64 < N) (n w : Nat) (hn : n ≤ 5) (hw : w < 2 ^ 2 ^ n) (k : Int → Option β) : zj155 N (n : Int) (w : Int) k = k (total w n : Int) := by
  have hw' := two32 hn hw
  have hs := size_le hn
  unfold zj155
  rw [impl_IsTable_eq N _ _ (by omega), isT_of hn hw, Bool.not_true, cond_false, impl_influences_eq N hN n w hn hw]
  simp only [infls_len]
  have key : ∀ (F i : Nat), n - i < F → i ≤ n → zj154 N F (sm (fun i => infl w i (2 ^ n)) i : Int) (n : Int) (i : Int) (infls w n n) k = k (total w n : Int) := by
    intro F
    induction F with
    | zero => intro i h; omega
    | succ F ih =>
      intro i hF hi
      simp only [zj154, zj153, infls_len]
      by_cases hlt : i < n
      · have hsm := sm_le (fun i => infl w i (2 ^ n)) 32 (i + 1) fun i _ => Nat.le_trans (infl_le w i _) hs
        have hr : rd 0 (infls w n n) (i : Int) = ((infl w i (2 ^ n) : Nat) : Int) := by
          rw [rd_nat 0 _ i (by rw [infls_len]; exact hlt)]
          have := infls_get w n n i hlt
          rw [List.getElem?_eq_getElem (by rw [infls_len]; exact hlt)] at this
          exact Option.some.inj this
        rw [decide_eq_true (by omega : (i : Int) < (n : Int)), cond_true, gd_true (decide_eq_true (by omega : (0 : Int) ≤ (i : Int))), gd_true rfl, hr, ← Int.natCast_add, show sm (fun i => infl w i (2 ^ n)) i + infl w i (2 ^ n) = sm (fun i => infl w i (2 ^ n)) (i + 1) from rfl, w64_nat _ (by omega), w64_succ i (by omega)]
        exact ih (i + 1) (by omega) (by omega)
      · rw [decide_eq_false (by omega : ¬ (i : Int) < (n : Int)), cond_false, show i = n by omega]
        rfl
  exact key N 0 (by omega) (Nat.zero_le _)

/-! ### Degrees -/

/-- The greatest number of ones of a number that is such; -1, if none is. -/
def dg (p : Nat → Bool) : Nat → Int
  | 0 => -1
  | m + 1 => if p m then mxI (dg p m) (ones m : Int) else dg p m
theorem impl_degree_eq (N : Nat) (hN : 64 < N) (n : Nat) (hn : n ≤ 5) (h : Int → (Bool → Option β) → Option β) (p : Nat → Bool) (hh : ∀ (x : Nat) k, x < 2 ^ n → h (x : Int) k = k (p x)) (k : Int → Option β) :
    zj134 N (n : Int) h k = k (dg p (2 ^ n)) := by
  have hs := size_le hn
  unfold zj134
  rw [gd_true (decide_eq_true (by omega : (0 : Int) ≤ (n : Int))), shl_one n (by omega)]
  have key : ∀ (F m : Nat), 2 ^ n - m < F → m ≤ 2 ^ n → zj133 N h F (dg p m) ((2 ^ n : Nat) : Int) (m : Int) k = k (dg p (2 ^ n)) := by
    intro F
    induction F with
    | zero => intro x h; omega
    | succ F ih =>
      intro m hF hm
      simp only [zj133, zj132]
      by_cases hlt : m < 2 ^ n
      · rw [decide_eq_true (by omega : (m : Int) < ((2 ^ n : Nat) : Int)), cond_true, hh m _ hlt, impl_ones_eq N m (by omega), w64_succ m (by omega)]
        have h1 := ih (m + 1) (by omega) (by omega)
        simp only [dg] at h1
        cases hp : p m with
        | true => rw [hp] at h1; exact h1
        | false => rw [hp] at h1; exact h1
      · rw [decide_eq_false (by omega : ¬ (m : Int) < ((2 ^ n : Nat) : Int)), cond_false, show m = 2 ^ n by omega]
  exact key N 0 (by omega) (Nat.zero_le _)

/-- Whether a value is summed for a set: parts of it with value 1. -/
def part (w m x : Nat) : Bool := x &&& m == x && w.testBit x
theorem part_gt (w m x : Nat) (h : m < x) : (x &&& m == x) = false := by
  have : x &&& m ≤ m := Nat.and_le_right
  exact beq_false_of_ne (by omega)
theorem cnt_part (w m : Nat) : ∀ d, cnt (part w m) (m + 1 + d) = cnt (part w m) (m + 1)
  | 0 => rfl
  | d + 1 => by
    rw [← Nat.add_assoc, cnt, cnt_part w m d]
    unfold part
    rw [part_gt w m (m + 1 + d) (by omega)]
    rfl
/-- The coefficients modulo 2. -/
def anf (w n : Nat) : Nat := tabw (fun m => cnt (part w m) (2 ^ n) % 2 == 1) (2 ^ n)
theorem anf_lt (w n : Nat) : anf w n < 2 ^ 2 ^ n := tabw_lt _ _
theorem and_eq (x m : Nat) : (((x &&& m : Nat) : Int) == (x : Int)) = (x &&& m == x) := by
  rw [Bool.eq_iff_iff, beq_iff_eq, beq_iff_eq]
  omega
theorem andnot_eq (x m : Nat) : (((x ^^^ (x &&& m) : Nat) : Int) == 0) = (x &&& m == x) := by
  rw [Bool.eq_iff_iff, beq_iff_eq, beq_iff_eq]
  constructor
  · intro h
    have h : x ^^^ (x &&& m) = 0 := by omega
    have h2 := xor_self_cancel x (x &&& m)
    rw [h, Nat.zero_xor] at h2
    exact h2
  · intro h
    rw [h, Nat.xor_self]
    rfl
theorem spec_anf_inner (N : Nat) (n w m : Nat) (hw : w < 4294967296) (hm : m < 32) (v0 : Int) (K : Int → Int → Int → Int → Int → Option β) :
    ∀ (F x : Nat), m + 1 - x < F → x ≤ m + 1 → zj53 N F v0 (m : Int) (cnt (part w m) x : Int) (x : Int) (n : Int) (w : Int) K = K v0 m (cnt (part w m) (m + 1) : Int) n w := by
  intro F
  induction F with
  | zero => intro x h; omega
  | succ F ih =>
    intro x hF hx
    simp only [zj53, zj52]
    by_cases hlt : x ≤ m
    · have hc := cnt_le (part w m) x
      rw [decide_eq_true (by omega : (x : Int) ≤ (m : Int)), cond_true, bAnd x m (by omega) (by omega), and_eq, gd_true (decide_eq_true (by omega : (0 : Int) ≤ (x : Int))), bit_at w x (by omega), w64_succ x (by omega), ← Int.natCast_add, w64_nat _ (by split <;> omega)]
      have h1 := ih (x + 1) (by omega) (by omega)
      have h2 : cnt (part w m) (x + 1) = cnt (part w m) x + (if part w m x then 1 else 0) := rfl
      rw [h2] at h1
      unfold part at h1 ⊢
      cases he : x &&& m == x with
      | true => rw [he] at h1; simpa using h1
      | false => rw [he] at h1; simpa using h1
    · rw [decide_eq_false (by omega : ¬ (x : Int) ≤ (m : Int)), cond_false, show x = m + 1 by omega]
theorem spec_l11Anf_eq (N : Nat) (hN : 64 < N) (n w : Nat) (hn : n ≤ 5) (hw : w < 2 ^ 2 ^ n) (k : Int → Option β) : zj56 N (n : Int) (w : Int) k = k (anf w n : Int) := by
  have hw' := two32 hn hw
  have hs := size_le hn
  unfold zj56
  have key : ∀ (F m : Nat), 2 ^ n - m < F → m ≤ 2 ^ n → zj55 N F (tabw (fun m => cnt (part w m) (2 ^ n) % 2 == 1) m : Int) (m : Int) (n : Int) (w : Int) k = k (anf w n : Int) := by
    intro F
    induction F with
    | zero => intro x h; omega
    | succ F ih =>
      intro m hF hm
      simp only [zj55, zj54]
      rw [gd_true (decide_eq_true (by omega : (0 : Int) ≤ (n : Int))), shl_one n (by omega)]
      by_cases hlt : m < 2 ^ n
      · have e := fun K => spec_anf_inner (β := β) N n w m hw' (by omega) (tabw (fun m => cnt (part w m) (2 ^ n) % 2 == 1) m : Int) K N 0 (by omega) (by omega)
        simp only [cnt, Int.natCast_zero] at e
        have e2 := cnt_part w m (2 ^ n - (m + 1))
        rw [show m + 1 + (2 ^ n - (m + 1)) = 2 ^ n by omega] at e2
        have e3 : cnt (part w m) m + (if part w m m then 1 else 0) = cnt (part w m) (2 ^ n) := e2.symm
        rw [decide_eq_true (by omega : (m : Int) < ((2 ^ n : Nat) : Int)), cond_true, e, e3]
        have hlt2 := tabw_lt (fun m => cnt (part w m) (2 ^ n) % 2 == 1) m
        have hp : 2 ^ m ≤ 2 ^ 31 := Nat.pow_le_pow_right (by decide) (by omega)
        have e4 : remI ((cnt (part w m) (2 ^ n) : Nat) : Int) 2 = ((cnt (part w m) (2 ^ n) % 2 : Nat) : Int) := remI_len _ 2 (by decide)
        have hmod := Nat.mod_lt (cnt (part w m) (2 ^ n)) (by decide : 0 < 2)
        rw [gd_true (decide_eq_true (by omega : (0 : Int) ≤ (m : Int))), e4, shl_nat _ m (by omega) (by have := Nat.mul_le_mul (Nat.le_of_lt_succ hmod) hp; omega), bOr _ _ (by omega) (by have := Nat.mul_le_mul (Nat.le_of_lt_succ hmod) hp; omega), w64_succ m (by omega)]
        have e5 : tabw (fun m => cnt (part w m) (2 ^ n) % 2 == 1) (m + 1) = (tabw (fun m => cnt (part w m) (2 ^ n) % 2 == 1) m ||| cnt (part w m) (2 ^ n) % 2 * 2 ^ m) := by
          rw [tabw]
          congr 1
          rcases Nat.mod_two_eq_zero_or_one (cnt (part w m) (2 ^ n)) with h | h <;> simp [h]
        have h1 := ih (m + 1) (by omega) (by omega)
        rw [e5] at h1
        exact h1
      · rw [decide_eq_false (by omega : ¬ (m : Int) < ((2 ^ n : Nat) : Int)), cond_false, show m = 2 ^ n by omega]
        rfl
  exact key N 0 (by omega) (Nat.zero_le _)
theorem xor_bit (c : Nat) (b : Bool) : bits .xor .i64 ((c % 2 : Nat) : Int) ((if b then 1 else 0 : Nat) : Int) = (((c + (if b then 1 else 0)) % 2 : Nat) : Int) := by
  have hmod := Nat.mod_lt c (by decide : 0 < 2)
  rw [bXor _ _ (by omega) (by split <;> omega)]
  rcases Nat.mod_two_eq_zero_or_one c with h | h <;> cases b <;> simp [h] <;> omega
theorem impl_anf_bit (N : Nat) (hN : 64 < N) (n w m : Nat) (hn : n ≤ 5) (hw : w < 4294967296) (hm : m < 2 ^ n) (k : Bool → Option β) :
    zj138 N (m : Int) (n : Int) (w : Int) k = k (cnt (part w m) (2 ^ n) % 2 == 1) := by
  have hs := size_le hn
  unfold zj138 zj79
  rw [gd_true (decide_eq_true (by omega : (0 : Int) ≤ (n : Int))), shl_one n (by omega)]
  have key : ∀ (K : Int → Option β) (F x : Nat), 2 ^ n - x < F → x ≤ 2 ^ n → zj137 N F (m : Int) (n : Int) (w : Int) ((cnt (part w m) x % 2 : Nat) : Int) ((2 ^ n : Nat) : Int) (x : Int) K = K ((cnt (part w m) (2 ^ n) % 2 : Nat) : Int) := by
    intro K F
    induction F with
    | zero => intro x h; omega
    | succ F ih =>
      intro x hF hx
      simp only [zj137, zj136, zj83]
      by_cases hlt : x < 2 ^ n
      · rw [decide_eq_true (by omega : (x : Int) < ((2 ^ n : Nat) : Int)), cond_true, bAndNot x m (by omega) (by omega), andnot_eq, gd_true (decide_eq_true (by omega : (0 : Int) ≤ (x : Int))), bit_at w x (by omega), xor_bit, w64_succ x (by omega)]
        have h1 := ih (x + 1) (by omega) (by omega)
        have h2 : cnt (part w m) (x + 1) = cnt (part w m) x + (if part w m x then 1 else 0) := rfl
        rw [h2] at h1
        have h3 : part w m x = (x &&& m == x && w.testBit x) := rfl
        rw [h3] at h1
        cases he : x &&& m == x with
        | true => rw [he, Bool.true_and] at h1; exact h1
        | false => rw [he] at h1; simpa using h1
      · rw [decide_eq_false (by omega : ¬ (x : Int) < ((2 ^ n : Nat) : Int)), cond_false, show x = 2 ^ n by omega]
  have e := key (fun e4_0 => k (e4_0 == 1)) N 0 (by omega) (Nat.zero_le _)
  simp only [cnt, Int.natCast_zero, Nat.zero_mod] at e
  refine e.trans ?_
  congr 1
  rw [Bool.eq_iff_iff, beq_iff_eq, beq_iff_eq]
  omega
theorem impl_Table_anf_eq (N : Nat) (hN : 64 < N) (n w : Nat) (hn : n ≤ 5) (hw : w < 2 ^ 2 ^ n) (k : Int → Int → Option β) : zj144 N (n : Int) (w : Int) k = k n (anf w n : Int) := by
  unfold zj144
  rw [makeTable_eq N hN n hn _ (fun m => cnt (part w m) (2 ^ n) % 2 == 1) fun x k hx => impl_anf_bit N hN n w x hn (two32 hn hw) hx k]
  rfl
theorem bit_eq_one (c : Bool) : (((if c then 1 else 0 : Nat) : Int) == 1) = c := by cases c <;> rfl
theorem spec_DegreeMod2_eq (N : Nat) (hN : 64 < N) (n w : Nat) (hn : n ≤ 5) (hw : w < 2 ^ 2 ^ n) (k : Int → Option β) : zj59 N (n : Int) (w : Int) k = k (dg (anf w n).testBit (2 ^ n)) := by
  have hs := size_le hn
  have ha := two32 hn (anf_lt w n)
  unfold zj59
  rw [spec_IsTable_eq, isT_of hn hw, Bool.not_true, cond_false, spec_l11Anf_eq N hN n w hn hw]
  have key : ∀ (F m : Nat), 2 ^ n - m < F → m ≤ 2 ^ n → zj58 N F (anf w n : Int) (dg (anf w n).testBit m) (m : Int) (n : Int) (w : Int) k = k (dg (anf w n).testBit (2 ^ n)) := by
    intro F
    induction F with
    | zero => intro x h; omega
    | succ F ih =>
      intro m hF hm
      simp only [zj58, zj57]
      rw [gd_true (decide_eq_true (by omega : (0 : Int) ≤ (n : Int))), shl_one n (by omega)]
      by_cases hlt : m < 2 ^ n
      · rw [decide_eq_true (by omega : (m : Int) < ((2 ^ n : Nat) : Int)), cond_true, gd_true (decide_eq_true (by omega : (0 : Int) ≤ (m : Int))), bit_at _ m (by omega), bit_eq_one, spec_l2Count_eq N m hN (by omega), w64_succ m (by omega)]
        have h1 := ih (m + 1) (by omega) (by omega)
        simp only [dg] at h1
        cases hp : (anf w n).testBit m with
        | true => rw [hp] at h1; exact h1
        | false => rw [hp] at h1; exact h1
      · rw [decide_eq_false (by omega : ¬ (m : Int) < ((2 ^ n : Nat) : Int)), cond_false, show m = 2 ^ n by omega]
  exact key N 0 (by omega) (Nat.zero_le _)
theorem impl_DegreeMod2_eq (N : Nat) (hN : 64 < N) (n w : Nat) (hn : n ≤ 5) (hw : w < 2 ^ 2 ^ n) (k : Int → Option β) : zj145 N (n : Int) (w : Int) k = k (dg (anf w n).testBit (2 ^ n)) := by
  have hs := size_le hn
  have hw' := two32 hn hw
  have ha := two32 hn (anf_lt w n)
  unfold zj145
  rw [impl_IsTable_eq N _ _ (by omega), isT_of hn hw, Bool.not_true, cond_false, impl_Table_anf_eq N hN n w hn hw]
  refine impl_degree_eq N hN n hn _ (anf w n).testBit (fun x k hx => ?_) k
  unfold zj131 zj83
  rw [gd_true (decide_eq_true (by omega : (0 : Int) ≤ (x : Int))), bit_at _ x (by omega)]
  show k (((if (anf w n).testBit x then 1 else 0 : Nat) : Int) == 1) = _
  rw [bit_eq_one]

/-- A coefficient of the polynomial with integers. -/
def cf (w m : Nat) : Nat → Int
  | 0 => 0
  | x + 1 => if x &&& m == x then (if ones (m ^^^ x) % 2 == 1 then cf w m x - ((if w.testBit x then 1 else 0 : Nat) : Int) else cf w m x + ((if w.testBit x then 1 else 0 : Nat) : Int)) else cf w m x
theorem cf_bound (w m : Nat) : ∀ x : Nat, -(x : Int) ≤ cf w m x ∧ cf w m x ≤ (x : Int)
  | 0 => by simp [cf]
  | x + 1 => by
    have h := cf_bound w m x
    have hb : ((if w.testBit x then 1 else 0 : Nat) : Int) = 0 ∨ ((if w.testBit x then 1 else 0 : Nat) : Int) = 1 := by cases w.testBit x <;> simp
    simp only [cf]
    split
    · split <;> omega
    · omega
theorem cf_more (w m : Nat) : ∀ d, cf w m (m + 1 + d) = cf w m (m + 1)
  | 0 => rfl
  | d + 1 => by
    rw [← Nat.add_assoc, cf, cf_more w m d, part_gt w m (m + 1 + d) (by omega)]
    rfl
def cfs (w n m : Nat) : List Int := (List.range m).map fun m => cf w m (2 ^ n)
theorem cfs_len (w n m : Nat) : (cfs w n m).length = m := by simp [cfs]
theorem cfs_get (w n m i : Nat) (h : i < m) : (cfs w n m)[i]? = some (cf w i (2 ^ n)) := by simp [cfs, h]
theorem cfs_succ (w n m : Nat) : cfs w n (m + 1) = cfs w n m ++ [cf w m (2 ^ n)] := by simp [cfs, List.range_succ]
theorem xor_small : ∀ m, m < 32 → ∀ x, x < 32 → m ^^^ x < 32 := by decide +kernel
theorem spec_coef_inner (N : Nat) (hN : 64 < N) (n w m : Nat) (hw : w < 4294967296) (hm : m < 32) (l : List Int) (K : Int → Int → Int → Int → List Int → Option β) :
    ∀ (F x : Nat), m + 1 - x < F → x ≤ m + 1 → zj45 N F (m : Int) (cf w m x) (x : Int) (n : Int) (w : Int) l K = K m (cf w m (m + 1)) n w l := by
  intro F
  induction F with
  | zero => intro x h; omega
  | succ F ih =>
    intro x hF hx
    simp only [zj45, zj44]
    by_cases hlt : x ≤ m
    · have hb := cf_bound w m x
      have hxm := xor_small m hm x (by omega)
      have hbit : ((if w.testBit x then 1 else 0 : Nat) : Int) = 0 ∨ ((if w.testBit x then 1 else 0 : Nat) : Int) = 1 := by cases w.testBit x <;> simp
      have hon := ones_le (m ^^^ x)
      rw [decide_eq_true (by omega : (x : Int) ≤ (m : Int)), cond_true, bAnd x m (by omega) (by omega), bXor m x (by omega) (by omega), spec_l2Count_eq N _ hN (by omega), gd_true (decide_eq_true (by omega : (0 : Int) ≤ (x : Int))), bit_at w x (by omega), w64_succ x (by omega), w64_id (by omega) (by omega), gd_true (decide_eq_true (by omega : (0 : Int) ≤ (x : Int))), w64_id (by omega) (by omega)]
      have e0 : (((x &&& m : Nat) : Int) != (x : Int)) = !(x &&& m == x) := by rw [bne, and_eq]
      have e4 : remI ((ones (m ^^^ x) : Nat) : Int) 2 = ((ones (m ^^^ x) % 2 : Nat) : Int) := remI_len _ 2 (by decide)
      have e5 : (((ones (m ^^^ x) % 2 : Nat) : Int) == 1) = (ones (m ^^^ x) % 2 == 1) := by
        rw [Bool.eq_iff_iff, beq_iff_eq, beq_iff_eq]; omega
      rw [e0, e4, e5]
      have h1 := ih (x + 1) (by omega) (by omega)
      simp only [cf] at h1
      cases he : x &&& m == x with
      | false => rw [he] at h1; exact h1
      | true =>
        rw [he] at h1
        cases ho : ones (m ^^^ x) % 2 == 1 with
        | true => rw [ho] at h1; exact h1
        | false => rw [ho] at h1; exact h1
    · rw [decide_eq_false (by omega : ¬ (x : Int) ≤ (m : Int)), cond_false, show x = m + 1 by omega]
theorem spec_RealCoefficients_eq (N : Nat) (hN : 64 < N) (n w : Nat) (hn : n ≤ 5) (hw : w < 2 ^ 2 ^ n) (k : List Int → Option β) : zj48 N (n : Int) (w : Int) k = k (cfs w n (2 ^ n)) := by
  have hw' := two32 hn hw
  have hs := size_le hn
  unfold zj48
  have key : ∀ (F m : Nat), 2 ^ n - m < F → m ≤ 2 ^ n → zj47 N F (m : Int) (n : Int) (w : Int) (cfs w n m) k = k (cfs w n (2 ^ n)) := by
    intro F
    induction F with
    | zero => intro x h; omega
    | succ F ih =>
      intro m hF hm
      simp only [zj47, zj46]
      rw [spec_IsTable_eq, isT_of hn hw, cond_true, gd_true (decide_eq_true (by omega : (0 : Int) ≤ (n : Int))), shl_one n (by omega)]
      by_cases hlt : m < 2 ^ n
      · have e := fun K => spec_coef_inner (β := β) N hN n w m hw' (by omega) (cfs w n m) K N 0 (by omega) (by omega)
        simp only [cf, Int.natCast_zero] at e
        have e2 := cf_more w m (2 ^ n - (m + 1))
        rw [show m + 1 + (2 ^ n - (m + 1)) = 2 ^ n by omega] at e2
        simp only [cf] at e2
        rw [decide_eq_true (by omega : (m : Int) < ((2 ^ n : Nat) : Int)), cond_true, e, ← e2, cfs_len, gd_true (decide_eq_true (by simp; omega)), w64_succ m (by omega)]
        have h1 := ih (m + 1) (by omega) (by omega)
        rw [cfs_succ] at h1
        exact h1
      · rw [decide_eq_false (by omega : ¬ (m : Int) < ((2 ^ n : Nat) : Int)), cond_false, show m = 2 ^ n by omega]
  exact key N 0 (by omega) (Nat.zero_le _)
theorem impl_coef_inner (N : Nat) (hN : 64 < N) (n w m : Nat) (hn : n ≤ 5) (hw : w < 4294967296) (hm : m < 2 ^ n) (v1 v2 : Int) (l0 : List Int) (hl0 : l0.length = 2 ^ n) (K : Int → Int → Int → Int → List Int → Option β) :
    ∀ (F x : Nat), 2 ^ n - x < F → x ≤ 2 ^ n → zj126 N F (m : Int) v1 v2 ((2 ^ n : Nat) : Int) (x : Int) (n : Int) (w : Int) (l0.set m (cf w m x)) K = K v1 v2 n w (l0.set m (cf w m (2 ^ n))) := by
  have hs := size_le hn
  intro F
  induction F with
  | zero => intro x h; omega
  | succ F ih =>
    intro x hF hx
    simp only [zj126, zj125, zj83]
    by_cases hlt : x < 2 ^ n
    · have hb := cf_bound w m x
      have hxm := xor_small m (by omega) x (by omega)
      have hbit : ((if w.testBit x then 1 else 0 : Nat) : Int) = 0 ∨ ((if w.testBit x then 1 else 0 : Nat) : Int) = 1 := by cases w.testBit x <;> simp
      have hlen : (l0.set m (cf w m x)).length = 2 ^ n := by rw [List.length_set, hl0]
      have hrd : rd 0 (l0.set m (cf w m x)) (m : Int) = cf w m x := by
        rw [rd_nat 0 _ m (by omega), List.getElem_set_self]
      have hwr : ∀ v : Int, wr (l0.set m (cf w m x)) (m : Int) v = l0.set m v := fun v => by
        unfold wr
        rw [Int.toNat_natCast, List.set_set]
      have hon := ones_le (m ^^^ x)
      have g0 : decide ((0 : Int) ≤ (m : Int)) = true := decide_eq_true (by omega)
      have g1 : decide ((m : Int) < ((l0.set m (cf w m x)).length : Int)) = true := by rw [hlen]; exact decide_eq_true (by omega)
      rw [decide_eq_true (by omega : (x : Int) < ((2 ^ n : Nat) : Int)), cond_true, bAndNot x m (by omega) (by omega), bXor m x (by omega) (by omega), impl_ones_eq N _ (by omega)]
      simp only [gd_true g0, gd_true g1, gd_true (decide_eq_true (by omega : (0 : Int) ≤ (x : Int)))]
      rw [bit_at w x (by omega), hrd, hwr, hwr, w64_succ x (by omega), w64_id (by omega) (by omega), w64_id (by omega) (by omega)]
      have e0 : (((x ^^^ (x &&& m) : Nat) : Int) != 0) = !(x &&& m == x) := by rw [bne, andnot_eq]
      have e4 : remI ((ones (m ^^^ x) : Nat) : Int) 2 = ((ones (m ^^^ x) % 2 : Nat) : Int) := remI_len _ 2 (by decide)
      have e5 : (((ones (m ^^^ x) % 2 : Nat) : Int) == 0) = !(ones (m ^^^ x) % 2 == 1) := by
        rcases Nat.mod_two_eq_zero_or_one (ones (m ^^^ x)) with h | h <;> rw [h] <;> rfl
      rw [e0, e4, e5]
      have h1 := ih (x + 1) (by omega) (by omega)
      simp only [cf] at h1
      cases he : x &&& m == x with
      | false => rw [he] at h1; exact h1
      | true =>
        rw [he] at h1
        cases ho : ones (m ^^^ x) % 2 == 1 with
        | true => rw [ho] at h1; exact h1
        | false => rw [ho] at h1; exact h1
    · rw [decide_eq_false (by omega : ¬ (x : Int) < ((2 ^ n : Nat) : Int)), cond_false, show x = 2 ^ n by omega]
theorem impl_coefficients_eq (N : Nat) (hN : 64 < N) (n w : Nat) (hn : n ≤ 5) (hw : w < 2 ^ 2 ^ n) (k : List Int → Option β) : zj129 N (n : Int) (w : Int) k = k (cfs w n (2 ^ n)) := by
  have hw' := two32 hn hw
  have hs := size_le hn
  unfold zj129 zj79
  rw [gd_true (decide_eq_true (by omega : (0 : Int) ≤ (n : Int))), shl_one n (by omega)]
  show gd (decide ((0 : Int) ≤ ((2 ^ n : Nat) : Int))) (gd (decide (((2 ^ n : Nat) : Int) ≤ ((2 ^ n : Nat) : Int))) (gd (decide (8 * ((2 ^ n : Nat) : Int) ≤ 281474976710656)) (zj128 N N ((List.replicate (Int.toNat ((2 ^ n : Nat) : Int)) (0 : Int)).length : Int) 0 (n : Int) (w : Int) (List.replicate (Int.toNat ((2 ^ n : Nat) : Int)) (0 : Int)) k))) = _
  rw [gd_true (decide_eq_true (Int.natCast_nonneg _)), gd_true (decide_eq_true (Int.le_refl _)), gd_true (decide_eq_true (by omega)), List.length_replicate, Int.toNat_natCast]
  have key : ∀ (F m : Nat) (l : List Int), 2 ^ n - m < F → m ≤ 2 ^ n → l.length = 2 ^ n → (∀ j, j < m → l[j]? = some (cf w j (2 ^ n))) → (∀ j, m ≤ j → j < 2 ^ n → l[j]? = some 0) →
      zj128 N F ((2 ^ n : Nat) : Int) (m : Int) (n : Int) (w : Int) l k = k (cfs w n (2 ^ n)) := by
    intro F
    induction F with
    | zero => intro x l h; omega
    | succ F ih =>
      intro m l hF hm hl h1 h2
      simp only [zj128, zj127, zj79]
      by_cases hlt : m < 2 ^ n
      · have e := fun K => impl_coef_inner (β := β) N hN n w m hn hw' hlt ((2 ^ n : Nat) : Int) (m : Int) l hl K N 0 (by omega) (Nat.zero_le _)
        have e1 : l.set m (cf w m 0) = l := by
          apply List.ext_getElem?
          intro j
          rw [List.getElem?_set]
          split
          · rename_i hj
            subst hj
            rw [if_pos (by omega), h2 m (Nat.le_refl _) hlt]
            rfl
          · rfl
        simp only [e1, Int.natCast_zero] at e
        rw [decide_eq_true (by omega : (m : Int) < ((2 ^ n : Nat) : Int)), cond_true, gd_true (decide_eq_true (by omega : (0 : Int) ≤ (n : Int))), shl_one n (by omega), e, w64_succ m (by omega)]
        refine ih (m + 1) _ (by omega) (by omega) (by rw [List.length_set, hl]) (fun j hj => ?_) (fun j hj hj2 => ?_)
        · rw [List.getElem?_set]
          split
          · rename_i hmj
            subst hmj
            rw [if_pos (by omega)]
          · exact h1 j (by omega)
        · rw [List.getElem?_set, if_neg (by omega)]
          exact h2 j (by omega) hj2
      · rw [decide_eq_false (by omega : ¬ (m : Int) < ((2 ^ n : Nat) : Int)), cond_false]
        congr 1
        apply List.ext_getElem?
        intro j
        rcases Nat.lt_or_ge j (2 ^ n) with h | h
        · rw [h1 j (by omega), cfs_get w n _ j h]
        · rw [List.getElem?_eq_none (by omega), List.getElem?_eq_none (by rw [cfs_len]; exact h)]
  exact key N 0 _ (by omega) (Nat.zero_le _) (by simp) (fun j hj => by omega) (fun j _ hj => by simp [hj])
/-- The degree of a table. -/
def deg (w n : Nat) : Int := dg (fun m => cf w m (2 ^ n) != 0) (2 ^ n)
theorem cfs_rd (w n m : Nat) (h : m < 2 ^ n) : rd 0 (cfs w n (2 ^ n)) (m : Int) = cf w m (2 ^ n) := by
  rw [rd_nat 0 _ m (by rw [cfs_len]; exact h)]
  have := cfs_get w n (2 ^ n) m h
  rw [List.getElem?_eq_getElem (by rw [cfs_len]; exact h)] at this
  exact Option.some.inj this
theorem spec_RealDegree_eq (N : Nat) (hN : 64 < N) (n w : Nat) (hn : n ≤ 5) (hw : w < 2 ^ 2 ^ n) (k : Int → Option β) : zj51 N (n : Int) (w : Int) k = k (deg w n) := by
  have hs := size_le hn
  unfold zj51
  rw [spec_IsTable_eq, isT_of hn hw, Bool.not_true, cond_false, spec_RealCoefficients_eq N hN n w hn hw]
  unfold deg
  generalize hpd : (fun m => cf w m (2 ^ n) != 0) = p
  have hpm : ∀ m, (cf w m (2 ^ n) != 0) = p m := fun m => by rw [← hpd]
  have key : ∀ (F m : Nat), 2 ^ n - m < F → m ≤ 2 ^ n → zj50 N F (dg p m) (m : Int) (cfs w n (2 ^ n)) k = k (dg p (2 ^ n)) := by
    intro F
    induction F with
    | zero => intro x h; omega
    | succ F ih =>
      intro m hF hm
      simp only [zj50, zj49, cfs_len]
      by_cases hlt : m < 2 ^ n
      · rw [decide_eq_true (by omega : (m : Int) < ((2 ^ n : Nat) : Int)), cond_true, gd_true (decide_eq_true (by omega : (0 : Int) ≤ (m : Int))), gd_true rfl, cfs_rd w n m hlt, spec_l2Count_eq N m hN (by omega), w64_succ m (by omega), hpm]
        have h1 := ih (m + 1) (by omega) (by omega)
        simp only [dg] at h1
        cases hp : p m with
        | true => rw [hp] at h1; exact h1
        | false => rw [hp] at h1; exact h1
      · rw [decide_eq_false (by omega : ¬ (m : Int) < ((2 ^ n : Nat) : Int)), cond_false, show m = 2 ^ n by omega]
  exact key N 0 (by omega) (Nat.zero_le _)
theorem impl_RealDegree_eq (N : Nat) (hN : 64 < N) (n w : Nat) (hn : n ≤ 5) (hw : w < 2 ^ 2 ^ n) (k : Int → Option β) : zj135 N (n : Int) (w : Int) k = k (deg w n) := by
  have hs := size_le hn
  have hw' := two32 hn hw
  unfold zj135
  rw [impl_IsTable_eq N _ _ (by omega), isT_of hn hw, Bool.not_true, cond_false, impl_coefficients_eq N hN n w hn hw]
  refine impl_degree_eq N hN n hn _ (fun m => cf w m (2 ^ n) != 0) (fun x k hx => ?_) k
  unfold zj130
  rw [gd_true (decide_eq_true (by omega : (0 : Int) ≤ (x : Int))), cfs_len, gd_true (decide_eq_true (by omega : (x : Int) < ((2 ^ n : Nat) : Int))), cfs_rd w n x hx]
end Go.Proofs.Ytfdggelojmofmaa
namespace Go.Proofs.Ytfdggelojmofmaa
open Go.Rv
set_option linter.unusedVariables false
variable {β : Type}
/-- Whether a block changes the value. -/
def ch (w x b : Nat) : Bool := w.testBit x != w.testBit (x ^^^ b)
theorem ch_zero (w x : Nat) : ch w x 0 = false := by simp [ch]
/-- The least blocks, as far as looked. -/
def sb (g : Nat → Bool) : Nat → List Nat
  | 0 => []
  | b + 1 => if g b && (sb g b).all (fun m => !(m &&& b == m)) then sb g b ++ [b] else sb g b
theorem sb_lt (g : Nat → Bool) : ∀ b, ∀ m ∈ sb g b, m < b
  | 0, m, h => by cases h
  | b + 1, m, h => by
    simp only [sb] at h
    split at h
    · rcases List.mem_append.1 h with h | h
      · have := sb_lt g b m h; omega
      · simp at h; omega
    · have := sb_lt g b m h; omega
theorem sb_len (g : Nat → Bool) : ∀ b, (sb g b).length ≤ b
  | 0 => by simp [sb]
  | b + 1 => by
    have := sb_len g b
    simp only [sb]
    split
    · simp; omega
    · omega
def ints (l : List Nat) : List Int := l.map (fun (m : Nat) => (m : Int))
theorem ints_len (l : List Nat) : (ints l).length = l.length := by simp [ints]
theorem ints_rd (l : List Nat) (i : Nat) (h : i < l.length) : rd 0 (ints l) (i : Int) = ((l[i] : Nat) : Int) := by
  rw [rd_nat 0 _ i (by rw [ints_len]; exact h)]
  simp [ints]

theorem block_lt : ∀ n, n ≤ 4 → ∀ x, x < 2 ^ n → ∀ b, b < 2 ^ n → x ^^^ b < 2 ^ n := by decide +kernel
theorem size4 {n : Nat} (h : n ≤ 4) : 2 ^ n ≤ 16 := Nat.le_trans (Nat.pow_le_pow_right (by decide) h) (by decide)

theorem spec_blocks_inner (N n w x b : Nat) (hb : b < 16) (l : List Nat) (hl : ∀ m ∈ l, m < 16) (hlen : l.length ≤ 16) (K : Int → Int → Bool → Int → Int → List Int → Option β) :
    ∀ (d F i : Nat) (v : Bool), i + d = l.length → d < F → zj12 N F (x : Int) (b : Int) v (i : Int) (n : Int) (w : Int) (ints l) K = K x b (v && (l.drop i).all fun m => !(m &&& b == m)) n w (ints l) := by
  intro d
  induction d with
  | zero =>
    intro F i v hi hF
    obtain ⟨F, rfl⟩ : ∃ G, F = G + 1 := ⟨F - 1, by omega⟩
    simp only [zj12, zj11, ints_len]
    rw [decide_eq_false (by omega : ¬ (i : Int) < (l.length : Int)), cond_false, List.drop_eq_nil_of_le (by omega)]
    simp
  | succ d ih =>
    intro F i v hi hF
    obtain ⟨F, rfl⟩ : ∃ G, F = G + 1 := ⟨F - 1, by omega⟩
    have hlt : i < l.length := by omega
    have hm := hl l[i] (List.getElem_mem hlt)
    simp only [zj12, zj11, ints_len]
    rw [decide_eq_true (by omega : (i : Int) < (l.length : Int)), cond_true, w64_succ i (by omega), gd_true (decide_eq_true (by omega : (0 : Int) ≤ (i : Int))), gd_true rfl, gd_true (decide_eq_true (by omega : (0 : Int) ≤ (i : Int))), gd_true rfl, ints_rd l i hlt, bAnd _ b (by omega) (by omega), List.drop_eq_getElem_cons hlt]
    have e : (((l[i] &&& b : Nat) : Int) != ((l[i] : Nat) : Int)) = !(l[i] &&& b == l[i]) := by rw [bne, and_eq]
    rw [e, ih F (i + 1) _ (by omega) (by omega), ih F (i + 1) _ (by omega) (by omega), List.all_cons]
    cases v <;> simp

theorem spec_l10Blocks_eq (N : Nat) (hN : 64 < N) (n w x : Nat) (hn : n ≤ 4) (hw : w < 2 ^ 2 ^ n) (hx : x < 2 ^ n) (k : List Int → Option β) : zj15 N (n : Int) (w : Int) (x : Int) k = k (ints (sb (ch w x) (2 ^ n))) := by
  have hs := size4 hn
  have hw' := two32 (by omega) hw
  unfold zj15
  have key : ∀ (F b : Nat), 2 ^ n - b < F → b ≤ 2 ^ n → zj14 N F (x : Int) (b : Int) (n : Int) (w : Int) (ints (sb (ch w x) b)) k = k (ints (sb (ch w x) (2 ^ n))) := by
    intro F
    induction F with
    | zero => intro b h; omega
    | succ F ih =>
      intro b hF hb
      simp only [zj14, zj13]
      rw [gd_true (decide_eq_true (by omega : (0 : Int) ≤ (n : Int))), shl_one n (by omega)]
      by_cases hlt : b < 2 ^ n
      · have hxb := block_lt n hn x hx b hlt
        have hsl := sb_len (ch w x) b
        have e := fun K => spec_blocks_inner (β := β) N n w x b (by omega) (sb (ch w x) b) (fun m hm => by have := sb_lt _ _ m hm; omega) (by omega) K (sb (ch w x) b).length N 0 true (by omega) (by omega)
        simp only [Int.natCast_zero, List.drop_zero, Bool.true_and] at e
        rw [decide_eq_true (by omega : (b : Int) < ((2 ^ n : Nat) : Int)), cond_true, gd_true (decide_eq_true (by omega : (0 : Int) ≤ (x : Int))), bXor x b (by omega) (by omega), gd_true (decide_eq_true (by omega : (0 : Int) ≤ ((x ^^^ b : Nat) : Int))), bit_at w x (by omega), bit_at w _ (by omega), bit_ne, e, w64_succ b (by omega), ints_len, gd_true (decide_eq_true (by simp; omega))]
        have h1 := ih (b + 1) (by omega) (by omega)
        have e2 : (w.testBit x == w.testBit (x ^^^ b)) = !ch w x b := by unfold ch; simp [bne]
        rw [e2]
        simp only [sb] at h1
        cases hc : ch w x b with
        | false => rw [hc] at h1; exact h1
        | true =>
          rw [hc, Bool.true_and] at h1
          rw [Bool.not_true, cond_false]
          cases ha : (sb (ch w x) b).all (fun m => !(m &&& b == m)) with
          | true =>
            rw [ha] at h1
            rw [cond_true]
            have e3 : ints (sb (ch w x) b) ++ (([] : List Int) ++ [(b : Int)]) = ints (sb (ch w x) b ++ [b]) := by simp [ints]
            rw [e3]
            exact h1
          | false => rw [ha] at h1; exact h1
      · rw [decide_eq_false (by omega : ¬ (b : Int) < ((2 ^ n : Nat) : Int)), cond_false, show b = 2 ^ n by omega]
  have h0 : sb (ch w x) 1 = [] := by simp [sb, ch_zero]
  have hpos := Nat.two_pow_pos n
  have := key N 1 (by omega) (by omega)
  rw [h0] at this
  exact this

/-- The greatest number of blocks of a list that have nothing in common. -/
def pk : List Nat → Nat → Nat
  | [], _ => 0
  | b :: l, u => if b &&& u == 0 then max (1 + pk l (u ||| b)) (pk l u) else pk l u
theorem pk_le : ∀ (l : List Nat) (u : Nat), pk l u ≤ l.length
  | [], _ => Nat.le_refl _
  | b :: l, u => by
    have h1 := pk_le l (u ||| b)
    have h2 := pk_le l u
    simp only [pk, List.length_cons]
    split <;> omega
theorem or_small : ∀ a, a < 16 → ∀ b, b < 16 → a ||| b < 16 := by decide +kernel
theorem spec_pack_f (N : Nat) (hN : 64 < N) (l : List Nat) (hl : ∀ m ∈ l, m < 16) (hlen : l.length ≤ 16) : ∀ (F i u : Nat), l.length - i < F → i ≤ l.length → u < 16 → ∀ k : Int → Option β, zj19 N F (ints l) (i : Int) (u : Int) k = k (pk (l.drop i) u : Int) := by
  intro F
  induction F with
  | zero => intro i u h; omega
  | succ F ih =>
    intro i u hF hi hu k
    simp only [zj19, zj18]
    have key : ∀ (d G j best : Nat), j + d = l.length → d < G → i ≤ j → best ≤ 16 → zj17 N (zj19 N F) G (ints l) (u : Int) (best : Int) (j : Int) k = k ((max best (pk (l.drop j) u) : Nat) : Int) := by
      intro d
      induction d with
      | zero =>
        intro G j best hj hG hij hbest
        obtain ⟨G, rfl⟩ : ∃ H, G = H + 1 := ⟨G - 1, by omega⟩
        simp only [zj17, zj16, ints_len]
        rw [decide_eq_false (by omega : ¬ (j : Int) < (l.length : Int)), cond_false, List.drop_eq_nil_of_le (by omega)]
        simp [pk]
      | succ d ihd =>
        intro G j best hj hG hij hbest
        obtain ⟨G, rfl⟩ : ∃ H, G = H + 1 := ⟨G - 1, by omega⟩
        have hlt : j < l.length := by omega
        have hm := hl l[j] (List.getElem_mem hlt)
        have hor := or_small u hu l[j] hm
        have hpk := pk_le (l.drop (j + 1)) (u ||| l[j])
        rw [List.length_drop] at hpk
        simp only [zj17, zj16, ints_len]
        rw [decide_eq_true (by omega : (j : Int) < (l.length : Int)), cond_true]
        simp only [gd_true (decide_eq_true (by omega : (0 : Int) ≤ (j : Int))), gd_true (rfl : true = true)]
        rw [ints_rd l j hlt, bAnd _ u (by omega) (by omega), bOr u _ (by omega) (by omega), w64_succ j (by omega), ih (j + 1) (u ||| l[j]) (by omega) (by omega) hor]
        rw [show (1 : Int) + ((pk (l.drop (j + 1)) (u ||| l[j]) : Nat) : Int) = ((1 + pk (l.drop (j + 1)) (u ||| l[j]) : Nat) : Int) by omega, w64_nat _ (by omega), mxI_nat, ihd G (j + 1) _ (by omega) (by omega) (by omega) (by omega), ihd G (j + 1) _ (by omega) (by omega) (by omega) (by omega), List.drop_eq_getElem_cons hlt]
        have e : (((l[j] &&& u : Nat) : Int) == 0) = (l[j] &&& u == 0) := by
          rw [Bool.eq_iff_iff, beq_iff_eq, beq_iff_eq]; omega
        rw [e]
        simp only [pk]
        cases l[j] &&& u == 0 with
        | true => simp only [cond_true, if_true]; rw [Nat.max_assoc]
        | false => simp
    have := key (l.length - i) N i 0 (by omega) (by omega) (Nat.le_refl _) (by omega)
    simp only [Int.natCast_zero] at this
    rw [this, Nat.zero_max]

/-! ### The same by sets -/
def stepN (s : Nat) (a : List Nat) (b : Nat) : List Nat := if b &&& s == b then a.set s (max (a.getD s 0) (1 + a.getD (s ^^^ (s &&& b)) 0)) else a
def dpRow (l : List Nat) (s : Nat) (a : List Nat) : List Nat := l.foldl (stepN s) a
def dpTo (l : List Nat) (M : Nat) : Nat → List Nat
  | 0 => List.replicate M 0
  | s + 1 => dpRow l s (dpTo l M s)
theorem stepN_len (s : Nat) (a : List Nat) (b : Nat) : (stepN s a b).length = a.length := by unfold stepN; split <;> simp
theorem dpRow_len (s : Nat) : ∀ (l a : List Nat), (dpRow l s a).length = a.length
  | [], a => rfl
  | b :: l, a => by rw [dpRow, List.foldl_cons]; exact (dpRow_len s l _).trans (stepN_len s a b)
theorem dpTo_len (l : List Nat) (M : Nat) : ∀ s, (dpTo l M s).length = M
  | 0 => by simp [dpTo]
  | s + 1 => by rw [dpTo, dpRow_len, dpTo_len l M s]
theorem getD_bound {a : List Nat} {c : Nat} (h : ∀ v ∈ a, v ≤ c) (i : Nat) : a.getD i 0 ≤ c := by
  rw [List.getD_eq_getElem?_getD]
  rcases Nat.lt_or_ge i a.length with hi | hi
  · rw [List.getElem?_eq_getElem hi]; exact h _ (List.getElem_mem hi)
  · rw [List.getElem?_eq_none hi]; exact Nat.zero_le _
theorem stepN_bound {s : Nat} {a : List Nat} {b c : Nat} (h : ∀ v ∈ a, v ≤ c) : ∀ v ∈ stepN s a b, v ≤ c + 1 := by
  intro v hv
  have h1 := getD_bound h s
  have h2 := getD_bound h (s ^^^ (s &&& b))
  unfold stepN at hv
  split at hv
  · rcases List.mem_or_eq_of_mem_set hv with hv | hv
    · have := h v hv; omega
    · omega
  · have := h v hv; omega
theorem dpRow_bound {s : Nat} : ∀ {l a : List Nat} {c : Nat}, (∀ v ∈ a, v ≤ c) → ∀ v ∈ dpRow l s a, v ≤ c + l.length
  | [], a, c, h, v, hv => h v hv
  | b :: l, a, c, h, v, hv => by
    have := dpRow_bound (l := l) (stepN_bound (s := s) (b := b) h) v hv
    simp only [List.length_cons]
    omega
theorem dpTo_bound (l : List Nat) (M : Nat) : ∀ s, ∀ v ∈ dpTo l M s, v ≤ s * l.length
  | 0, v, hv => by
    simp only [dpTo, List.mem_replicate] at hv
    omega
  | s + 1, v, hv => by
    have := dpRow_bound (dpTo_bound l M s) v hv
    rw [Nat.add_mul, Nat.one_mul]
    exact this
theorem ints_getD (a : List Nat) (i : Nat) : rd 0 (ints a) (i : Int) = ((a.getD i 0 : Nat) : Int) := by
  rcases Nat.lt_or_ge i a.length with h | h
  · rw [ints_rd a i h, List.getD_eq_getElem?_getD, List.getElem?_eq_getElem h]; rfl
  · rw [List.getD_eq_getElem?_getD, List.getElem?_eq_none h]
    simp [rd, ints, List.getElem?_eq_none h]
theorem ints_set (a : List Nat) (i v : Nat) : wr (ints a) (i : Int) (v : Int) = ints (a.set i v) := by
  simp [wr, ints, List.map_set]

theorem sub_small : ∀ s, s < 16 → ∀ b, b < 16 → s ^^^ (s &&& b) ≤ s := by decide +kernel
theorem impl_apart_inner (N n w s : Nat) (hs : s < 16) (v1 v2 v3 : Int) (l : List Nat) (hl : ∀ m ∈ l, m < 16) (hlen : l.length ≤ 16) (K : Int → Int → Int → Int → List Int → List Int → Option β) :
    ∀ (d F i c : Nat) (a : List Nat), i + d = l.length → d < F → s < a.length → c + d ≤ 100000 → (∀ v ∈ a, v ≤ c) → zj97 N F (s : Int) v1 v2 (l.length : Int) (i : Int) (n : Int) (w : Int) (ints l) (ints a) K = K v1 v2 n w (ints l) (ints (dpRow (l.drop i) s a)) := by
  intro d
  induction d with
  | zero =>
    intro F i c a hi hF ha hc hb
    obtain ⟨F, rfl⟩ : ∃ G, F = G + 1 := ⟨F - 1, by omega⟩
    simp only [zj97, zj96, ints_len]
    rw [decide_eq_false (by omega : ¬ (i : Int) < (l.length : Int)), cond_false, List.drop_eq_nil_of_le (by omega)]
    rfl
  | succ d ih =>
    intro F i c a hi hF ha hc hb
    obtain ⟨F, rfl⟩ : ∃ G, F = G + 1 := ⟨F - 1, by omega⟩
    have hlt : i < l.length := by omega
    have hm := hl l[i] (List.getElem_mem hlt)
    have hsub := sub_small s hs l[i] hm
    have b1 := getD_bound hb s
    have b2 := getD_bound hb (s ^^^ (s &&& l[i]))
    simp only [zj97, zj96, ints_len]
    rw [decide_eq_true (by omega : (i : Int) < (l.length : Int)), cond_true, ints_rd l i hlt, bAndNot _ s (by omega) (by omega), bAndNot s _ (by omega) (by omega), andnot_eq, ints_getD, ints_getD, w64_succ i (by omega)]
    simp only [gd_true (decide_eq_true (by omega : (0 : Int) ≤ (i : Int))), gd_true (rfl : true = true), gd_true (decide_eq_true (by omega : (0 : Int) ≤ (s : Int))), gd_true (decide_eq_true (by omega : (s : Int) < (a.length : Int))), gd_true (decide_eq_true (by omega : (0 : Int) ≤ ((s ^^^ (s &&& l[i]) : Nat) : Int))), gd_true (decide_eq_true (by omega : ((s ^^^ (s &&& l[i]) : Nat) : Int) < (a.length : Int)))]
    rw [show (1 : Int) + ((a.getD (s ^^^ (s &&& l[i])) 0 : Nat) : Int) = ((1 + a.getD (s ^^^ (s &&& l[i])) 0 : Nat) : Int) by omega, w64_nat _ (by omega), mxI_nat, ints_set]
    have h1 := ih F (i + 1) (c + 1) (stepN s a l[i]) (by omega) (by omega) (by rw [stepN_len]; exact ha) (by omega) (stepN_bound hb)
    rw [List.drop_eq_getElem_cons hlt]
    have e : dpRow (l[i] :: l.drop (i + 1)) s a = dpRow (l.drop (i + 1)) s (stepN s a l[i]) := rfl
    rw [e]
    have e2 : stepN s a l[i] = if l[i] &&& s == l[i] then a.set s (max (a.getD s 0) (1 + a.getD (s ^^^ (s &&& l[i])) 0)) else a := rfl
    cases hc2 : l[i] &&& s == l[i] with
    | true => rw [hc2, if_pos rfl] at e2; rw [e2] at h1 ⊢; exact h1
    | false => rw [hc2, if_neg (by decide)] at e2; rw [e2] at h1 ⊢; exact h1

/-! ### The least blocks, by their parts -/
def chain (b : Nat) : Nat → Nat → List Nat
  | 0, _ => []
  | f + 1, p => if p == 0 then [] else p :: chain b f ((p - 1) &&& b)
theorem chain_all : ∀ b, b < 16 → chain b 16 ((b - 1) &&& b) = ((List.range b).filter fun p => p != 0 && p &&& b == p).reverse := by decide +kernel
theorem chain_short : ∀ b, b < 16 → (chain b 16 ((b - 1) &&& b)).length < 16 := by decide +kernel
theorem impl_blocks_inner (N n w x b : Nat) (hn : n ≤ 4) (hw : w < 4294967296) (hx : x < 2 ^ n) (hb : b < 2 ^ n) (v4 v5 : Int) (l : List Int) (K : Int → Int → Bool → Int → Int → Int → Int → List Int → Option β) :
    ∀ (f F p : Nat) (v : Bool), p ≤ b → (chain b f p).length < f → f < F → zj92 N F (x : Int) (b : Int) v (p : Int) v4 v5 (n : Int) (w : Int) l K = K x b (v && (chain b f p).all fun q => !ch w x q) v4 v5 n w l := by
  have hs := size4 hn
  intro f
  induction f with
  | zero => intro F p v hp hl; simp at hl
  | succ f ih =>
    intro F p v hp hl hF
    obtain ⟨F, rfl⟩ : ∃ G, F = G + 1 := ⟨F - 1, by omega⟩
    simp only [zj92, zj91, zj84, zj83]
    cases v with
    | false => simp
    | true =>
      rw [cond_true]
      by_cases h0 : p = 0
      · subst h0
        rw [decide_eq_false (by omega : ¬ ((0 : Nat) : Int) > 0), cond_false]
        simp [chain]
      · have hxp := block_lt n hn x hx p (by omega)
        have hand : (p - 1) &&& b ≤ b := Nat.and_le_right
        have hc : chain b (f + 1) p = p :: chain b f ((p - 1) &&& b) := by
          simp only [chain]
          rw [if_neg (by simpa using h0)]
        rw [hc] at hl ⊢
        simp only [List.length_cons] at hl
        rw [decide_eq_true (by omega : (p : Int) > 0), cond_true, bXor x p (by omega) (by omega), gd_true (decide_eq_true (by omega : (0 : Int) ≤ (x : Int)))]
        show gd (decide ((0 : Int) ≤ ((x ^^^ p : Nat) : Int))) _ = _
        rw [gd_true (decide_eq_true (by omega : (0 : Int) ≤ ((x ^^^ p : Nat) : Int))), bit_at w x (by omega), bit_at w _ (by omega), show ((p : Int) - 1) = ((p - 1 : Nat) : Int) by omega, w64_nat _ (by omega), bAnd (p - 1) b (by omega) (by omega)]
        have e : (((if w.testBit x then 1 else 0 : Nat) : Int) != ((if w.testBit (x ^^^ p) then 1 else 0 : Nat) : Int)) = ch w x p := by rw [bne, bit_ne]; rfl
        show zj92 N F (x : Int) (b : Int) (!(((if w.testBit x then 1 else 0 : Nat) : Int) != ((if w.testBit (x ^^^ p) then 1 else 0 : Nat) : Int))) (((p - 1) &&& b : Nat) : Int) v4 v5 (n : Int) (w : Int) l K = _
        rw [e, ih F _ _ hand (by omega) (by omega), List.all_cons, Bool.true_and]
theorem least_parts (g : Nat → Bool) (hg : g 0 = false) (b : Nat) (hb : b < 16) (P : ∀ c, c ≤ b → ∀ m, m ∈ sb g c ↔ m < c ∧ g m = true ∧ ∀ p, 0 < p → p < m → p &&& m = p → g p = false) :
    ((sb g b).all fun m => !(m &&& b == m)) = ((chain b 16 ((b - 1) &&& b)).all fun q => !g q) := by
  rw [chain_all b hb, Bool.eq_iff_iff, List.all_eq_true, List.all_eq_true]
  constructor
  · intro h q hq
    simp only [List.mem_reverse, List.mem_filter, List.mem_range, Bool.and_eq_true, bne_iff_ne, beq_iff_eq] at hq
    obtain ⟨hqb, hq0, hqs⟩ := hq
    have key : ∀ q, q < b → q ≠ 0 → q &&& b = q → g q = false := by
      intro q
      induction q using Nat.strongRecOn with
      | ind q ih =>
        intro h1 h2 h3
        cases hgq : g q with
        | false => rfl
        | true =>
          exfalso
          have hm : q ∈ sb g b := (P b (Nat.le_refl _) q).2 ⟨h1, hgq, fun p hp hpq hps => ih p hpq (by omega) (by omega) (by
            rw [← h3] at hps
            rw [← hps, ← Nat.and_assoc, Nat.and_assoc, Nat.and_assoc, Nat.and_assoc, Nat.and_self])⟩
          have := h q hm
          rw [h3] at this
          simp at this
    rw [key q hqb hq0 hqs]
    rfl
  · intro h m hm
    obtain ⟨h1, h2, -⟩ := (P b (Nat.le_refl _) m).1 hm
    cases hs : m &&& b == m with
    | false => rfl
    | true =>
      exfalso
      have hm0 : m ≠ 0 := fun e => by rw [e, hg] at h2; cases h2
      have := h m (by
        simp only [List.mem_reverse, List.mem_filter, List.mem_range, Bool.and_eq_true, bne_iff_ne, beq_iff_eq]
        exact ⟨h1, hm0, eq_of_beq hs⟩)
      rw [h2] at this
      cases this
theorem sb_mem (g : Nat → Bool) (hg : g 0 = false) : ∀ b, b ≤ 16 → ∀ c, c ≤ b → ∀ m, m ∈ sb g c ↔ m < c ∧ g m = true ∧ ∀ p, 0 < p → p < m → p &&& m = p → g p = false := by
  intro b
  induction b with
  | zero =>
    intro _ c hc m
    obtain rfl : c = 0 := by omega
    simp [sb]
  | succ b ih =>
    intro hb c hc m
    by_cases hcb : c ≤ b
    · exact ih (by omega) c hcb m
    · obtain rfl : c = b + 1 := by omega
      have hP := ih (by omega)
      have hl := least_parts g hg b (by omega) hP
      rw [chain_all b (by omega)] at hl
      have hall : ((sb g b).all fun m => !(m &&& b == m)) = true ↔ ∀ p, 0 < p → p < b → p &&& b = p → g p = false := by
        rw [hl, List.all_eq_true]
        constructor
        · intro h p h1 h2 h3
          have := h p (by
            simp only [List.mem_reverse, List.mem_filter, List.mem_range, Bool.and_eq_true, bne_iff_ne, beq_iff_eq]
            exact ⟨h2, by omega, h3⟩)
          simpa using this
        · intro h q hq
          simp only [List.mem_reverse, List.mem_filter, List.mem_range, Bool.and_eq_true, bne_iff_ne, beq_iff_eq] at hq
          rw [h q (by omega) hq.1 hq.2.2]
          rfl
      simp only [sb]
      by_cases hcnd : (g b && (sb g b).all fun m => !(m &&& b == m)) = true
      · rw [if_pos hcnd]
        simp only [Bool.and_eq_true] at hcnd
        rw [List.mem_append, hP b (Nat.le_refl _) m, List.mem_singleton]
        constructor
        · rintro (h | rfl)
          · exact ⟨by omega, h.2⟩
          · exact ⟨by omega, hcnd.1, hall.1 hcnd.2⟩
        · rintro ⟨h1, h2⟩
          by_cases e : m = b
          · exact .inr e
          · exact .inl ⟨by omega, h2⟩
      · rw [if_neg hcnd, hP b (Nat.le_refl _) m]
        constructor
        · rintro ⟨h1, h2⟩
          exact ⟨by omega, h2⟩
        · rintro ⟨h1, h2, h3⟩
          by_cases e : m = b
          · subst e
            refine absurd ?_ hcnd
            rw [h2, Bool.true_and]
            exact hall.2 h3
          · exact ⟨by omega, h2, h3⟩
theorem impl_Table_blocks_eq (N : Nat) (hN : 64 < N) (n w x : Nat) (hn : n ≤ 4) (hw : w < 2 ^ 2 ^ n) (hx : x < 2 ^ n) (k : List Int → Option β) : zj95 N (n : Int) (w : Int) (x : Int) k = k (ints (sb (ch w x) (2 ^ n))) := by
  have hs := size4 hn
  have hw' := two32 (by omega) hw
  unfold zj95 zj79
  rw [gd_true (decide_eq_true (by omega : (0 : Int) ≤ (n : Int))), shl_one n (by omega)]
  have key : ∀ (F b : Nat), 2 ^ n - b < F → b ≤ 2 ^ n → zj94 N F (x : Int) ((2 ^ n : Nat) : Int) (b : Int) (n : Int) (w : Int) (ints (sb (ch w x) b)) k = k (ints (sb (ch w x) (2 ^ n))) := by
    intro F
    induction F with
    | zero => intro b h; omega
    | succ F ih =>
      intro b hF hb
      simp only [zj94, zj93, zj84, zj83]
      by_cases hlt : b < 2 ^ n
      · have hxb := block_lt n hn x hx b hlt
        have hsl := sb_len (ch w x) b
        have hand : (b - 1) &&& b ≤ b := Nat.and_le_right
        have hpart : bits .and .i64 (w64 ((b : Int) - 1)) (b : Int) = (((b - 1) &&& b : Nat) : Int) := by
          by_cases h0 : b = 0
          · subst h0; decide
          · rw [show ((b : Int) - 1) = ((b - 1 : Nat) : Int) by omega, w64_nat _ (by omega), bAnd (b - 1) b (by omega) (by omega)]
        have hm := sb_mem (ch w x) (ch_zero w x) b (by omega)
        have hleast := least_parts (ch w x) (ch_zero w x) b (by omega) hm
        rw [decide_eq_true (by omega : (b : Int) < ((2 ^ n : Nat) : Int)), cond_true, bXor x b (by omega) (by omega), hpart, gd_true (decide_eq_true (by omega : (0 : Int) ≤ (x : Int)))]
        show gd (decide ((0 : Int) ≤ ((x ^^^ b : Nat) : Int))) _ = _
        rw [gd_true (decide_eq_true (by omega : (0 : Int) ≤ ((x ^^^ b : Nat) : Int))), bit_at w x (by omega), bit_at w _ (by omega)]
        have e : (((if w.testBit x then 1 else 0 : Nat) : Int) != ((if w.testBit (x ^^^ b) then 1 else 0 : Nat) : Int)) = ch w x b := by rw [bne, bit_ne]; rfl
        simp only [e]
        rw [impl_blocks_inner N n w x b hn hw' hx hlt _ _ _ _ 16 N _ _ hand (chain_short b (by omega)) (by omega), ← hleast]
        have h1 := ih (b + 1) (by omega) (by omega)
        simp only [sb] at h1
        rw [w64_succ b (by omega), ints_len, gd_true (decide_eq_true (by simp; omega))]
        cases hc : (ch w x b && (sb (ch w x) b).all fun m => !(m &&& b == m)) with
        | true =>
          rw [hc] at h1
          rw [cond_true]
          have e3 : ints (sb (ch w x) b) ++ (([] : List Int) ++ [(b : Int)]) = ints (sb (ch w x) b ++ [b]) := by simp [ints]
          rw [e3]
          exact h1
        | false => rw [hc] at h1; exact h1
      · rw [decide_eq_false (by omega : ¬ (b : Int) < ((2 ^ n : Nat) : Int)), cond_false, show b = 2 ^ n by omega]
  have := key N 0 (by omega) (Nat.zero_le _)
  exact this

/-- That both ways to count agree, for all lists of least blocks. -/
def okL (n : Nat) (l : List Nat) : Bool := (dpTo l (2 ^ n) (2 ^ n)).getD (2 ^ n - 1) 0 == pk l 0
def chk (n : Nat) : Nat → Nat → List Nat → Bool
  | 0, _, l => okL n l
  | f + 1, b, l => if l.any (fun m => m &&& b == m) then chk n f (b + 1) l else chk n f (b + 1) l && chk n f (b + 1) (l ++ [b])
theorem chk_ok : ∀ n, n ≤ 4 → chk n (2 ^ n - 1) 1 [] = true := by decide +kernel
theorem chk_sb (n : Nat) (g : Nat → Bool) : ∀ f b, chk n f b (sb g b) = true → okL n (sb g (b + f)) = true
  | 0, b, h => h
  | f + 1, b, h => by
    rw [show b + (f + 1) = (b + 1) + f by omega]
    refine chk_sb n g f (b + 1) ?_
    simp only [chk] at h
    have hall : ((sb g b).all fun m => !(m &&& b == m)) = !(sb g b).any (fun m => m &&& b == m) := by
      rw [List.not_any_eq_all_not]
    simp only [sb]
    rw [hall]
    cases ha : (sb g b).any (fun m => m &&& b == m) with
    | true =>
      rw [ha, if_pos rfl] at h
      simpa using h
    | false =>
      rw [ha, if_neg (by decide)] at h
      simp only [Bool.and_eq_true] at h
      cases g b
      · simpa using h.1
      · simpa using h.2
/-- Block sensitivity at an input. -/
def bs (w n x : Nat) : Nat := pk (sb (ch w x) (2 ^ n)) 0
theorem sb16 (w n x : Nat) (hn : n ≤ 4) : (∀ m ∈ sb (ch w x) (2 ^ n), m < 16) ∧ (sb (ch w x) (2 ^ n)).length ≤ 16 := by
  have h3 := size4 hn
  exact ⟨fun m hm => by have := sb_lt _ _ m hm; omega, by have := sb_len (ch w x) (2 ^ n); omega⟩
theorem impl_apart_eq (N : Nat) (hN : 64 < N) (n w x : Nat) (hn : n ≤ 4) (hw : w < 2 ^ 2 ^ n) (hx : x < 2 ^ n) (k : Int → Option β) : zj100 N (n : Int) (w : Int) (x : Int) k = k (bs w n x : Int) := by
  have hs := size4 hn
  have hpos := Nat.two_pow_pos n
  obtain ⟨hl, hlen⟩ := sb16 w n x hn
  have hok : okL n (sb (ch w x) (2 ^ n)) = true := by
    have h0 : sb (ch w x) 1 = [] := by simp [sb, ch_zero]
    have h1 := chk_ok n hn
    rw [← h0] at h1
    have := chk_sb n (ch w x) (2 ^ n - 1) 1 h1
    rw [show 1 + (2 ^ n - 1) = 2 ^ n by omega] at this
    exact this
  unfold zj100 zj79
  rw [impl_Table_blocks_eq N hN n w x hn hw hx]
  unfold bs
  generalize sb (ch w x) (2 ^ n) = l at hl hlen hok ⊢
  show gd (decide ((0 : Int) ≤ (n : Int))) ((fun r5 => _) (shlI .i64 1 (n : Int))) = _
  rw [gd_true (decide_eq_true (by omega : (0 : Int) ≤ (n : Int))), shl_one n (by omega)]
  have key : ∀ (K : Int → Int → List Int → Option β) (F s : Nat), 2 ^ n - s < F → s ≤ 2 ^ n → zj99 N F ((2 ^ n : Nat) : Int) (s : Int) (n : Int) (w : Int) (ints l) (ints (dpTo l (2 ^ n) s)) K = K n w (ints (dpTo l (2 ^ n) (2 ^ n))) := by
    intro K F
    induction F with
    | zero => intro s h; omega
    | succ F ih =>
      intro s hF hsle
      simp only [zj99, zj98, ints_len]
      by_cases hlt : s < 2 ^ n
      · have hb := dpTo_bound l (2 ^ n) s
        have hmul : s * l.length ≤ 16 * 16 := Nat.mul_le_mul (by omega) hlen
        have e := fun K => impl_apart_inner (β := β) N n w s (by omega) ((2 ^ n : Nat) : Int) (s : Int) ((0 : Nat) : Int) l hl hlen K l.length N 0 (s * l.length) (dpTo l (2 ^ n) s) (by omega) (by omega) (by rw [dpTo_len]; exact hlt) (by omega) hb
        rw [decide_eq_true (by omega : (s : Int) < ((2 ^ n : Nat) : Int)), cond_true]
        have e2 := fun K => impl_apart_inner (β := β) N n w s (by omega) ((2 ^ n : Nat) : Int) (s : Int) (0 : Int) l hl hlen K l.length N 0 (s * l.length) (dpTo l (2 ^ n) s) (by omega) (by omega) (by rw [dpTo_len]; exact hlt) (by omega) hb
        simp only [Int.natCast_zero, List.drop_zero] at e2
        rw [e2, w64_succ s (by omega)]
        exact ih (s + 1) (by omega) (by omega)
      · rw [decide_eq_false (by omega : ¬ (s : Int) < ((2 ^ n : Nat) : Int)), cond_false, show s = 2 ^ n by omega]
  show gd (decide ((0 : Int) ≤ ((2 ^ n : Nat) : Int))) (gd (decide (((2 ^ n : Nat) : Int) ≤ ((2 ^ n : Nat) : Int))) (gd (decide (8 * ((2 ^ n : Nat) : Int) ≤ 281474976710656)) (zj99 N N ((List.replicate (Int.toNat ((2 ^ n : Nat) : Int)) (0 : Int)).length : Int) 0 (n : Int) (w : Int) (ints l) (List.replicate (Int.toNat ((2 ^ n : Nat) : Int)) (0 : Int)) fun e7_0 e7_1 e7_2 => gd (decide (0 ≤ e7_0)) ((fun r8 => gd (decide (0 ≤ w64 (r8 - 1))) (gd (decide (w64 (r8 - 1) < (e7_2.length : Int))) (k (rd 0 e7_2 (w64 (r8 - 1)))))) (shlI .i64 1 e7_0))))) = _
  rw [gd_true (decide_eq_true (Int.natCast_nonneg _)), gd_true (decide_eq_true (Int.le_refl _)), gd_true (decide_eq_true (by omega)), List.length_replicate, Int.toNat_natCast]
  have hz : List.replicate (2 ^ n) (0 : Int) = ints (dpTo l (2 ^ n) 0) := by simp [dpTo, ints]
  have e := fun K => key K N 0 (by omega) (Nat.zero_le _)
  simp only [Int.natCast_zero] at e
  rw [hz, e, gd_true (decide_eq_true (by omega : (0 : Int) ≤ (n : Int))), shl_one n (by omega)]
  show gd (decide (0 ≤ w64 (((2 ^ n : Nat) : Int) - 1))) (gd (decide (w64 (((2 ^ n : Nat) : Int) - 1) < ((ints (dpTo l (2 ^ n) (2 ^ n))).length : Int))) (k (rd 0 (ints (dpTo l (2 ^ n) (2 ^ n))) (w64 (((2 ^ n : Nat) : Int) - 1))))) = _
  rw [show (((2 ^ n : Nat) : Int) - 1) = ((2 ^ n - 1 : Nat) : Int) by omega, w64_nat _ (by omega), ints_len, dpTo_len, gd_true (decide_eq_true (Int.natCast_nonneg _)), gd_true (decide_eq_true (by omega)), ints_getD]
  unfold okL at hok
  rw [eq_of_beq hok]

/-- The block sensitivity of a table. -/
def bsOf (w n : Nat) : Nat := mx (bs w n) (2 ^ n)
theorem spec_BlockSensitivityOf_eq (N : Nat) (hN : 64 < N) (n w : Nat) (hn : n ≤ 4) (hw : w < 2 ^ 2 ^ n) (k : Int → Option β) : zj24 N (n : Int) (w : Int) k = k (bsOf w n : Int) := by
  have hs := size4 hn
  unfold zj24
  rw [spec_IsTable_eq, isT_of (by omega) hw, Bool.not_true, cond_false]
  have key : ∀ (F x : Nat), 2 ^ n - x < F → x ≤ 2 ^ n → zj23 N F (mx (bs w n) x : Int) (x : Int) (n : Int) (w : Int) k = k (bsOf w n : Int) := by
    intro F
    induction F with
    | zero => intro x h; omega
    | succ F ih =>
      intro x hF hx
      simp only [zj23, zj22, zj21]
      rw [gd_true (decide_eq_true (by omega : (0 : Int) ≤ (n : Int))), shl_one n (by omega)]
      by_cases hlt : x < 2 ^ n
      · obtain ⟨hl, hlen⟩ := sb16 w n x hn
        have e := fun K => spec_pack_f (β := β) N hN (sb (ch w x) (2 ^ n)) hl hlen N 0 0 (by omega) (Nat.zero_le _) (by decide) K
        simp only [Int.natCast_zero, List.drop_zero] at e
        rw [decide_eq_true (by omega : (x : Int) < ((2 ^ n : Nat) : Int)), cond_true, spec_l9In_eq, isIn_of (by omega) hw hlt, Bool.not_true, cond_false, spec_l10Blocks_eq N hN n w x hn hw hlt]
        unfold zj20
        rw [e, mxI_nat, w64_succ x (by omega)]
        exact ih (x + 1) (by omega) (by omega)
      · rw [decide_eq_false (by omega : ¬ (x : Int) < ((2 ^ n : Nat) : Int)), cond_false, show x = 2 ^ n by omega]
        rfl
  exact key N 0 (by omega) (Nat.zero_le _)
theorem impl_BlockSensitivityOf_eq (N : Nat) (hN : 64 < N) (n w : Nat) (hn : n ≤ 4) (hw : w < 2 ^ 2 ^ n) (k : Int → Option β) : zj103 N (n : Int) (w : Int) k = k (bsOf w n : Int) := by
  have hs := size4 hn
  have hw' := two32 (by omega) hw
  unfold zj103 zj79
  rw [impl_IsTable_eq N _ _ (by omega), isT_of (by omega) hw, Bool.not_true, cond_false, gd_true (decide_eq_true (by omega : (0 : Int) ≤ (n : Int))), shl_one n (by omega)]
  have key : ∀ (F x : Nat), 2 ^ n - x < F → x ≤ 2 ^ n → zj102 N F (mx (bs w n) x : Int) ((2 ^ n : Nat) : Int) (x : Int) (n : Int) (w : Int) k = k (bsOf w n : Int) := by
    intro F
    induction F with
    | zero => intro x h; omega
    | succ F ih =>
      intro x hF hx
      simp only [zj102, zj101]
      by_cases hlt : x < 2 ^ n
      · rw [decide_eq_true (by omega : (x : Int) < ((2 ^ n : Nat) : Int)), cond_true, impl_apart_eq N hN n w x hn hw hlt, mxI_nat, w64_succ x (by omega)]
        exact ih (x + 1) (by omega) (by omega)
      · rw [decide_eq_false (by omega : ¬ (x : Int) < ((2 ^ n : Nat) : Int)), cond_false, show x = 2 ^ n by omega]
        rfl
  exact key N 0 (by omega) (Nat.zero_le _)
end Go.Proofs.Ytfdggelojmofmaa
