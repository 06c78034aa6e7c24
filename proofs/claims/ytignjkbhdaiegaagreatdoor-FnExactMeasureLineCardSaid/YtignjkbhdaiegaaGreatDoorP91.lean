/- Plain laws of the texts. -/
import Derived.Test.YtignjkbhdaiegaaGreatDoorT0
import Derived.Test.YtignjkbhdaiegaaGreatDoorRvNum
namespace Go.Proofs.YtignjkbhdaiegaaGreatDoor
open Go.Rv

variable {β : Type}
end Go.Proofs.YtignjkbhdaiegaaGreatDoor
namespace Go.Proofs.YtignjkbhdaiegaaGreatDoor
open Go.Rv
set_option linter.unusedVariables false
variable {β : Type}
/-- A table's word, input by input. -/
def tabw (g : Nat → Bool) : Nat → Nat
  | 0 => 0
  | i + 1 => tabw g i ||| (if g i then 2 ^ i else 0)
theorem tabw_lt (g : Nat → Bool) : ∀ i, tabw g i < 2 ^ i
  | 0 => by simp [tabw]
  | i + 1 => by
    have := tabw_lt g i
    unfold tabw
    have h2 : 2 ^ (i + 1) = 2 ^ i + 2 ^ i := by rw [Nat.pow_succ]; omega
    refine Nat.or_lt_two_pow (by omega) ?_
    split
    · have := Nat.two_pow_pos i; omega
    · exact Nat.two_pow_pos _
theorem tabw_congr {g h : Nat → Bool} : ∀ {n : Nat}, (∀ i, i < n → g i = h i) → tabw g n = tabw h n
  | 0, _ => rfl
  | n + 1, e => by
    unfold tabw
    rw [tabw_congr (n := n) fun i hi => e i (by omega), e n (by omega)]

theorem pow_le_64 {n : Nat} (h : n ≤ 62) : 2 ^ n < 9223372036854775808 := Nat.lt_of_le_of_lt (Nat.pow_le_pow_right (by decide) h) (by decide)
theorem size_le {n : Nat} (h : n ≤ 5) : 2 ^ n ≤ 32 := Nat.le_trans (Nat.pow_le_pow_right (by decide) h) (by decide)

theorem shl_one (n : Nat) (h : n ≤ 62) : shlI .i64 1 (n : Int) = ((2 ^ n : Nat) : Int) := by
  have := shl_nat 1 n (by omega) (by rw [Nat.one_mul]; exact pow_le_64 h)
  rw [Nat.one_mul] at this
  exact this

theorem makeTable_loop (N : Nat) (h : Int → (Bool → Option β) → Option β) (g : Nat → Bool) (m : Nat) (hm : m ≤ 32) (hh : ∀ (x : Nat) k, x < m → h (x : Int) k = k (g x)) (k0 : Int → Int → Int → Int → Option β) (a b n : Int) :
    ∀ (F i : Nat), m - i < F → i ≤ m → j151 N h F (m : Int) (i : Int) a b n (tabw g i : Int) k0 = k0 a b n (tabw g m : Int) := by
  intro F
  induction F with
  | zero => intro i hF; omega
  | succ F ih =>
    intro i hF hi
    simp only [j151, j150]
    by_cases hlt : i < m
    · rw [decide_eq_true (by omega : (i : Int) < (m : Int))]
      simp only [cond_true, hh i _ hlt]
      have h1 := ih (i + 1) (by omega) (by omega)
      rw [w64_succ i (by omega)]
      have hw : tabw g i < 2 ^ 63 := Nat.lt_of_lt_of_le (tabw_lt g i) (Nat.pow_le_pow_right (by decide) (by omega))
      cases hg : g i with
      | true =>
        have e : tabw g (i + 1) = tabw g i ||| 2 ^ i := by simp [tabw, hg]
        rw [e] at h1
        simp only [cond_true, gd_true (decide_eq_true (by omega : 0 ≤ (i : Int)))]
        rw [shl_one i (by omega), bOr _ _ hw (Nat.pow_lt_pow_right (by decide) (by omega))]
        exact h1
      | false =>
        have e : tabw g (i + 1) = tabw g i := by simp [tabw, hg]
        rw [e] at h1
        exact h1
    · have : i = m := by omega
      subst this
      rw [decide_eq_false (by omega : ¬ (i : Int) < (i : Int))]
      rfl

theorem makeTable_eq (N : Nat) (hN : 64 < N) (n : Nat) (hn : n ≤ 5) (h : Int → (Bool → Option β) → Option β) (g : Nat → Bool) (hh : ∀ (x : Nat) k, x < 2 ^ n → h (x : Int) k = k (g x)) (k : Int → Int → Option β) :
    j152 N (n : Int) h k = k n (tabw g (2 ^ n) : Int) := by
  unfold j152
  rw [gd_true (decide_eq_true (by omega)), shl_one n (by omega)]
  have := size_le hn
  exact makeTable_loop N h g (2 ^ n) this hh (fun _ _ e2 e3 => k e2 e3) 0 0 n N 0 (by omega) (Nat.zero_le _)

def ys (x i b : Nat) : Nat := x - (x &&& 2 ^ i) + b * 2 ^ i
/-- A bit of a word, as the program takes it. -/
theorem bit_at (w y : Nat) (hw : w < 9223372036854775808) : bits .and .i64 (shrI .i64 (w : Int) (y : Int)) 1 = ((if w.testBit y then 1 else 0 : Nat) : Int) := by
  rw [shr_nat w y hw]
  have h1 : w / 2 ^ y < 2 ^ 63 := Nat.lt_of_le_of_lt (Nat.div_le_self _ _) hw
  have := bAnd (w / 2 ^ y) 1 h1 (by decide)
  rw [show ((1 : Nat) : Int) = 1 from rfl] at this
  rw [this, Nat.and_one_is_mod]
  congr 1
  rw [Nat.testBit, Nat.shiftRight_eq_div_pow, Nat.and_comm, Nat.and_one_is_mod]
  have := Nat.mod_two_eq_zero_or_one (w / 2 ^ y)
  rcases this with h | h <;> simp [h]

/-- What a table is. -/
def isT (a0 a1 : Int) : Bool := decide (0 ≤ a0) && decide (a0 ≤ 5) && decide (0 ≤ a1) && decide (a1 < 2 ^ 2 ^ a0.toNat)

theorem isT_nat {a0 a1 : Int} (h : isT a0 a1 = true) : ∃ n w : Nat, a0 = n ∧ a1 = w ∧ n ≤ 5 ∧ w < 2 ^ 2 ^ n ∧ w < 4294967296 := by
  simp only [isT, Bool.and_eq_true, decide_eq_true_eq] at h
  obtain ⟨⟨⟨h1, h2⟩, h3⟩, h4⟩ := h
  obtain ⟨n, rfl⟩ := Int.eq_ofNat_of_zero_le h1
  obtain ⟨w, rfl⟩ := Int.eq_ofNat_of_zero_le h3
  simp only [Int.toNat_natCast] at h4
  have h5 : w < 2 ^ 2 ^ n := by exact_mod_cast h4
  have h6 : 2 ^ 2 ^ n ≤ 2 ^ 32 := Nat.pow_le_pow_right (by decide) (size_le (by omega))
  exact ⟨n, w, rfl, rfl, by omega, h5, by omega⟩

theorem shl_u64 : ∀ n : Nat, n ≤ 5 → shlI .u64 1 (n : Int) = ((2 ^ n : Nat) : Int) := by decide +kernel

theorem spec_IsTable_eq (N : Nat) (a0 a1 : Int) (k : Bool → Option β) : j2 N a0 a1 k = k (isT a0 a1) := by
  unfold j2 j1
  by_cases h0 : 0 ≤ a0
  · rw [decide_eq_true (by omega : a0 ≥ 0)]
    simp only [cond_true]
    by_cases h5 : a0 ≤ 5
    · rw [decide_eq_true h5]
      obtain ⟨n, rfl⟩ := Int.eq_ofNat_of_zero_le h0
      have hn : n ≤ 5 := by omega
      have hs := size_le hn
      have hp := pow_le_64 (n := 2 ^ n) (by omega)
      have hpos := Nat.two_pow_pos (2 ^ n)
      simp only [cond_true]
      rw [gd_true rfl, shl_u64 n hn, gd_true (decide_eq_true (Int.natCast_nonneg _)), shl_one (2 ^ n) (by omega), w64_id (by omega) (by omega)]
      have e : isT (n : Int) a1 = (decide (0 ≤ a1) && decide (a1 < ((2 ^ 2 ^ n : Nat) : Int))) := by
        simp only [isT, Int.toNat_natCast, decide_eq_true (by omega : 0 ≤ (n : Int)), decide_eq_true (by omega : (n : Int) ≤ 5), Bool.true_and]
        push_cast
        rfl
      rw [e]
      by_cases h1 : 0 ≤ a1
      · rw [decide_eq_true (by omega : a1 ≥ 0)]
        simp only [cond_true, Bool.true_and]
        congr 1
        exact decide_eq_decide.2 (by omega)
      · rw [decide_eq_false (by omega : ¬ a1 ≥ 0)]; rfl
    · rw [decide_eq_false h5]
      simp [isT, h5]
  · rw [decide_eq_false (by omega : ¬ a0 ≥ 0)]
    simp [isT, h0]

theorem impl_IsTable_eq (N : Nat) (a0 a1 : Int) (h : a1 < 9223372036854775808) (k : Bool → Option β) : j91 N a0 a1 k = k (isT a0 a1) := by
  unfold j91 j89 j90
  by_cases h0 : 0 ≤ a0
  · rw [decide_eq_true (by omega : a0 ≥ 0)]
    simp only [cond_true]
    by_cases h5 : a0 ≤ 5
    · rw [decide_eq_true h5]
      obtain ⟨n, rfl⟩ := Int.eq_ofNat_of_zero_le h0
      have hn : n ≤ 5 := by omega
      have hs := size_le hn
      have hpos := Nat.two_pow_pos (2 ^ n)
      simp only [cond_true]
      rw [gd_true rfl]
      have e : isT (n : Int) a1 = (decide (0 ≤ a1) && decide (a1 < ((2 ^ 2 ^ n : Nat) : Int))) := by
        simp only [isT, Int.toNat_natCast, decide_eq_true (by omega : 0 ≤ (n : Int)), decide_eq_true (by omega : (n : Int) ≤ 5), Bool.true_and]
        push_cast
        rfl
      rw [e]
      by_cases h1 : 0 ≤ a1
      · obtain ⟨w, rfl⟩ := Int.eq_ofNat_of_zero_le h1
        rw [decide_eq_true (by omega : (w : Int) ≥ 0), shl_one n (by omega)]
        simp only [cond_true, Bool.true_and]
        rw [gd_true (decide_eq_true (Int.natCast_nonneg _)), shr_nat w (2 ^ n) (by omega)]
        congr 1
        have : w / 2 ^ 2 ^ n = 0 ↔ w < 2 ^ 2 ^ n := by
          rw [Nat.div_eq_zero_iff]
          omega
        by_cases hw : w < 2 ^ 2 ^ n
        · rw [this.2 hw, decide_eq_true (by omega)]; rfl
        · rw [decide_eq_false (by omega)]
          have : ¬ w / 2 ^ 2 ^ n = 0 := fun h => hw (this.1 h)
          simp only [beq_eq_false_iff_ne, ne_eq]
          omega
      · rw [decide_eq_false (by omega : ¬ a1 ≥ 0)]; rfl
    · rw [decide_eq_false h5]
      simp [isT, h5]
  · rw [decide_eq_false (by omega : ¬ a0 ≥ 0)]
    simp [isT, h0]
end Go.Proofs.YtignjkbhdaiegaaGreatDoor
namespace Go.Proofs.YtignjkbhdaiegaaGreatDoor
open Go.Rv
set_option linter.unusedVariables false
variable {β : Type}
theorem tabw_bit (g : Nat → Bool) : ∀ (n x : Nat), (tabw g n).testBit x = (decide (x < n) && g x)
  | 0, x => by simp [tabw]
  | n + 1, x => by
    unfold tabw
    rw [Nat.testBit_or, tabw_bit g n x]
    by_cases hx : x = n
    · subst hx
      cases hg : g x <;> simp [Nat.testBit_two_pow_self]
    · have h1 : (if g n then 2 ^ n else 0 : Nat).testBit x = false := by
        split
        · exact Nat.testBit_two_pow_of_ne (Ne.symm hx)
        · exact Nat.zero_testBit _
      rw [h1, Bool.or_false]
      congr 1
      exact decide_eq_decide.2 (by omega)

theorem tabw_eq_iff (g h : Nat → Bool) (n : Nat) : tabw g n = tabw h n ↔ ∀ x, x < n → g x = h x := by
  refine ⟨fun e x hx => ?_, fun e => tabw_congr e⟩
  have := congrArg (fun t => t.testBit x) e
  simpa [tabw_bit, hx] using this

theorem tabw_self (w n : Nat) (h : w < 2 ^ n) : tabw w.testBit n = w := by
  apply Nat.eq_of_testBit_eq
  intro x
  rw [tabw_bit]
  by_cases hx : x < n
  · simp [hx]
  · have : w.testBit x = false := Nat.testBit_lt_two_pow (Nat.lt_of_lt_of_le h (Nat.pow_le_pow_right (by decide) (by omega)))
    simp [hx, this]

/-- A bit put in between. -/
def ins (x i b : Nat) : Nat := (x / 2 ^ i) * 2 ^ (i + 1) ||| b * 2 ^ i ||| (x &&& (2 ^ i - 1))
def del (x i : Nat) : Nat := (x / 2 ^ (i + 1)) * 2 ^ i ||| (x &&& (2 ^ i - 1))
theorem del_ins : ∀ n, n ≤ 5 → ∀ i, i < n → ∀ x, x < 2 ^ n → del x i < 2 ^ (n - 1) ∧ ins (del x i) i (x / 2 ^ i % 2) = x ∧ ∀ b, b < 2 → ys x i b = ins (del x i) i b := by decide +kernel
theorem ins_lt1 : ∀ n, n ≤ 5 → ∀ i, i < n → ∀ x, x < 2 ^ (n - 1) → ins x i 0 < 2 ^ n ∧ ins x i 1 < 2 ^ n := by decide +kernel
theorem ins_ys : ∀ n, n ≤ 5 → ∀ i, i < n → ∀ x, x < 2 ^ (n - 1) → ys (ins x i 0) i 0 = ins x i 0 ∧ ys (ins x i 0) i 1 = ins x i 1 ∧ ys (ins x i 1) i 0 = ins x i 0 ∧ ys (ins x i 1) i 1 = ins x i 1 := by decide +kernel
theorem ins_lt (n : Nat) (hn : n ≤ 5) (i : Nat) (hi : i < n) (x : Nat) (hx : x < 2 ^ (n - 1)) (b : Nat) (hb : b < 2) : ins x i b < 2 ^ n ∧ ∀ c, c < 2 → ys (ins x i c) i b = ins x i b := by
  obtain ⟨h1, h2⟩ := ins_lt1 n hn i hi x hx
  obtain ⟨h3, h4, h5, h6⟩ := ins_ys n hn i hi x hx
  have hb' : b = 0 ∨ b = 1 := by omega
  rcases hb' with rfl | rfl
  · exact ⟨h1, fun c hc => by have hc' : c = 0 ∨ c = 1 := by omega
                              rcases hc' with rfl | rfl <;> assumption⟩
  · exact ⟨h2, fun c hc => by have hc' : c = 0 ∨ c = 1 := by omega
                              rcases hc' with rfl | rfl <;> assumption⟩

/-- Whether a word depends on an input. -/
def dep (w n i : Nat) : Bool := tabw (fun x => w.testBit (ins x i 0)) (2 ^ (n - 1)) != tabw (fun x => w.testBit (ins x i 1)) (2 ^ (n - 1))

theorem stuck_same (w n i b : Nat) (hn : n ≤ 5) (hi : i < n) (hb : b < 2) (hw : w < 2 ^ 2 ^ n) : (tabw (fun x => w.testBit (ys x i b)) (2 ^ n) == w) = !dep w n i := by
  have key : tabw (fun x => w.testBit (ys x i b)) (2 ^ n) = w ↔ tabw (fun x => w.testBit (ins x i 0)) (2 ^ (n - 1)) = tabw (fun x => w.testBit (ins x i 1)) (2 ^ (n - 1)) := by
    conv => lhs; rhs; rw [← tabw_self w (2 ^ n) hw]
    rw [tabw_eq_iff, tabw_eq_iff]
    constructor
    · intro h x hx
      obtain ⟨a1, a2⟩ := ins_lt n hn i hi x hx 0 (by omega)
      obtain ⟨b1, b2⟩ := ins_lt n hn i hi x hx 1 (by omega)
      have e0 := h _ a1
      have e1 := h _ b1
      have c0 := (ins_lt n hn i hi x hx b hb).2 0 (by omega)
      have c1 := (ins_lt n hn i hi x hx b hb).2 1 (by omega)
      rw [c0] at e0
      rw [c1] at e1
      rw [← e0, ← e1]
    · intro h x hx
      obtain ⟨h1, h2, h3⟩ := del_ins n hn i hi x hx
      have e := h _ h1
      rw [h3 b hb]
      conv => rhs; rw [← h2]
      have hc : x / 2 ^ i % 2 = 0 ∨ x / 2 ^ i % 2 = 1 := by omega
      have hb' : b = 0 ∨ b = 1 := by omega
      rcases hc with hc | hc <;> rcases hb' with rfl | rfl <;> rw [hc] <;> simp only [e]
  unfold dep
  by_cases h : tabw (fun x => w.testBit (ys x i b)) (2 ^ n) = w
  · rw [beq_iff_eq.2 h]
    simp [key.1 h]
  · rw [beq_eq_false_iff_ne.2 h]
    rw [bne_iff_ne.2 fun e => h (key.2 e)]
    rfl

end Go.Proofs.YtignjkbhdaiegaaGreatDoor
namespace Go.Proofs.YtignjkbhdaiegaaGreatDoor
open Go.Rv
set_option linter.unusedVariables false
variable {β : Type}
theorem detects (w n i b : Nat) (hn : n ≤ 5) (hi : i < n) (hb : b < 2) (hw : w < 2 ^ 2 ^ n) : (((w ^^^ tabw (fun x => w.testBit (ys x i b)) (2 ^ n) : Nat) : Int) != 0) = dep w n i := by
  have h := stuck_same w n i b hn hi hb hw
  cases hd : dep w n i with
  | true =>
    rw [hd] at h
    have h1 : ¬ tabw (fun x => w.testBit (ys x i b)) (2 ^ n) = w := by simpa using h
    rw [bne_iff_ne]
    intro e
    have : w ^^^ tabw (fun x => w.testBit (ys x i b)) (2 ^ n) = 0 := by exact_mod_cast e
    refine h1 (Nat.eq_of_testBit_eq fun j => ?_)
    have := congrArg (fun t => t.testBit j) this
    simp only [Nat.testBit_xor, Nat.zero_testBit] at this
    revert this
    cases w.testBit j <;> cases (tabw (fun x => w.testBit (ys x i b)) (2 ^ n)).testBit j <;> simp
  | false =>
    rw [hd] at h
    have h1 : tabw (fun x => w.testBit (ys x i b)) (2 ^ n) = w := by simpa using h
    rw [h1, Nat.xor_self]
    rfl
end Go.Proofs.YtignjkbhdaiegaaGreatDoor
namespace Go.Proofs.YtignjkbhdaiegaaGreatDoor
open Go.Rv
set_option linter.unusedVariables false
variable {β : Type}
end Go.Proofs.YtignjkbhdaiegaaGreatDoor
namespace Go.Proofs.YtignjkbhdaiegaaGreatDoor
open Go.Rv
set_option linter.unusedVariables false
variable {β : Type}
/-- Whether an input tells a stuck one apart. -/
def sees (w n x i b : Nat) : Bool := (w ^^^ tabw (fun x => w.testBit (ys x i b)) (2 ^ n)).testBit x
def addIf (c : Bool) (l : List Int) (v : Int) : List Int := if c then l ++ [v] else l
/-- The faults seen at an input. -/
def seen (w n x : Nat) : Nat → List Int
  | 0 => []
  | i + 1 => addIf (sees w n x i 1) (addIf (sees w n x i 0) (seen w n x i) ((2 * i : Nat) : Int)) ((2 * i + 1 : Nat) : Int)
theorem isT_of {n w : Nat} (hn : n ≤ 5) (hw : w < 2 ^ 2 ^ n) : isT (n : Int) (w : Int) = true := by
  simp only [isT, Bool.and_eq_true, decide_eq_true_eq, Int.toNat_natCast]
  refine ⟨⟨⟨by omega, by omega⟩, by omega⟩, ?_⟩
  rw [show ((2 : Int) ^ 2 ^ n) = ((2 ^ 2 ^ n : Nat) : Int) by simp]
  omega

/-- Whether a number is an input. -/
def isIn (a0 a1 a2 : Int) : Bool := isT a0 a1 && decide (0 ≤ a2) && decide (a2 < 2 ^ a0.toNat)

theorem spec_l9In_eq (N : Nat) (a0 a1 a2 : Int) (k : Bool → Option β) : j10 N a0 a1 a2 k = k (isIn a0 a1 a2) := by
  unfold j10 j1 isIn
  rw [spec_IsTable_eq]
  cases ht : isT a0 a1 with
  | false => rfl
  | true =>
    obtain ⟨n, w, rfl, rfl, hn, hw, hw'⟩ := isT_nat ht
    have hs := size_le hn
    have hp := Nat.two_pow_pos n
    simp only [cond_true, gd_true (decide_eq_true (by omega : 0 ≤ (n : Int))), Bool.true_and, Int.toNat_natCast]
    rw [shl_one n (by omega), w64_id (by omega) (by omega)]
    by_cases h : 0 ≤ a2
    · rw [decide_eq_true (by omega : a2 ≥ 0)]
      simp only [cond_true, Bool.true_and]
      congr 1
      exact decide_eq_decide.2 (by rw [show ((2 : Int) ^ n) = ((2 ^ n : Nat) : Int) by simp]; omega)
    · rw [decide_eq_false (by omega : ¬ a2 ≥ 0)]; rfl

end Go.Proofs.YtignjkbhdaiegaaGreatDoor
namespace Go.Proofs.YtignjkbhdaiegaaGreatDoor
open Go.Rv
set_option linter.unusedVariables false
variable {β : Type}
theorem spec_l1In_eq (N : Nat) (a b c : Int) (k : Bool → Option β) : j1 N a b c k = k (decide (b ≤ a) && decide (a ≤ c)) := by
  unfold j1
  by_cases h : b ≤ a
  · rw [decide_eq_true (by omega : a ≥ b)]; rfl
  · rw [decide_eq_false (by omega : ¬ a ≥ b)]; rfl
theorem impl_isBit_eq (N : Nat) (a : Int) (k : Bool → Option β) : j115 N a k = k (decide (0 ≤ a) && decide (a ≤ 1)) := by
  unfold j115
  by_cases h : a = 0
  · subst h; rfl
  · rw [beq_eq_false_iff_ne.2 h, cond_false]
    by_cases h1 : a = 1
    · subst h1; rfl
    · rw [beq_eq_false_iff_ne.2 h1]
      congr 1
      symm
      simp only [Bool.and_eq_false_iff, decide_eq_false_iff_not]
      omega
/-- The word of a table whose variable is stuck. -/
def stuckw (w n i b : Nat) : Nat := tabw (fun x => w.testBit (ys x i b)) (2 ^ n)
/-- The numbers of a set. -/
def elems (d : Nat) : Nat → List Int
  | 0 => []
  | m + 1 => addIf (d.testBit m) (elems d m) (m : Int)
theorem elems_more (d m : Nat) (h : d < 2 ^ m) : ∀ j, elems d (m + j) = elems d m
  | 0 => rfl
  | j + 1 => by
    show addIf (d.testBit (m + j)) (elems d (m + j)) _ = _
    rw [elems_more d m h j, Nat.testBit_lt_two_pow (Nat.lt_of_lt_of_le h (Nat.pow_le_pow_right (by decide) (by omega)))]
    rfl

theorem stuckw_lt (w n i b : Nat) : stuckw w n i b < 2 ^ 2 ^ n := tabw_lt _ _
theorem two32 {n w : Nat} (hn : n ≤ 5) (hw : w < 2 ^ 2 ^ n) : w < 4294967296 := Nat.lt_of_lt_of_le hw (Nat.pow_le_pow_right (by decide) (size_le hn) : 2 ^ 2 ^ n ≤ 2 ^ 32)

end Go.Proofs.YtignjkbhdaiegaaGreatDoor
namespace Go.Proofs.YtignjkbhdaiegaaGreatDoor
open Go.Rv
set_option linter.unusedVariables false
variable {β : Type}
/-- How many ones a number has, of at most so many bits. -/
def pc : Nat → Nat → Nat
  | 0, _ => 0
  | f + 1, w => w % 2 + pc f (w / 2)
theorem pc_le : ∀ f w, pc f w ≤ f
  | 0, _ => Nat.le_refl _
  | f + 1, w => by have := pc_le f (w / 2); simp only [pc]; omega
theorem pc_split : ∀ (j f c y : Nat), c < 2 ^ j → pc (j + f) (c + 2 ^ j * y) = pc j c + pc f y
  | 0, f, c, y, h => by
    have : c = 0 := by simpa using h
    subst this
    simp [pc]
  | j + 1, f, c, y, h => by
    rw [show j + 1 + f = (j + f) + 1 by omega]
    simp only [pc]
    have e : 2 ^ (j + 1) * y = 2 * (2 ^ j * y) := by rw [Nat.pow_succ]; rw [Nat.mul_comm (2 ^ j) 2, Nat.mul_assoc]
    rw [e, show (c + 2 * (2 ^ j * y)) % 2 = c % 2 by omega, show (c + 2 * (2 ^ j * y)) / 2 = c / 2 + 2 ^ j * y by omega, pc_split j f (c / 2) y (by rw [Nat.pow_succ] at h; omega)]
    omega
/-- The ones of a word. -/
def ones (w : Nat) : Nat := pc 32 w
theorem ones_le (w : Nat) : ones w ≤ 32 := pc_le 32 w
theorem ones_bytes (c0 c1 c2 c3 : Nat) (h0 : c0 < 256) (h1 : c1 < 256) (h2 : c2 < 256) (h3 : c3 < 256) : ones (c0 + 256 * (c1 + 256 * (c2 + 256 * c3))) = pc 8 c0 + (pc 8 c1 + (pc 8 c2 + pc 8 c3)) := by
  unfold ones
  rw [show (32 : Nat) = 8 + 24 from rfl, show (256 : Nat) = 2 ^ 8 from rfl, pc_split 8 24 c0 _ h0, show (24 : Nat) = 8 + 16 from rfl, pc_split 8 16 c1 _ h1, show (16 : Nat) = 8 + 8 from rfl, pc_split 8 8 c2 _ h2]

theorem and_byte (c y m M : Nat) (hc : c < 256) (hm : m < 256) : (c + 256 * y) &&& (m + 256 * M) = (c &&& m) + 256 * (y &&& M) := by
  have h1 : ((c + 256 * y) &&& (m + 256 * M)) % 2 ^ 8 = (c + 256 * y) % 2 ^ 8 &&& (m + 256 * M) % 2 ^ 8 := Nat.and_mod_two_pow
  have h2 : ((c + 256 * y) &&& (m + 256 * M)) / 2 ^ 8 = (c + 256 * y) / 2 ^ 8 &&& (m + 256 * M) / 2 ^ 8 := Nat.and_div_two_pow
  rw [show (c + 256 * y) % 2 ^ 8 = c by omega, show (m + 256 * M) % 2 ^ 8 = m by omega] at h1
  rw [show (c + 256 * y) / 2 ^ 8 = y by omega, show (m + 256 * M) / 2 ^ 8 = M by omega] at h2
  omega
theorem byte1 : ∀ c, c < 128 → ∀ b, b < 2 → (c + 128 * b) &&& 85 = c &&& 85 := by decide +kernel
theorem byte2 : ∀ c, c < 64 → ∀ b, b < 4 → (c + 64 * b) &&& 51 = c &&& 51 := by decide +kernel
theorem byte3 : ∀ c, c < 74 → ∀ b, b < 5 → (c + 16 * b) &&& 15 = c &&& 15 := by decide +kernel
theorem step1 (c y M : Nat) (hc : c < 256) : ((c + 256 * y) / 2 &&& (85 + 256 * M)) + ((c + 256 * y) &&& (85 + 256 * M)) = ((c / 2 &&& 85) + (c &&& 85)) + 256 * ((y / 2 &&& M) + (y &&& M)) := by
  rw [show (c + 256 * y) / 2 = (c / 2 + 128 * (y % 2)) + 256 * (y / 2) by omega, and_byte _ _ _ _ (by omega) (by omega), and_byte _ _ _ _ hc (by omega), byte1 _ (by omega) _ (by omega)]
  omega
theorem step2 (c y M : Nat) (hc : c < 256) : ((c + 256 * y) / 4 &&& (51 + 256 * M)) + ((c + 256 * y) &&& (51 + 256 * M)) = ((c / 4 &&& 51) + (c &&& 51)) + 256 * ((y / 4 &&& M) + (y &&& M)) := by
  rw [show (c + 256 * y) / 4 = (c / 4 + 64 * (y % 4)) + 256 * (y / 4) by omega, and_byte _ _ _ _ (by omega) (by omega), and_byte _ _ _ _ hc (by omega), byte2 _ (by omega) _ (by omega)]
  omega
theorem step3 (c y M : Nat) (hc : c ≤ 68) (hy : y % 16 ≤ 4) : ((c + 256 * y) / 16 + (c + 256 * y)) &&& (15 + 256 * M) = ((c / 16 + c) &&& 15) + 256 * ((y / 16 + y) &&& M) := by
  rw [show (c + 256 * y) / 16 + (c + 256 * y) = ((c / 16 + c) + 16 * (y % 16)) + 256 * (y / 16 + y) by omega, and_byte _ _ _ _ (by omega) (by omega), byte3 _ (by omega) _ (by omega)]
def q1 (c : Nat) : Nat := (c / 2 &&& 85) + (c &&& 85)
def q2 (c : Nat) : Nat := (c / 4 &&& 51) + (c &&& 51)
def q3 (c : Nat) : Nat := (c / 16 + c) &&& 15
theorem q_spec : ∀ c, c < 256 → q1 c < 256 ∧ q2 (q1 c) ≤ 68 ∧ q2 (q1 c) % 16 ≤ 4 ∧ q3 (q2 (q1 c)) = pc 8 c ∧ pc 8 c ≤ 8 := by decide +kernel

/-- The count as the library reckons it. -/
def swar (w : Nat) : Nat :=
  let a := (w / 2 &&& 6148914691236517205) + (w &&& 6148914691236517205)
  let b := (a / 4 &&& 3689348814741910323) + (a &&& 3689348814741910323)
  (b / 16 + b) &&& 1085102592571150095
theorem swar_eq (c0 c1 c2 c3 : Nat) (h0 : c0 < 256) (h1 : c1 < 256) (h2 : c2 < 256) (h3 : c3 < 256) :
    swar (c0 + 256 * (c1 + 256 * (c2 + 256 * c3))) = pc 8 c0 + 256 * (pc 8 c1 + 256 * (pc 8 c2 + 256 * pc 8 c3)) := by
  obtain ⟨a0, b0, d0, e0, _⟩ := q_spec c0 h0
  obtain ⟨a1, b1, d1, e1, _⟩ := q_spec c1 h1
  obtain ⟨a2, b2, d2, e2, _⟩ := q_spec c2 h2
  obtain ⟨a3, b3, d3, e3, _⟩ := q_spec c3 h3
  have s1 : ((c0 + 256 * (c1 + 256 * (c2 + 256 * (c3 + 256 * 0)))) / 2 &&& 6148914691236517205) + ((c0 + 256 * (c1 + 256 * (c2 + 256 * (c3 + 256 * 0)))) &&& 6148914691236517205) = q1 c0 + 256 * (q1 c1 + 256 * (q1 c2 + 256 * (q1 c3 + 256 * 0))) := by
    rw [show (6148914691236517205 : Nat) = 85 + 256 * (85 + 256 * (85 + 256 * (85 + 256 * 1431655765))) from rfl, step1 _ _ _ h0, step1 _ _ _ h1, step1 _ _ _ h2, step1 _ _ _ h3]
    simp [q1]
  have s2 : ((q1 c0 + 256 * (q1 c1 + 256 * (q1 c2 + 256 * (q1 c3 + 256 * 0)))) / 4 &&& 3689348814741910323) + ((q1 c0 + 256 * (q1 c1 + 256 * (q1 c2 + 256 * (q1 c3 + 256 * 0)))) &&& 3689348814741910323) = q2 (q1 c0) + 256 * (q2 (q1 c1) + 256 * (q2 (q1 c2) + 256 * (q2 (q1 c3) + 256 * 0))) := by
    rw [show (3689348814741910323 : Nat) = 51 + 256 * (51 + 256 * (51 + 256 * (51 + 256 * 858993459))) from rfl, step2 _ _ _ a0, step2 _ _ _ a1, step2 _ _ _ a2, step2 _ _ _ a3]
    simp [q2]
  have s3 : ((q2 (q1 c0) + 256 * (q2 (q1 c1) + 256 * (q2 (q1 c2) + 256 * (q2 (q1 c3) + 256 * 0)))) / 16 + (q2 (q1 c0) + 256 * (q2 (q1 c1) + 256 * (q2 (q1 c2) + 256 * (q2 (q1 c3) + 256 * 0))))) &&& 1085102592571150095 = q3 (q2 (q1 c0)) + 256 * (q3 (q2 (q1 c1)) + 256 * (q3 (q2 (q1 c2)) + 256 * (q3 (q2 (q1 c3)) + 256 * 0))) := by
    rw [show (1085102592571150095 : Nat) = 15 + 256 * (15 + 256 * (15 + 256 * (15 + 256 * 252645135))) from rfl, step3 _ _ _ b0 (by omega), step3 _ _ _ b1 (by omega), step3 _ _ _ b2 (by omega), step3 _ _ _ b3 (by omega)]
    simp [q3]
  have e : c0 + 256 * (c1 + 256 * (c2 + 256 * c3)) = c0 + 256 * (c1 + 256 * (c2 + 256 * (c3 + 256 * 0))) := by omega
  unfold swar
  rw [e]
  simp only [s1, s2, s3]
  rw [e0, e1, e2, e3]
  omega
theorem swar_sum (q0 q1 q2 q3 : Nat) (h0 : q0 ≤ 8) (h1 : q1 ≤ 8) (h2 : q2 ≤ 8) (h3 : q3 ≤ 8) (x y z u : Nat) (hx : x = q0 + 256 * (q1 + 256 * (q2 + 256 * q3))) (hy : y = x + x / 256) (hz : z = y + y / 65536) (hu : u = z + z / 4294967296) :
    u % 128 = q0 + (q1 + (q2 + q3)) ∧ u < 9223372036854775808 ∧ x < 4294967296 ∧ y < 8589934592 ∧ z < 17179869184 := by
  have e1 : x / 256 = q1 + 256 * (q2 + 256 * q3) := by omega
  have e2 : y = (q0 + q1 + 256 * (q1 + q2)) + 65536 * (q2 + q3 + 256 * q3) := by omega
  have e3 : y / 65536 = q2 + q3 + 256 * q3 := by omega
  have e4 : z = (q0 + (q1 + (q2 + q3))) + 256 * (q1 + q2 + q3 + 256 * (q2 + q3 + 256 * q3)) := by omega
  have e5 : z / 4294967296 = 0 := by omega
  have e6 : u = z := by omega
  have e7 : u % 128 = q0 + (q1 + (q2 + q3)) := by omega
  exact ⟨e7, by omega, by omega, by omega, by omega⟩

theorem wrapU_small (n : Int) (h0 : 0 ≤ n) (h1 : n < 2 ^ 64) : IntKind.u64.wrap n = n := by
  rw [IntKind.wrap_u64]
  have : (2 : Int) ^ 64 = 18446744073709551616 := by decide
  omega
theorem wu64_nat (n : Nat) (h : n < 18446744073709551616) : wu64 (n : Int) = n := by
  have : (2 : Int) ^ 64 = 18446744073709551616 := by decide
  exact wrapU_small _ (by omega) (by omega)
theorem bAndU (a b : Nat) (ha : a < 2 ^ 64) (hb : b < 2 ^ 64) : bits .and .u64 (a : Int) (b : Int) = ((a &&& b : Nat) : Int) := (bits_nat .u64 64 (by decide) wrapU_small a b ha hb).1
theorem shrU (a n : Nat) (hn : n ≤ 64) : shrI .u64 (a : Int) (n : Int) = ((a / 2 ^ n : Nat) : Int) := by
  have e : IntKind.u64.bits = 64 := rfl
  simp only [shrI, Int.toNat_natCast, e]
  rw [Nat.min_eq_left hn]; simp

def g1 (a : Int) : Int := wu64 (bits .and .u64 (shrI .u64 a 1) 6148914691236517205 + bits .and .u64 a 6148914691236517205)
def g2 (a : Int) : Int := wu64 (bits .and .u64 (shrI .u64 a 2) 3689348814741910323 + bits .and .u64 a 3689348814741910323)
def g3 (a : Int) : Int := bits .and .u64 (wu64 (shrI .u64 a 4 + a)) 1085102592571150095
def g4 (a : Int) : Int := wu64 (a + shrI .u64 a 8)
def g5 (a : Int) : Int := wu64 (a + shrI .u64 a 16)
def g6 (a : Int) : Int := wu64 (a + shrI .u64 a 32)
theorem g1_nat (w : Nat) (h : w < 9223372036854775808) : g1 (w : Int) = (((w / 2 &&& 6148914691236517205) + (w &&& 6148914691236517205) : Nat) : Int) := by
  have e1 := shrU w 1 (by omega)
  have e2 := bAndU (w / 2 ^ 1) 6148914691236517205 (by omega) (by omega)
  have e3 := bAndU w 6148914691236517205 (by omega) (by omega)
  have l1 : w / 2 ^ 1 &&& 6148914691236517205 ≤ 6148914691236517205 := Nat.and_le_right
  have l2 : w &&& 6148914691236517205 ≤ 6148914691236517205 := Nat.and_le_right
  have e4 := wu64_nat ((w / 2 ^ 1 &&& 6148914691236517205) + (w &&& 6148914691236517205)) (by omega)
  unfold g1
  rw [show (1 : Int) = ((1 : Nat) : Int) from rfl, show (6148914691236517205 : Int) = ((6148914691236517205 : Nat) : Int) from rfl, e1, e2, e3, ← Int.natCast_add, e4]
theorem g2_nat (w : Nat) (h : w < 18446744073709551616) : g2 (w : Int) = (((w / 4 &&& 3689348814741910323) + (w &&& 3689348814741910323) : Nat) : Int) := by
  have e1 := shrU w 2 (by omega)
  have e2 := bAndU (w / 2 ^ 2) 3689348814741910323 (by omega) (by omega)
  have e3 := bAndU w 3689348814741910323 (by omega) (by omega)
  have l1 : w / 2 ^ 2 &&& 3689348814741910323 ≤ 3689348814741910323 := Nat.and_le_right
  have l2 : w &&& 3689348814741910323 ≤ 3689348814741910323 := Nat.and_le_right
  have e4 := wu64_nat ((w / 2 ^ 2 &&& 3689348814741910323) + (w &&& 3689348814741910323)) (by omega)
  unfold g2
  rw [show (2 : Int) = ((2 : Nat) : Int) from rfl, show (3689348814741910323 : Int) = ((3689348814741910323 : Nat) : Int) from rfl, e1, e2, e3, ← Int.natCast_add, e4]
theorem g3_nat (w : Nat) (h : w < 9223372036854775808) : g3 (w : Int) = (((w / 16 + w) &&& 1085102592571150095 : Nat) : Int) := by
  have e1 := shrU w 4 (by omega)
  have e4 := wu64_nat (w / 2 ^ 4 + w) (by omega)
  have e2 := bAndU (w / 2 ^ 4 + w) 1085102592571150095 (by omega) (by omega)
  unfold g3
  rw [show (4 : Int) = ((4 : Nat) : Int) from rfl, show (1085102592571150095 : Int) = ((1085102592571150095 : Nat) : Int) from rfl, e1, ← Int.natCast_add, e4, e2]
theorem g4_nat (w : Nat) (h : w < 9223372036854775808) : g4 (w : Int) = ((w + w / 256 : Nat) : Int) := by
  have e1 := shrU w 8 (by omega)
  have e4 := wu64_nat (w + w / 2 ^ 8) (by omega)
  unfold g4
  rw [show (8 : Int) = ((8 : Nat) : Int) from rfl, e1, ← Int.natCast_add, e4]
theorem g5_nat (w : Nat) (h : w < 9223372036854775808) : g5 (w : Int) = ((w + w / 65536 : Nat) : Int) := by
  have e1 := shrU w 16 (by omega)
  have e4 := wu64_nat (w + w / 2 ^ 16) (by omega)
  unfold g5
  rw [show (16 : Int) = ((16 : Nat) : Int) from rfl, e1, ← Int.natCast_add, e4]
theorem g6_nat (w : Nat) (h : w < 9223372036854775808) : g6 (w : Int) = ((w + w / 4294967296 : Nat) : Int) := by
  have e1 := shrU w 32 (by omega)
  have e4 := wu64_nat (w + w / 2 ^ 32) (by omega)
  unfold g6
  rw [show (32 : Int) = ((32 : Nat) : Int) from rfl, e1, ← Int.natCast_add, e4]

theorem math_bits_OnesCount64_eq (N w : Nat) (hw : w < 4294967296) (k : Int → Option β) : j116 N (w : Int) k = k (ones w : Int) := by
  have e : j116 N (w : Int) k = k (bits .and .i64 (w64 (g6 (g5 (g4 (g3 (g2 (g1 (w : Int)))))))) 127) := rfl
  rw [e]
  congr 1
  have l1 : w / 2 &&& 6148914691236517205 ≤ w / 2 := Nat.and_le_left
  have l2 : w &&& 6148914691236517205 ≤ w := Nat.and_le_left
  rw [g1_nat w (by omega)]
  generalize hA : (w / 2 &&& 6148914691236517205) + (w &&& 6148914691236517205) = A
  have l3 : A / 4 &&& 3689348814741910323 ≤ A / 4 := Nat.and_le_left
  have l4 : A &&& 3689348814741910323 ≤ A := Nat.and_le_left
  rw [g2_nat A (by omega)]
  generalize hB : (A / 4 &&& 3689348814741910323) + (A &&& 3689348814741910323) = B
  rw [g3_nat B (by omega)]
  have hC : (B / 16 + B) &&& 1085102592571150095 = swar w := by rw [← hB, ← hA]; rfl
  rw [hC]
  have hb : w = (w % 256) + 256 * ((w / 256 % 256) + 256 * ((w / 65536 % 256) + 256 * (w / 16777216))) := by omega
  have b0 := q_spec (w % 256) (by omega)
  have b1 := q_spec (w / 256 % 256) (by omega)
  have b2 := q_spec (w / 65536 % 256) (by omega)
  have b3 := q_spec (w / 16777216) (by omega)
  have hs := swar_eq (w % 256) (w / 256 % 256) (w / 65536 % 256) (w / 16777216) (by omega) (by omega) (by omega) (by omega)
  have ho := ones_bytes (w % 256) (w / 256 % 256) (w / 65536 % 256) (w / 16777216) (by omega) (by omega) (by omega) (by omega)
  rw [← hb] at hs ho
  obtain ⟨r1, r2, r3, r4, r5⟩ := swar_sum _ _ _ _ b0.2.2.2.2 b1.2.2.2.2 b2.2.2.2.2 b3.2.2.2.2 (swar w) _ _ _ hs rfl rfl rfl
  rw [g4_nat _ (by omega), g5_nat _ (by omega), g6_nat _ (by omega), w64_nat _ r2]
  have ha := bAnd (swar w + swar w / 256 + (swar w + swar w / 256) / 65536 + (swar w + swar w / 256 + (swar w + swar w / 256) / 65536) / 4294967296) 127 (by omega) (by omega)
  rw [show (127 : Int) = ((127 : Nat) : Int) from rfl, ha, show (127 : Nat) = 2 ^ 7 - 1 from rfl, Nat.and_two_pow_sub_one_eq_mod, show (2 : Nat) ^ 7 = 128 from rfl, r1, ho]

theorem impl_ones_eq (N w : Nat) (hw : w < 4294967296) (k : Int → Option β) : j117 N (w : Int) k = k (ones w : Int) := by
  unfold j117
  rw [wu64_nat w (by omega), math_bits_OnesCount64_eq N w hw]

theorem spec_l2Count_eq (N w : Nat) (hN : 64 < N) (hw : w < 4294967296) (k : Int → Option β) : j27 N (w : Int) k = k (ones w : Int) := by
  have key : ∀ (f F n w : Nat), f < F → w < 2 ^ f → n + f < 1000 → w < 4294967296 → j26 N F (n : Int) (w : Int) k = k ((n + pc f w : Nat) : Int) := by
    intro f
    induction f with
    | zero =>
      intro F n w hF hw _ _
      obtain ⟨F, rfl⟩ : ∃ G, F = G + 1 := ⟨F - 1, by omega⟩
      have : w = 0 := by simpa using hw
      subst this
      simp only [j26, j25, pc]
      rfl
    | succ f ih =>
      intro F n w hF hw hn hw'
      obtain ⟨F, rfl⟩ : ∃ G, F = G + 1 := ⟨F - 1, by omega⟩
      simp only [j26, j25, pc]
      by_cases h0 : w = 0
      · subst h0
        have z : ∀ f, pc f 0 = 0 := fun f => by
          induction f with
          | zero => rfl
          | succ f ih => simp [pc, ih]
        simp [z]
      · have ha := bAnd w 1 (by omega) (by omega)
        rw [decide_eq_true (by omega : (w : Int) > 0), cond_true, show (1 : Int) = ((1 : Nat) : Int) from rfl, ha, shr_nat w 1 (by omega), Nat.and_one_is_mod, ← Int.natCast_add, w64_nat _ (by omega)]
        rw [ih F (n + w % 2) (w / 2 ^ 1) (by omega) (by rw [Nat.pow_succ] at hw; omega) (by omega) (by omega)]
        congr 2
        simp only [Nat.pow_one]
        omega
  have := key 32 N 0 w (by omega) hw (by omega) hw
  simpa [ones, j27] using this
end Go.Proofs.YtignjkbhdaiegaaGreatDoor
namespace Go.Proofs.YtignjkbhdaiegaaGreatDoor
open Go.Rv
set_option linter.unusedVariables false
variable {β : Type}
/-- How many numbers below one are such. -/
def cnt (g : Nat → Bool) : Nat → Nat
  | 0 => 0
  | m + 1 => cnt g m + (if g m then 1 else 0)
theorem cnt_le (g : Nat → Bool) : ∀ m, cnt g m ≤ m
  | 0 => Nat.le_refl _
  | m + 1 => by have := cnt_le g m; simp only [cnt]; split <;> omega
theorem cnt_congr {g h : Nat → Bool} : ∀ {m : Nat}, (∀ i, i < m → g i = h i) → cnt g m = cnt h m
  | 0, _ => rfl
  | m + 1, e => by simp only [cnt]; rw [cnt_congr (m := m) fun i hi => e i (by omega), e m (by omega)]
/-- Whether a variable matters at an input. -/
def edge (w i x : Nat) : Bool := w.testBit x != w.testBit (x ^^^ 2 ^ i)
def infl (w i m : Nat) : Nat := cnt (edge w i) m
def infls (w n m : Nat) : List Int := (List.range m).map fun i => ((infl w i (2 ^ n) : Nat) : Int)
theorem infls_len (w n m : Nat) : (infls w n m).length = m := by simp [infls]
theorem infls_get (w n m i : Nat) (h : i < m) : (infls w n m)[i]? = some ((infl w i (2 ^ n) : Nat) : Int) := by simp [infls, h]

theorem spec_bit2 (w x y : Nat) (hw : w < 4294967296) : bits .and .i64 (bits .xor .i64 (shrI .i64 (w : Int) (x : Int)) (shrI .i64 (w : Int) (y : Int))) 1 = ((if w.testBit x != w.testBit y then 1 else 0 : Nat) : Int) := by
  have h1 : w / 2 ^ x < 2 ^ 63 := Nat.lt_of_le_of_lt (Nat.div_le_self _ _) (by omega)
  have h2 : w / 2 ^ y < 2 ^ 63 := Nat.lt_of_le_of_lt (Nat.div_le_self _ _) (by omega)
  rw [shr_nat w x (by omega), shr_nat w y (by omega), bXor _ _ h1 h2]
  have h3 : w / 2 ^ x ^^^ w / 2 ^ y < 2 ^ 63 := Nat.xor_lt_two_pow h1 h2
  have h4 := bit_at (w / 2 ^ x ^^^ w / 2 ^ y) 0 (by omega)
  have h5 : shrI .i64 ((w / 2 ^ x ^^^ w / 2 ^ y : Nat) : Int) ((0 : Nat) : Int) = ((w / 2 ^ x ^^^ w / 2 ^ y : Nat) : Int) := by
    rw [shr_nat _ 0 (by omega)]; simp
  rw [h5] at h4
  rw [h4]
  have e : ∀ m x : Nat, (m / 2 ^ x).testBit 0 = m.testBit x := fun m x => by
    rw [Nat.testBit_zero, Nat.testBit, Nat.shiftRight_eq_div_pow, Nat.and_comm, Nat.and_one_is_mod]
    have := Nat.mod_two_eq_zero_or_one (m / 2 ^ x)
    rcases this with h | h <;> simp [h]
  rw [Nat.testBit_xor, e, e]

theorem impl_influence_eq (N : Nat) (hN : 64 < N) (n w i : Nat) (hn : n ≤ 5) (hi : i < n) (hw : w < 2 ^ 2 ^ n) (k : Int → Option β) :
    j158 N (n : Int) (w : Int) (i : Int) k = k (infl w i (2 ^ n) : Int) := by
  have hw' := two32 hn hw
  have hs := size_le hn
  unfold j158 j90
  rw [shl_one n (by omega), decide_eq_true (by omega : (0 : Int) ≤ (n : Int)), gd_true rfl]
  have key : ∀ (F x : Nat), 2 ^ n - x < F → x ≤ 2 ^ n → j157 N F (i : Int) (infl w i x : Int) ((2 ^ n : Nat) : Int) (x : Int) (n : Int) (w : Int) k = k (infl w i (2 ^ n) : Int) := by
    intro F
    induction F with
    | zero => intro x h; omega
    | succ F ih =>
      intro x hF hx
      have hc := cnt_le (edge w i) x
      simp only [j157, j156, j95, j94]
      by_cases hlt : x < 2 ^ n
      · have hp : 2 ^ i < 2 ^ 5 := Nat.pow_lt_pow_right (by decide) (by omega)
        have hxp : x ^^^ 2 ^ i < 2 ^ 5 := Nat.xor_lt_two_pow (by omega) hp
        rw [decide_eq_true (by omega : (x : Int) < ((2 ^ n : Nat) : Int)), decide_eq_true (by omega : (0 : Int) ≤ (x : Int)), decide_eq_true (by omega : (0 : Int) ≤ (i : Int)), shl_one i (by omega), bXor x (2 ^ i) (by omega) (by omega), decide_eq_true (by omega : (0 : Int) ≤ ((x ^^^ 2 ^ i : Nat) : Int)), bit_at w x (by omega), bit_at w _ (by omega), w64_succ x (by omega), w64_succ (infl w i x) (by unfold infl; omega)]
        simp only [cond_true, gd_true rfl]
        have e : ((((if w.testBit x then 1 else 0 : Nat) : Int)) != ((if w.testBit (x ^^^ 2 ^ i) then 1 else 0 : Nat) : Int)) = edge w i x := by
          unfold edge
          cases w.testBit x <;> cases w.testBit (x ^^^ 2 ^ i) <;> rfl
        rw [e]
        have h1 := ih (x + 1) (by omega) (by omega)
        have h2 : infl w i (x + 1) = infl w i x + (if edge w i x then 1 else 0) := rfl
        rw [h2] at h1
        cases he : edge w i x with
        | true => rw [he] at h1; exact h1
        | false => rw [he] at h1; exact h1
      · rw [decide_eq_false (by omega : ¬ (x : Int) < ((2 ^ n : Nat) : Int)), cond_false, show x = 2 ^ n by omega]
  exact key N 0 (by omega) (Nat.zero_le _)

theorem impl_influences_eq (N : Nat) (hN : 64 < N) (n w : Nat) (hn : n ≤ 5) (hw : w < 2 ^ 2 ^ n) (k : List Int → Option β) :
    j161 N (n : Int) (w : Int) k = k (infls w n n) := by
  unfold j161
  rw [decide_eq_true (by omega : (0 : Int) ≤ (n : Int)), decide_eq_true (Int.le_refl (n : Int)), decide_eq_true (by omega : 8 * (n : Int) ≤ 281474976710656), gd_true rfl, gd_true rfl, gd_true rfl, List.length_replicate, Int.toNat_natCast]
  have key : ∀ (F i : Nat) (m : List Int), n - i < F → i ≤ n → m.length = n → (∀ j, j < i → m[j]? = (infls w n n)[j]?) →
      j160 N F (n : Int) (i : Int) (n : Int) (w : Int) m k = k (infls w n n) := by
    intro F
    induction F with
    | zero => intro i m h; omega
    | succ F ih =>
      intro i m hF hi hm heq
      simp only [j160, j159]
      by_cases hlt : i < n
      · rw [decide_eq_true (by omega : (i : Int) < (n : Int)), cond_true, impl_influence_eq N hN n w i hn hlt hw, hm, decide_eq_true (by omega : (i : Int) < (n : Int)), decide_eq_true (by omega : (0 : Int) ≤ (i : Int)), w64_succ i (by omega), gd_true rfl, gd_true rfl]
        refine ih (i + 1) _ (by omega) (by omega) (by simp [wr, hm]) fun j hj => ?_
        simp only [wr, Int.toNat_natCast, List.getElem?_set]
        by_cases hij : i = j
        · subst hij
          have : i < m.length := by omega
          simp [this, infls_get w n n i hlt]
        · simp only [hij, if_false]
          exact heq j (by omega)
      · rw [decide_eq_false (by omega : ¬ (i : Int) < (n : Int)), cond_false]
        congr 1
        apply List.ext_getElem?
        intro j
        rcases Nat.lt_or_ge j i with h | h
        · exact heq j h
        · rw [List.getElem?_eq_none (by omega), List.getElem?_eq_none (by rw [infls_len]; omega)]
  exact key N 0 _ (by omega) (Nat.zero_le _) (by simp) (fun j hj => by omega)

end Go.Proofs.YtignjkbhdaiegaaGreatDoor
namespace Go.Proofs.YtignjkbhdaiegaaGreatDoor
open Go.Rv
set_option linter.unusedVariables false
set_option maxRecDepth 100000
variable {β : Type}
theorem xor_self_cancel (a b : Nat) : a ^^^ b ^^^ b = a := by rw [Nat.xor_assoc, Nat.xor_self, Nat.xor_zero]
theorem edge_sym (w i x : Nat) : edge w i (x ^^^ 2 ^ i) = edge w i x := by
  unfold edge
  rw [xor_self_cancel]
  cases w.testBit x <;> cases w.testBit (x ^^^ 2 ^ i) <;> rfl
/-- A word flipped at all of some inputs. -/
def flips (w : Nat) (l : List Int) : Nat := l.foldl (fun w x => w ^^^ 2 ^ x.toNat) w
end Go.Proofs.YtignjkbhdaiegaaGreatDoor
namespace Go.Proofs.YtignjkbhdaiegaaGreatDoor
open Go.Rv
set_option linter.unusedVariables false
variable {β : Type}
theorem spec_l2Full_eq (N n : Nat) (hn : n ≤ 5) (k : Int → Option β) : j75 N (n : Int) k = k ((2 ^ 2 ^ n - 1 : Nat) : Int) := by
  have hs := size_le hn
  have hp : 2 ^ 2 ^ n < 9223372036854775808 := pow_le_64 (by omega)
  have h1 := Nat.two_pow_pos (2 ^ n)
  unfold j75
  rw [shl_u64 n hn, shl_one (2 ^ n) (by omega), decide_eq_true (by omega : (0 : Int) ≤ (n : Int)), decide_eq_true (Int.natCast_nonneg (2 ^ n)), gd_true rfl, gd_true rfl, w64_id (by omega) (by omega)]
  congr 1
  omega

def smallT (a0 a1 m : Int) : Bool := isT a0 a1 && decide (a0 ≤ m)
theorem impl_isSmall_eq (N : Nat) (a0 a1 m : Int) (h1 : a1 < 9223372036854775808) (k : Bool → Option β) : j92 N a0 a1 m k = k (smallT a0 a1 m) := by
  unfold j92 smallT
  rw [impl_IsTable_eq N a0 a1 h1]
  cases isT a0 a1 <;> rfl
end Go.Proofs.YtignjkbhdaiegaaGreatDoor
namespace Go.Proofs.YtignjkbhdaiegaaGreatDoor
open Go.Rv
set_option linter.unusedVariables false
variable {β : Type}
theorem ys_bit : ∀ x, x < 32 → ∀ i, i < 5 → ∀ b, b < 2 → ys x i b = if x.testBit i == (b == 1) then x else x ^^^ 2 ^ i := by decide +kernel

theorem sees_eq (w n x i b : Nat) (hn : n ≤ 5) (hi : i < n) (hb : b < 2) (hx : x < 2 ^ n) : sees w n x i b = (x.testBit i != (b == 1) && edge w i x) := by
  have hs := size_le hn
  unfold sees edge
  rw [Nat.testBit_xor, tabw_bit, decide_eq_true hx, Bool.true_and, ys_bit x (by omega) i (by omega) b hb]
  cases h : x.testBit i == (b == 1) with
  | true =>
    simp only [if_true]
    simp only [bne, h, Bool.not_true, Bool.false_and, Bool.xor_self]
  | false =>
    simp only [Bool.false_eq_true, if_false]
    simp only [bne, h, Bool.not_false, Bool.true_and]
    try (cases w.testBit x <;> cases w.testBit (x ^^^ 2 ^ i) <;> rfl)

theorem elems_count (d : Nat) : ∀ m, (elems d m).length = cnt d.testBit m
  | 0 => rfl
  | m + 1 => by
    simp only [elems, cnt, ← elems_count d m, addIf]
    cases d.testBit m <;> simp

theorem cnt_range (g : Nat → Bool) : ∀ m, cnt g m = (List.range m).countP g
  | 0 => rfl
  | m + 1 => by
    rw [List.range_succ, List.countP_append, cnt, cnt_range g m]
    simp [List.countP_cons]

theorem flip_perm : ∀ n, n ≤ 5 → ∀ i, i < n → (((List.range (2 ^ n)).map fun x => x ^^^ 2 ^ i).isPerm (List.range (2 ^ n))) = true := by decide +kernel
theorem flip_bit : ∀ x, x < 32 → ∀ i, i < 5 → (x ^^^ 2 ^ i).testBit i = !x.testBit i := by decide +kernel
theorem infl_half (w n i b : Nat) (hn : n ≤ 5) (hi : i < n) (hb : b < 2) (hw : w < 2 ^ 2 ^ n) : infl w i (2 ^ n) = 2 * (elems (w ^^^ stuckw w n i b) 32).length := by
  have hs := size_le hn
  have hd : w ^^^ stuckw w n i b < 2 ^ 2 ^ n := Nat.xor_lt_two_pow hw (stuckw_lt w n i b)
  have e1 : elems (w ^^^ stuckw w n i b) 32 = elems (w ^^^ stuckw w n i b) (2 ^ n) := by
    have := elems_more (w ^^^ stuckw w n i b) (2 ^ n) hd (32 - 2 ^ n)
    rw [show 2 ^ n + (32 - 2 ^ n) = 32 by omega] at this
    exact this
  rw [e1, elems_count]
  have e2 : cnt (w ^^^ stuckw w n i b).testBit (2 ^ n) = cnt (fun x => x.testBit i != (b == 1) && edge w i x) (2 ^ n) := cnt_congr fun x hx => sees_eq w n x i b hn hi hb hx
  have e3 : cnt (fun x => x.testBit i != (b == 1) && edge w i x) (2 ^ n) = cnt (fun x => x.testBit i == (b == 1) && edge w i x) (2 ^ n) := by
    rw [cnt_range, cnt_range]
    have hp := (List.isPerm_iff.1 (flip_perm n hn i hi)).countP_eq (fun x => x.testBit i == (b == 1) && edge w i x)
    rw [List.countP_map] at hp
    rw [← hp]
    apply List.countP_congr
    intro x hx
    have hx := List.mem_range.1 hx
    simp only [Function.comp]
    rw [edge_sym, flip_bit x (by omega) i (by omega)]
    cases x.testBit i <;> cases (b == 1) <;> cases edge w i x <;> decide
  have e4 : infl w i (2 ^ n) = cnt (fun x => x.testBit i != (b == 1) && edge w i x) (2 ^ n) + cnt (fun x => x.testBit i == (b == 1) && edge w i x) (2 ^ n) := by
    unfold infl
    generalize 2 ^ n = m
    induction m with
    | zero => rfl
    | succ m ih =>
      simp only [cnt]
      rw [ih]
      rcases Bool.eq_false_or_eq_true (m.testBit i) with h1 | h1 <;> rcases Bool.eq_false_or_eq_true (b == 1) with h2 | h2 <;> rcases Bool.eq_false_or_eq_true (edge w i m) with h3 | h3 <;> simp only [h1, h2, h3] <;> simp <;> omega
  rw [e4, e2, ← e3]
  omega
end Go.Proofs.YtignjkbhdaiegaaGreatDoor
namespace Go.Proofs.YtignjkbhdaiegaaGreatDoor
open Go.Rv
set_option linter.unusedVariables false
variable {β : Type}
theorem remI_len (m : Nat) (c : Nat) (hc : 0 < c) : remI (m : Int) (c : Int) = ((m % c : Nat) : Int) := by
  unfold remI
  exact (Int.ofNat_tmod m c).symm
/-- How many variables matter at an input. -/
def sens (w n x : Nat) : Nat := cnt (fun i => edge w i x) n
theorem impl_sensitivity_eq (N : Nat) (hN : 64 < N) (n w x : Nat) (hn : n ≤ 5) (hw : w < 2 ^ 2 ^ n) (hx : x < 2 ^ n) (k : Int → Option β) :
    j98 N (n : Int) (w : Int) (x : Int) k = k (sens w n x : Int) := by
  have hw' := two32 hn hw
  have hs := size_le hn
  unfold j98
  have key : ∀ (F i : Nat), n - i < F → i ≤ n → j97 N F (x : Int) (cnt (fun i => edge w i x) i : Int) (n : Int) (i : Int) (n : Int) (w : Int) k = k (sens w n x : Int) := by
    intro F
    induction F with
    | zero => intro i h; omega
    | succ F ih =>
      intro i hF hi
      have hc := cnt_le (fun i => edge w i x) i
      simp only [j97, j96, j95, j94]
      by_cases hlt : i < n
      · have hp : 2 ^ i < 2 ^ 5 := Nat.pow_lt_pow_right (by decide) (by omega)
        have hxp : x ^^^ 2 ^ i < 2 ^ 5 := Nat.xor_lt_two_pow (by omega) hp
        rw [decide_eq_true (by omega : (i : Int) < (n : Int)), decide_eq_true (by omega : (0 : Int) ≤ (x : Int)), decide_eq_true (by omega : (0 : Int) ≤ (i : Int)), shl_one i (by omega), bXor x (2 ^ i) (by omega) (by omega), decide_eq_true (by omega : (0 : Int) ≤ ((x ^^^ 2 ^ i : Nat) : Int)), bit_at w x (by omega), bit_at w _ (by omega), w64_succ i (by omega), w64_succ (cnt (fun i => edge w i x) i) (by omega)]
        simp only [cond_true, gd_true rfl]
        have e : ((((if w.testBit x then 1 else 0 : Nat) : Int)) != ((if w.testBit (x ^^^ 2 ^ i) then 1 else 0 : Nat) : Int)) = edge w i x := by
          unfold edge
          cases w.testBit x <;> cases w.testBit (x ^^^ 2 ^ i) <;> rfl
        rw [e]
        have h1 := ih (i + 1) (by omega) (by omega)
        have h2 : cnt (fun i => edge w i x) (i + 1) = cnt (fun i => edge w i x) i + (if edge w i x then 1 else 0) := rfl
        rw [h2] at h1
        cases he : edge w i x with
        | true => rw [he] at h1; exact h1
        | false => rw [he] at h1; exact h1
      · rw [decide_eq_false (by omega : ¬ (i : Int) < (n : Int)), cond_false, show i = n by omega]
        rfl
  exact key N 0 (by omega) (Nat.zero_le _)
end Go.Proofs.YtignjkbhdaiegaaGreatDoor
namespace Go.Proofs.YtignjkbhdaiegaaGreatDoor
open Go.Rv
set_option linter.unusedVariables false
variable {β : Type}
end Go.Proofs.YtignjkbhdaiegaaGreatDoor
