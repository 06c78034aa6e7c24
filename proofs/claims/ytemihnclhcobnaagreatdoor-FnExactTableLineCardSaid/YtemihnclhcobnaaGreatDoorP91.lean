/- Plain laws of the texts. -/
import Derived.Test.YtemihnclhcobnaaGreatDoorT0
import Derived.Test.YtemihnclhcobnaaGreatDoorRvNum
import Derived.Lib.Join
namespace Go.Proofs.YtemihnclhcobnaaGreatDoor
open Go.Rv

variable {β : Type}
end Go.Proofs.YtemihnclhcobnaaGreatDoor
namespace Go.Proofs.YtemihnclhcobnaaGreatDoor
open Go.Rv
variable {β : Type}

end Go.Proofs.YtemihnclhcobnaaGreatDoor
namespace Go.Proofs.YtemihnclhcobnaaGreatDoor
open Go.Rv
set_option linter.unusedVariables false
variable {β : Type}
def tabw (g : Nat → Bool) : Nat → Nat
  | 0 => 0
  | i + 1 => tabw g i ||| (if g i then 2 ^ i else 0)
theorem tabw_lt (g : Nat → Bool) : ∀ i, tabw g i < 2 ^ i
  | 0 => by simp [tabw]
  | i + 1 => by
    have := tabw_lt g i
    unfold tabw
    have h2 : 2 ^ (i + 1) = 2 ^ i + 2 ^ i := by rw [Nat.pow_succ]; omega
    refine Nat.or_lt_two_pow (by omega) ?_
    split
    · have := Nat.two_pow_pos i; omega
    · exact Nat.two_pow_pos _
theorem tabw_congr {g h : Nat → Bool} : ∀ {n : Nat}, (∀ i, i < n → g i = h i) → tabw g n = tabw h n
  | 0, _ => rfl
  | n + 1, e => by
    unfold tabw
    rw [tabw_congr (n := n) fun i hi => e i (by omega), e n (by omega)]

theorem pow_le_64 {n : Nat} (h : n ≤ 62) : 2 ^ n < 9223372036854775808 := Nat.lt_of_le_of_lt (Nat.pow_le_pow_right (by decide) h) (by decide)
theorem size_le {n : Nat} (h : n ≤ 5) : 2 ^ n ≤ 32 := Nat.le_trans (Nat.pow_le_pow_right (by decide) h) (by decide)

theorem shl_one (n : Nat) (h : n ≤ 62) : shlI .i64 1 (n : Int) = ((2 ^ n : Nat) : Int) := by
  have := shl_nat 1 n (by omega) (by rw [Nat.one_mul]; exact pow_le_64 h)
  rw [Nat.one_mul] at this
  exact this

theorem makeTable_loop (N : Nat) (h : Int → (Bool → Option β) → Option β) (g : Nat → Bool) (m : Nat) (hm : m ≤ 32) (hh : ∀ (x : Nat) k, x < m → h (x : Int) k = k (g x)) (k0 : Int → Int → Int → Int → Option β) (a b n : Int) :
    ∀ (F i : Nat), m - i < F → i ≤ m → zj113 N h F (m : Int) (i : Int) a b n (tabw g i : Int) k0 = k0 a b n (tabw g m : Int) := by
  intro F
  induction F with
  | zero => intro i hF; omega
  | succ F ih =>
    intro i hF hi
    simp only [zj113, zj112, zb112]
    by_cases hlt : i < m
    · rw [decide_eq_true (by omega : (i : Int) < (m : Int))]
      simp only [cond_true, hh i _ hlt]
      have h1 := ih (i + 1) (by omega) (by omega)
      rw [w64_succ i (by omega)]
      have hw : tabw g i < 2 ^ 63 := Nat.lt_of_lt_of_le (tabw_lt g i) (Nat.pow_le_pow_right (by decide) (by omega))
      cases hg : g i with
      | true =>
        have e : tabw g (i + 1) = tabw g i ||| 2 ^ i := by simp [tabw, hg]
        rw [e] at h1
        simp only [cond_true, gd_true (decide_eq_true (by omega : 0 ≤ (i : Int)))]
        rw [shl_one i (by omega), bOr _ _ hw (Nat.pow_lt_pow_right (by decide) (by omega))]
        exact h1
      | false =>
        have e : tabw g (i + 1) = tabw g i := by simp [tabw, hg]
        rw [e] at h1
        exact h1
    · have : i = m := by omega
      subst this
      rw [decide_eq_false (by omega : ¬ (i : Int) < (i : Int))]
      rfl

theorem makeTable_eq (N : Nat) (hN : 64 < N) (n : Nat) (hn : n ≤ 5) (h : Int → (Bool → Option β) → Option β) (g : Nat → Bool) (hh : ∀ (x : Nat) k, x < 2 ^ n → h (x : Int) k = k (g x)) (k : Int → Int → Option β) :
    zj114 N (n : Int) h k = k n (tabw g (2 ^ n) : Int) := by
  unfold zj114 zb114
  rw [gd_true (decide_eq_true (by omega)), shl_one n (by omega)]
  have := size_le hn
  exact makeTable_loop N h g (2 ^ n) this hh (fun _ _ e2 e3 => k e2 e3) 0 0 n N 0 (by omega) (Nat.zero_le _)

def ys (x i b : Nat) : Nat := x - (x &&& 2 ^ i) + b * 2 ^ i
theorem bit_at (w y : Nat) (hw : w < 9223372036854775808) : bits .and .i64 (shrI .i64 (w : Int) (y : Int)) 1 = ((if w.testBit y then 1 else 0 : Nat) : Int) := by
  rw [shr_nat w y hw]
  have h1 : w / 2 ^ y < 2 ^ 63 := Nat.lt_of_le_of_lt (Nat.div_le_self _ _) hw
  have := bAnd (w / 2 ^ y) 1 h1 (by decide)
  rw [show ((1 : Nat) : Int) = 1 from rfl] at this
  rw [this, Nat.and_one_is_mod]
  congr 1
  rw [Nat.testBit, Nat.shiftRight_eq_div_pow, Nat.and_comm, Nat.and_one_is_mod]
  have := Nat.mod_two_eq_zero_or_one (w / 2 ^ y)
  rcases this with h | h <;> simp [h]

def isT (a0 a1 : Int) : Bool := decide (0 ≤ a0) && decide (a0 ≤ 5) && decide (0 ≤ a1) && decide (a1 < 2 ^ 2 ^ a0.toNat)

theorem isT_nat {a0 a1 : Int} (h : isT a0 a1 = true) : ∃ n w : Nat, a0 = n ∧ a1 = w ∧ n ≤ 5 ∧ w < 2 ^ 2 ^ n ∧ w < 4294967296 := by
  simp only [isT, Bool.and_eq_true, decide_eq_true_eq] at h
  obtain ⟨⟨⟨h1, h2⟩, h3⟩, h4⟩ := h
  obtain ⟨n, rfl⟩ := Int.eq_ofNat_of_zero_le h1
  obtain ⟨w, rfl⟩ := Int.eq_ofNat_of_zero_le h3
  simp only [Int.toNat_natCast] at h4
  have h5 : w < 2 ^ 2 ^ n := by exact_mod_cast h4
  have h6 : 2 ^ 2 ^ n ≤ 2 ^ 32 := Nat.pow_le_pow_right (by decide) (size_le (by omega))
  exact ⟨n, w, rfl, rfl, by omega, h5, by omega⟩

theorem shl_u64 : ∀ n : Nat, n ≤ 5 → shlI .u64 1 (n : Int) = ((2 ^ n : Nat) : Int) := by decide +kernel

theorem spec_IsTable_eq (N : Nat) (a0 a1 : Int) (k : Bool → Option β) : zj2 N a0 a1 k = k (isT a0 a1) := by
  unfold zj2 zb2 zj1 zb1
  by_cases h0 : 0 ≤ a0
  · rw [decide_eq_true (by omega : a0 ≥ 0)]
    simp only [cond_true]
    by_cases h5 : a0 ≤ 5
    · rw [decide_eq_true h5]
      obtain ⟨n, rfl⟩ := Int.eq_ofNat_of_zero_le h0
      have hn : n ≤ 5 := by omega
      have hs := size_le hn
      have hp := pow_le_64 (n := 2 ^ n) (by omega)
      have hpos := Nat.two_pow_pos (2 ^ n)
      simp only [cond_true]
      rw [gd_true rfl, shl_u64 n hn, gd_true (decide_eq_true (Int.natCast_nonneg _)), shl_one (2 ^ n) (by omega), w64_id (by omega) (by omega)]
      have e : isT (n : Int) a1 = (decide (0 ≤ a1) && decide (a1 < ((2 ^ 2 ^ n : Nat) : Int))) := by
        simp only [isT, Int.toNat_natCast, decide_eq_true (by omega : 0 ≤ (n : Int)), decide_eq_true (by omega : (n : Int) ≤ 5), Bool.true_and]
        push_cast
        rfl
      rw [e]
      by_cases h1 : 0 ≤ a1
      · rw [decide_eq_true (by omega : a1 ≥ 0)]
        simp only [cond_true, Bool.true_and]
        congr 1
        exact decide_eq_decide.2 (by omega)
      · rw [decide_eq_false (by omega : ¬ a1 ≥ 0)]; rfl
    · rw [decide_eq_false h5]
      simp [isT, h5]
  · rw [decide_eq_false (by omega : ¬ a0 ≥ 0)]
    simp [isT, h0]

theorem impl_IsTable_eq (N : Nat) (a0 a1 : Int) (h : a1 < 9223372036854775808) (k : Bool → Option β) : zj104 N a0 a1 k = k (isT a0 a1) := by
  unfold zj104 zb104 zj102 zb102 zj103 zb103
  by_cases h0 : 0 ≤ a0
  · rw [decide_eq_true (by omega : a0 ≥ 0)]
    simp only [cond_true]
    by_cases h5 : a0 ≤ 5
    · rw [decide_eq_true h5]
      obtain ⟨n, rfl⟩ := Int.eq_ofNat_of_zero_le h0
      have hn : n ≤ 5 := by omega
      have hs := size_le hn
      have hpos := Nat.two_pow_pos (2 ^ n)
      simp only [cond_true]
      rw [gd_true rfl]
      have e : isT (n : Int) a1 = (decide (0 ≤ a1) && decide (a1 < ((2 ^ 2 ^ n : Nat) : Int))) := by
        simp only [isT, Int.toNat_natCast, decide_eq_true (by omega : 0 ≤ (n : Int)), decide_eq_true (by omega : (n : Int) ≤ 5), Bool.true_and]
        push_cast
        rfl
      rw [e]
      by_cases h1 : 0 ≤ a1
      · obtain ⟨w, rfl⟩ := Int.eq_ofNat_of_zero_le h1
        rw [decide_eq_true (by omega : (w : Int) ≥ 0), shl_one n (by omega)]
        simp only [cond_true, Bool.true_and]
        rw [gd_true (decide_eq_true (Int.natCast_nonneg _)), shr_nat w (2 ^ n) (by omega)]
        congr 1
        have : w / 2 ^ 2 ^ n = 0 ↔ w < 2 ^ 2 ^ n := by
          rw [Nat.div_eq_zero_iff]
          omega
        by_cases hw : w < 2 ^ 2 ^ n
        · rw [this.2 hw, decide_eq_true (by omega)]; rfl
        · rw [decide_eq_false (by omega)]
          have : ¬ w / 2 ^ 2 ^ n = 0 := fun h => hw (this.1 h)
          simp only [beq_eq_false_iff_ne, ne_eq]
          omega
      · rw [decide_eq_false (by omega : ¬ a1 ≥ 0)]; rfl
    · rw [decide_eq_false h5]
      simp [isT, h5]
  · rw [decide_eq_false (by omega : ¬ a0 ≥ 0)]
    simp [isT, h0]
end Go.Proofs.YtemihnclhcobnaaGreatDoor
namespace Go.Proofs.YtemihnclhcobnaaGreatDoor
open Go.Rv
set_option linter.unusedVariables false
variable {β : Type}
theorem tabw_bit (g : Nat → Bool) : ∀ (n x : Nat), (tabw g n).testBit x = (decide (x < n) && g x)
  | 0, x => by simp [tabw]
  | n + 1, x => by
    unfold tabw
    rw [Nat.testBit_or, tabw_bit g n x]
    by_cases hx : x = n
    · subst hx
      cases hg : g x <;> simp [Nat.testBit_two_pow_self]
    · have h1 : (if g n then 2 ^ n else 0 : Nat).testBit x = false := by
        split
        · exact Nat.testBit_two_pow_of_ne (Ne.symm hx)
        · exact Nat.zero_testBit _
      rw [h1, Bool.or_false]
      congr 1
      exact decide_eq_decide.2 (by omega)

theorem tabw_eq_iff (g h : Nat → Bool) (n : Nat) : tabw g n = tabw h n ↔ ∀ x, x < n → g x = h x := by
  refine ⟨fun e x hx => ?_, fun e => tabw_congr e⟩
  have := congrArg (fun t => t.testBit x) e
  simpa [tabw_bit, hx] using this

theorem tabw_self (w n : Nat) (h : w < 2 ^ n) : tabw w.testBit n = w := by
  apply Nat.eq_of_testBit_eq
  intro x
  rw [tabw_bit]
  by_cases hx : x < n
  · simp [hx]
  · have : w.testBit x = false := Nat.testBit_lt_two_pow (Nat.lt_of_lt_of_le h (Nat.pow_le_pow_right (by decide) (by omega)))
    simp [hx, this]

def ins (x i b : Nat) : Nat := (x / 2 ^ i) * 2 ^ (i + 1) ||| b * 2 ^ i ||| (x &&& (2 ^ i - 1))
def del (x i : Nat) : Nat := (x / 2 ^ (i + 1)) * 2 ^ i ||| (x &&& (2 ^ i - 1))
theorem del_ins : ∀ n, n ≤ 5 → ∀ i, i < n → ∀ x, x < 2 ^ n → del x i < 2 ^ (n - 1) ∧ ins (del x i) i (x / 2 ^ i % 2) = x ∧ ∀ b, b < 2 → ys x i b = ins (del x i) i b := by decide +kernel
theorem ins_lt1 : ∀ n, n ≤ 5 → ∀ i, i < n → ∀ x, x < 2 ^ (n - 1) → ins x i 0 < 2 ^ n ∧ ins x i 1 < 2 ^ n := by decide +kernel
theorem ins_ys : ∀ n, n ≤ 5 → ∀ i, i < n → ∀ x, x < 2 ^ (n - 1) → ys (ins x i 0) i 0 = ins x i 0 ∧ ys (ins x i 0) i 1 = ins x i 1 ∧ ys (ins x i 1) i 0 = ins x i 0 ∧ ys (ins x i 1) i 1 = ins x i 1 := by decide +kernel
theorem ins_lt (n : Nat) (hn : n ≤ 5) (i : Nat) (hi : i < n) (x : Nat) (hx : x < 2 ^ (n - 1)) (b : Nat) (hb : b < 2) : ins x i b < 2 ^ n ∧ ∀ c, c < 2 → ys (ins x i c) i b = ins x i b := by
  obtain ⟨h1, h2⟩ := ins_lt1 n hn i hi x hx
  obtain ⟨h3, h4, h5, h6⟩ := ins_ys n hn i hi x hx
  have hb' : b = 0 ∨ b = 1 := by omega
  rcases hb' with rfl | rfl
  · exact ⟨h1, fun c hc => by have hc' : c = 0 ∨ c = 1 := by omega
                              rcases hc' with rfl | rfl <;> assumption⟩
  · exact ⟨h2, fun c hc => by have hc' : c = 0 ∨ c = 1 := by omega
                              rcases hc' with rfl | rfl <;> assumption⟩

def dep (w n i : Nat) : Bool := tabw (fun x => w.testBit (ins x i 0)) (2 ^ (n - 1)) != tabw (fun x => w.testBit (ins x i 1)) (2 ^ (n - 1))

theorem stuck_same (w n i b : Nat) (hn : n ≤ 5) (hi : i < n) (hb : b < 2) (hw : w < 2 ^ 2 ^ n) : (tabw (fun x => w.testBit (ys x i b)) (2 ^ n) == w) = !dep w n i := by
  have key : tabw (fun x => w.testBit (ys x i b)) (2 ^ n) = w ↔ tabw (fun x => w.testBit (ins x i 0)) (2 ^ (n - 1)) = tabw (fun x => w.testBit (ins x i 1)) (2 ^ (n - 1)) := by
    conv => lhs; rhs; rw [← tabw_self w (2 ^ n) hw]
    rw [tabw_eq_iff, tabw_eq_iff]
    constructor
    · intro h x hx
      obtain ⟨a1, a2⟩ := ins_lt n hn i hi x hx 0 (by omega)
      obtain ⟨b1, b2⟩ := ins_lt n hn i hi x hx 1 (by omega)
      have e0 := h _ a1
      have e1 := h _ b1
      have c0 := (ins_lt n hn i hi x hx b hb).2 0 (by omega)
      have c1 := (ins_lt n hn i hi x hx b hb).2 1 (by omega)
      rw [c0] at e0
      rw [c1] at e1
      rw [← e0, ← e1]
    · intro h x hx
      obtain ⟨h1, h2, h3⟩ := del_ins n hn i hi x hx
      have e := h _ h1
      rw [h3 b hb]
      conv => rhs; rw [← h2]
      have hc : x / 2 ^ i % 2 = 0 ∨ x / 2 ^ i % 2 = 1 := by omega
      have hb' : b = 0 ∨ b = 1 := by omega
      rcases hc with hc | hc <;> rcases hb' with rfl | rfl <;> rw [hc] <;> simp only [e]
  unfold dep
  by_cases h : tabw (fun x => w.testBit (ys x i b)) (2 ^ n) = w
  · rw [beq_iff_eq.2 h]
    simp [key.1 h]
  · rw [beq_eq_false_iff_ne.2 h]
    rw [bne_iff_ne.2 fun e => h (key.2 e)]
    rfl

theorem ins_small : ∀ x, x < 32 → ∀ i, i < 5 → x / 2 ^ i * 2 ^ (i + 1) < 64 ∧ (x &&& (2 ^ i - 1)) < 32 ∧ ins x i 0 < 128 ∧ ins x i 1 < 128 := by decide +kernel

theorem spec_l3Insert_eq (N x i b : Nat) (hx : x < 32) (hi : i < 5) (hb : b < 2) (k : Int → Option β) : zj3 N (x : Int) (i : Int) (b : Int) k = k (ins x i b : Int) := by
  obtain ⟨h1, h2, _, _⟩ := ins_small x hx i hi
  have hp5 : 2 ^ i ≤ 32 := size_le (by omega)
  have hp0 := Nat.two_pow_pos i
  have hb2 : b * 2 ^ i ≤ 1 * 32 := Nat.mul_le_mul (by omega) hp5
  unfold zj3 zb3
  rw [w64_succ i (by omega)]
  simp only [gd_true (decide_eq_true (by omega : 0 ≤ (i : Int))), gd_true (decide_eq_true (by omega : 0 ≤ ((i + 1 : Nat) : Int)))]
  have e1 : w64 (shlI .i64 1 (i : Int) - 1) = ((2 ^ i - 1 : Nat) : Int) := by
    rw [shl_one i (by omega), w64_id (by omega) (by omega)]
    omega
  have h3 : x / 2 ^ i * 2 ^ (i + 1) ||| b * 2 ^ i < 2 ^ 63 := Nat.or_lt_two_pow (by omega) (by omega)
  rw [e1, shr_nat x i (by omega), shl_nat (x / 2 ^ i) (i + 1) (by omega) (by omega), shl_nat b i (by omega) (by omega), bOr _ _ (by omega) (by omega), bAnd x (2 ^ i - 1) (by omega) (by omega), bOr _ _ h3 (by omega)]
  rfl

theorem spec_l3Restrict_loop (N n w i b : Nat) (hn : n ≤ 5) (hi : i < n) (hw : w < 4294967296) (hb : b < 2) (c d : Int) (k0 : Int → Int → Int → Int → Int → Option β) :
    ∀ (F x : Nat), 2 ^ (n - 1) - x < F → x ≤ 2 ^ (n - 1) → zj5 N F (i : Int) (b : Int) (tabw (fun x => w.testBit (ins x i b)) x : Int) (x : Int) (n : Int) (w : Int) c d k0 =
      k0 (tabw (fun x => w.testBit (ins x i b)) (2 ^ (n - 1)) : Int) n w c d := by
  have hs : 2 ^ (n - 1) ≤ 32 := size_le (by omega)
  have hn1 : w64 ((n : Int) - 1) = ((n - 1 : Nat) : Int) := by rw [w64_id (by omega) (by omega)]; omega
  intro F
  induction F with
  | zero => intro x hF; omega
  | succ F ih =>
    intro x hF hx
    simp only [zj5, zj4, zb4]
    rw [hn1, gd_true (decide_eq_true (by omega : 0 ≤ ((n - 1 : Nat) : Int))), shl_one (n - 1) (by omega)]
    by_cases hlt : x < 2 ^ (n - 1)
    · rw [decide_eq_true (by omega : (x : Int) < ((2 ^ (n - 1) : Nat) : Int))]
      simp only [cond_true, spec_l3Insert_eq N x i b (by omega) (by omega) hb, gd_true (decide_eq_true (Int.natCast_nonneg _))]
      have htw : tabw (fun x => w.testBit (ins x i b)) x < 2 ^ 63 := Nat.lt_of_lt_of_le (tabw_lt _ x) (Nat.pow_le_pow_right (by decide) (by omega))
      have h5 := ih (x + 1) (by omega) (by omega)
      rw [w64_succ x (by omega), bit_at w _ (by omega)]
      have hpx : 2 ^ x < 9223372036854775808 := pow_le_64 (by omega)
      have e : shlI .i64 ((if w.testBit (ins x i b) then 1 else 0 : Nat) : Int) (x : Int) = ((if w.testBit (ins x i b) then 2 ^ x else 0 : Nat) : Int) := by
        rw [shl_nat _ x (by omega) (by split <;> omega)]
        split <;> simp
      rw [e, bOr _ _ htw (by split <;> omega)]
      exact h5
    · have : x = 2 ^ (n - 1) := by omega
      subst this
      rw [decide_eq_false (by omega : ¬ ((2 ^ (n - 1) : Nat) : Int) < ((2 ^ (n - 1) : Nat) : Int))]
      rfl

theorem spec_l3Restrict_eq (N : Nat) (hN : 64 < N) (n w i b : Nat) (hn : n ≤ 5) (hi : i < n) (hw : w < 4294967296) (hb : b < 2) (k : Int → Int → Option β) :
    zj6 N (n : Int) (w : Int) (i : Int) (b : Int) k = k ((n - 1 : Nat) : Int) (tabw (fun x => w.testBit (ins x i b)) (2 ^ (n - 1)) : Int) := by
  have hs : 2 ^ (n - 1) ≤ 32 := size_le (by omega)
  have hn1 : w64 ((n : Int) - 1) = ((n - 1 : Nat) : Int) := by rw [w64_id (by omega) (by omega)]; omega
  unfold zj6 zb6
  refine (spec_l3Restrict_loop N n w i b hn hi hw hb 0 0 (fun e0 e1 _ _ _ => k (w64 (e1 - 1)) e0) N 0 (by omega) (Nat.zero_le _)).trans ?_
  rw [hn1]

theorem spec_l3Depends_eq (N : Nat) (hN : 64 < N) (n w i : Nat) (hn : n ≤ 5) (hi : i < n) (hw : w < 4294967296) (k : Bool → Option β) : zj7 N (n : Int) (w : Int) (i : Int) k = k (dep w n i) := by
  unfold zj7 zb7
  have h0 := fun k => spec_l3Restrict_eq (β := β) N hN n w i 0 hn hi hw (by omega) k
  have h1 := fun k => spec_l3Restrict_eq (β := β) N hN n w i 1 hn hi hw (by omega) k
  simp only [Int.natCast_zero, Int.natCast_one] at h0 h1
  rw [h0, h1]
  congr 1
  unfold dep
  by_cases h : tabw (fun x => w.testBit (ins x i 0)) (2 ^ (n - 1)) = tabw (fun x => w.testBit (ins x i 1)) (2 ^ (n - 1))
  · simp [h]
  · rw [bne_iff_ne.2 h, bne_iff_ne.2 fun e => h (by exact_mod_cast e)]

def vars (w n m : Nat) : List Int := ((List.range m).filter fun i => dep w n i).map Int.ofNat
theorem vars_len (w n m : Nat) : (vars w n m).length ≤ m := by
  unfold vars
  rw [List.length_map]
  exact Nat.le_trans (List.length_filter_le _ _) (by simp)
theorem vars_succ (w n m : Nat) : vars w n (m + 1) = if dep w n m then vars w n m ++ [(m : Int)] else vars w n m := by
  unfold vars
  rw [List.range_succ, List.filter_append, List.map_append]
  cases h : dep w n m <;> simp [h]

theorem spec_VariablesOf_eq (N : Nat) (hN : 64 < N) (n w : Nat) (hn : n ≤ 5) (hw : w < 2 ^ 2 ^ n) (k : List Int → Option β) : zj22 N (n : Int) (w : Int) k = k (vars w n n) := by
  have hw' : w < 4294967296 := Nat.lt_of_lt_of_le hw (Nat.pow_le_pow_right (by decide) (size_le hn) : 2 ^ 2 ^ n ≤ 2 ^ 32)
  have ht : isT (n : Int) (w : Int) = true := by
    simp only [isT, Int.toNat_natCast, Bool.and_eq_true, decide_eq_true_eq]
    exact ⟨⟨⟨by omega, by omega⟩, by omega⟩, by exact_mod_cast hw⟩
  have key : ∀ (F i : Nat), n - i < F → i ≤ n → zj21 N F (i : Int) (n : Int) (w : Int) (vars w n i) k = k (vars w n n) := by
    intro F
    induction F with
    | zero => intro i hF; omega
    | succ F ih =>
      intro i hF hi
      simp only [zj21, zj20, zb20, spec_IsTable_eq, ht, cond_true]
      by_cases hlt : i < n
      · rw [decide_eq_true (by omega : (i : Int) < (n : Int))]
        simp only [cond_true, spec_l3Depends_eq N hN n w i hn hlt hw']
        have h1 := ih (i + 1) (by omega) (by omega)
        rw [vars_succ] at h1
        have hl := vars_len w n i
        rw [w64_succ i (by omega)]
        cases hd : dep w n i with
        | true =>
          rw [hd] at h1
          simp only [cond_true]
          rw [gd_true (decide_eq_true (by simp; omega))]
          simpa using h1
        | false =>
          rw [hd] at h1
          simpa using h1
      · have : i = n := by omega
        subst this
        rw [decide_eq_false (by omega : ¬ (i : Int) < (i : Int))]
        rfl
  unfold zj22 zb22
  exact key N 0 (by omega) (Nat.zero_le _)
end Go.Proofs.YtemihnclhcobnaaGreatDoor
namespace Go.Proofs.YtemihnclhcobnaaGreatDoor
open Go.Rv
set_option linter.unusedVariables false
variable {β : Type}
theorem detects (w n i b : Nat) (hn : n ≤ 5) (hi : i < n) (hb : b < 2) (hw : w < 2 ^ 2 ^ n) : (((w ^^^ tabw (fun x => w.testBit (ys x i b)) (2 ^ n) : Nat) : Int) != 0) = dep w n i := by
  have h := stuck_same w n i b hn hi hb hw
  cases hd : dep w n i with
  | true =>
    rw [hd] at h
    have h1 : ¬ tabw (fun x => w.testBit (ys x i b)) (2 ^ n) = w := by simpa using h
    rw [bne_iff_ne]
    intro e
    have : w ^^^ tabw (fun x => w.testBit (ys x i b)) (2 ^ n) = 0 := by exact_mod_cast e
    refine h1 (Nat.eq_of_testBit_eq fun j => ?_)
    have := congrArg (fun t => t.testBit j) this
    simp only [Nat.testBit_xor, Nat.zero_testBit] at this
    revert this
    cases w.testBit j <;> cases (tabw (fun x => w.testBit (ys x i b)) (2 ^ n)).testBit j <;> simp
  | false =>
    rw [hd] at h
    have h1 : tabw (fun x => w.testBit (ys x i b)) (2 ^ n) = w := by simpa using h
    rw [h1, Nat.xor_self]
    rfl
end Go.Proofs.YtemihnclhcobnaaGreatDoor
namespace Go.Proofs.YtemihnclhcobnaaGreatDoor
open Go.Rv
set_option linter.unusedVariables false
variable {β : Type}
end Go.Proofs.YtemihnclhcobnaaGreatDoor
namespace Go.Proofs.YtemihnclhcobnaaGreatDoor
open Go.Rv
set_option linter.unusedVariables false
variable {β : Type}
end Go.Proofs.YtemihnclhcobnaaGreatDoor
namespace Go.Proofs.YtemihnclhcobnaaGreatDoor
open Go.Rv
set_option linter.unusedVariables false
variable {β : Type}
theorem spec_l1In_eq (N : Nat) (a b c : Int) (k : Bool → Option β) : zj1 N a b c k = k (decide (b ≤ a) && decide (a ≤ c)) := by
  unfold zj1 zb1
  by_cases h : b ≤ a
  · rw [decide_eq_true (by omega : a ≥ b)]; rfl
  · rw [decide_eq_false (by omega : ¬ a ≥ b)]; rfl
theorem two32 {n w : Nat} (hn : n ≤ 5) (hw : w < 2 ^ 2 ^ n) : w < 4294967296 := Nat.lt_of_lt_of_le hw (Nat.pow_le_pow_right (by decide) (size_le hn) : 2 ^ 2 ^ n ≤ 2 ^ 32)

def addAll (s : Nat) (l : List Int) : Nat := l.foldl (fun s x => s ||| 2 ^ x.toNat) s

end Go.Proofs.YtemihnclhcobnaaGreatDoor
namespace Go.Proofs.YtemihnclhcobnaaGreatDoor
open Go.Rv
set_option linter.unusedVariables false
variable {β : Type}
def pc : Nat → Nat → Nat
  | 0, _ => 0
  | f + 1, w => w % 2 + pc f (w / 2)
theorem pc_le : ∀ f w, pc f w ≤ f
  | 0, _ => Nat.le_refl _
  | f + 1, w => by have := pc_le f (w / 2); simp only [pc]; omega
theorem pc_split : ∀ (j f c y : Nat), c < 2 ^ j → pc (j + f) (c + 2 ^ j * y) = pc j c + pc f y
  | 0, f, c, y, h => by
    have : c = 0 := by simpa using h
    subst this
    simp [pc]
  | j + 1, f, c, y, h => by
    rw [show j + 1 + f = (j + f) + 1 by omega]
    simp only [pc]
    have e : 2 ^ (j + 1) * y = 2 * (2 ^ j * y) := by rw [Nat.pow_succ]; rw [Nat.mul_comm (2 ^ j) 2, Nat.mul_assoc]
    rw [e, show (c + 2 * (2 ^ j * y)) % 2 = c % 2 by omega, show (c + 2 * (2 ^ j * y)) / 2 = c / 2 + 2 ^ j * y by omega, pc_split j f (c / 2) y (by rw [Nat.pow_succ] at h; omega)]
    omega
def ones (w : Nat) : Nat := pc 32 w
theorem ones_le (w : Nat) : ones w ≤ 32 := pc_le 32 w
theorem ones_bytes (c0 c1 c2 c3 : Nat) (h0 : c0 < 256) (h1 : c1 < 256) (h2 : c2 < 256) (h3 : c3 < 256) : ones (c0 + 256 * (c1 + 256 * (c2 + 256 * c3))) = pc 8 c0 + (pc 8 c1 + (pc 8 c2 + pc 8 c3)) := by
  unfold ones
  rw [show (32 : Nat) = 8 + 24 from rfl, show (256 : Nat) = 2 ^ 8 from rfl, pc_split 8 24 c0 _ h0, show (24 : Nat) = 8 + 16 from rfl, pc_split 8 16 c1 _ h1, show (16 : Nat) = 8 + 8 from rfl, pc_split 8 8 c2 _ h2]

theorem and_byte (c y m M : Nat) (hc : c < 256) (hm : m < 256) : (c + 256 * y) &&& (m + 256 * M) = (c &&& m) + 256 * (y &&& M) := by
  have h1 : ((c + 256 * y) &&& (m + 256 * M)) % 2 ^ 8 = (c + 256 * y) % 2 ^ 8 &&& (m + 256 * M) % 2 ^ 8 := Nat.and_mod_two_pow
  have h2 : ((c + 256 * y) &&& (m + 256 * M)) / 2 ^ 8 = (c + 256 * y) / 2 ^ 8 &&& (m + 256 * M) / 2 ^ 8 := Nat.and_div_two_pow
  rw [show (c + 256 * y) % 2 ^ 8 = c by omega, show (m + 256 * M) % 2 ^ 8 = m by omega] at h1
  rw [show (c + 256 * y) / 2 ^ 8 = y by omega, show (m + 256 * M) / 2 ^ 8 = M by omega] at h2
  omega
theorem byte1 : ∀ c, c < 128 → ∀ b, b < 2 → (c + 128 * b) &&& 85 = c &&& 85 := by decide +kernel
theorem byte2 : ∀ c, c < 64 → ∀ b, b < 4 → (c + 64 * b) &&& 51 = c &&& 51 := by decide +kernel
theorem byte3 : ∀ c, c < 74 → ∀ b, b < 5 → (c + 16 * b) &&& 15 = c &&& 15 := by decide +kernel
theorem step1 (c y M : Nat) (hc : c < 256) : ((c + 256 * y) / 2 &&& (85 + 256 * M)) + ((c + 256 * y) &&& (85 + 256 * M)) = ((c / 2 &&& 85) + (c &&& 85)) + 256 * ((y / 2 &&& M) + (y &&& M)) := by
  rw [show (c + 256 * y) / 2 = (c / 2 + 128 * (y % 2)) + 256 * (y / 2) by omega, and_byte _ _ _ _ (by omega) (by omega), and_byte _ _ _ _ hc (by omega), byte1 _ (by omega) _ (by omega)]
  omega
theorem step2 (c y M : Nat) (hc : c < 256) : ((c + 256 * y) / 4 &&& (51 + 256 * M)) + ((c + 256 * y) &&& (51 + 256 * M)) = ((c / 4 &&& 51) + (c &&& 51)) + 256 * ((y / 4 &&& M) + (y &&& M)) := by
  rw [show (c + 256 * y) / 4 = (c / 4 + 64 * (y % 4)) + 256 * (y / 4) by omega, and_byte _ _ _ _ (by omega) (by omega), and_byte _ _ _ _ hc (by omega), byte2 _ (by omega) _ (by omega)]
  omega
theorem step3 (c y M : Nat) (hc : c ≤ 68) (hy : y % 16 ≤ 4) : ((c + 256 * y) / 16 + (c + 256 * y)) &&& (15 + 256 * M) = ((c / 16 + c) &&& 15) + 256 * ((y / 16 + y) &&& M) := by
  rw [show (c + 256 * y) / 16 + (c + 256 * y) = ((c / 16 + c) + 16 * (y % 16)) + 256 * (y / 16 + y) by omega, and_byte _ _ _ _ (by omega) (by omega), byte3 _ (by omega) _ (by omega)]
def q1 (c : Nat) : Nat := (c / 2 &&& 85) + (c &&& 85)
def q2 (c : Nat) : Nat := (c / 4 &&& 51) + (c &&& 51)
def q3 (c : Nat) : Nat := (c / 16 + c) &&& 15
theorem q_spec : ∀ c, c < 256 → q1 c < 256 ∧ q2 (q1 c) ≤ 68 ∧ q2 (q1 c) % 16 ≤ 4 ∧ q3 (q2 (q1 c)) = pc 8 c ∧ pc 8 c ≤ 8 := by decide +kernel

def swar (w : Nat) : Nat :=
  let a := (w / 2 &&& 6148914691236517205) + (w &&& 6148914691236517205)
  let b := (a / 4 &&& 3689348814741910323) + (a &&& 3689348814741910323)
  (b / 16 + b) &&& 1085102592571150095
theorem swar_eq (c0 c1 c2 c3 : Nat) (h0 : c0 < 256) (h1 : c1 < 256) (h2 : c2 < 256) (h3 : c3 < 256) :
    swar (c0 + 256 * (c1 + 256 * (c2 + 256 * c3))) = pc 8 c0 + 256 * (pc 8 c1 + 256 * (pc 8 c2 + 256 * pc 8 c3)) := by
  obtain ⟨a0, b0, d0, e0, _⟩ := q_spec c0 h0
  obtain ⟨a1, b1, d1, e1, _⟩ := q_spec c1 h1
  obtain ⟨a2, b2, d2, e2, _⟩ := q_spec c2 h2
  obtain ⟨a3, b3, d3, e3, _⟩ := q_spec c3 h3
  have s1 : ((c0 + 256 * (c1 + 256 * (c2 + 256 * (c3 + 256 * 0)))) / 2 &&& 6148914691236517205) + ((c0 + 256 * (c1 + 256 * (c2 + 256 * (c3 + 256 * 0)))) &&& 6148914691236517205) = q1 c0 + 256 * (q1 c1 + 256 * (q1 c2 + 256 * (q1 c3 + 256 * 0))) := by
    rw [show (6148914691236517205 : Nat) = 85 + 256 * (85 + 256 * (85 + 256 * (85 + 256 * 1431655765))) from rfl, step1 _ _ _ h0, step1 _ _ _ h1, step1 _ _ _ h2, step1 _ _ _ h3]
    simp [q1]
  have s2 : ((q1 c0 + 256 * (q1 c1 + 256 * (q1 c2 + 256 * (q1 c3 + 256 * 0)))) / 4 &&& 3689348814741910323) + ((q1 c0 + 256 * (q1 c1 + 256 * (q1 c2 + 256 * (q1 c3 + 256 * 0)))) &&& 3689348814741910323) = q2 (q1 c0) + 256 * (q2 (q1 c1) + 256 * (q2 (q1 c2) + 256 * (q2 (q1 c3) + 256 * 0))) := by
    rw [show (3689348814741910323 : Nat) = 51 + 256 * (51 + 256 * (51 + 256 * (51 + 256 * 858993459))) from rfl, step2 _ _ _ a0, step2 _ _ _ a1, step2 _ _ _ a2, step2 _ _ _ a3]
    simp [q2]
  have s3 : ((q2 (q1 c0) + 256 * (q2 (q1 c1) + 256 * (q2 (q1 c2) + 256 * (q2 (q1 c3) + 256 * 0)))) / 16 + (q2 (q1 c0) + 256 * (q2 (q1 c1) + 256 * (q2 (q1 c2) + 256 * (q2 (q1 c3) + 256 * 0))))) &&& 1085102592571150095 = q3 (q2 (q1 c0)) + 256 * (q3 (q2 (q1 c1)) + 256 * (q3 (q2 (q1 c2)) + 256 * (q3 (q2 (q1 c3)) + 256 * 0))) := by
    rw [show (1085102592571150095 : Nat) = 15 + 256 * (15 + 256 * (15 + 256 * (15 + 256 * 252645135))) from rfl, step3 _ _ _ b0 (by omega), step3 _ _ _ b1 (by omega), step3 _ _ _ b2 (by omega), step3 _ _ _ b3 (by omega)]
    simp [q3]
  have e : c0 + 256 * (c1 + 256 * (c2 + 256 * c3)) = c0 + 256 * (c1 + 256 * (c2 + 256 * (c3 + 256 * 0))) := by omega
  unfold swar
  rw [e]
  simp only [s1, s2, s3]
  rw [e0, e1, e2, e3]
  omega
theorem swar_sum (q0 q1 q2 q3 : Nat) (h0 : q0 ≤ 8) (h1 : q1 ≤ 8) (h2 : q2 ≤ 8) (h3 : q3 ≤ 8) (x y z u : Nat) (hx : x = q0 + 256 * (q1 + 256 * (q2 + 256 * q3))) (hy : y = x + x / 256) (hz : z = y + y / 65536) (hu : u = z + z / 4294967296) :
    u % 128 = q0 + (q1 + (q2 + q3)) ∧ u < 9223372036854775808 ∧ x < 4294967296 ∧ y < 8589934592 ∧ z < 17179869184 := by
  have e1 : x / 256 = q1 + 256 * (q2 + 256 * q3) := by omega
  have e2 : y = (q0 + q1 + 256 * (q1 + q2)) + 65536 * (q2 + q3 + 256 * q3) := by omega
  have e3 : y / 65536 = q2 + q3 + 256 * q3 := by omega
  have e4 : z = (q0 + (q1 + (q2 + q3))) + 256 * (q1 + q2 + q3 + 256 * (q2 + q3 + 256 * q3)) := by omega
  have e5 : z / 4294967296 = 0 := by omega
  have e6 : u = z := by omega
  have e7 : u % 128 = q0 + (q1 + (q2 + q3)) := by omega
  exact ⟨e7, by omega, by omega, by omega, by omega⟩

theorem wrapU_small (n : Int) (h0 : 0 ≤ n) (h1 : n < 2 ^ 64) : IntKind.u64.wrap n = n := by
  rw [IntKind.wrap_u64]
  have : (2 : Int) ^ 64 = 18446744073709551616 := by decide
  omega
theorem wu64_nat (n : Nat) (h : n < 18446744073709551616) : wu64 (n : Int) = n := by
  have : (2 : Int) ^ 64 = 18446744073709551616 := by decide
  exact wrapU_small _ (by omega) (by omega)
theorem bAndU (a b : Nat) (ha : a < 2 ^ 64) (hb : b < 2 ^ 64) : bits .and .u64 (a : Int) (b : Int) = ((a &&& b : Nat) : Int) := (bits_nat .u64 64 (by decide) wrapU_small a b ha hb).1
theorem shrU (a n : Nat) (hn : n ≤ 64) : shrI .u64 (a : Int) (n : Int) = ((a / 2 ^ n : Nat) : Int) := by
  have e : IntKind.u64.bits = 64 := rfl
  simp only [shrI, Int.toNat_natCast, e]
  rw [Nat.min_eq_left hn]; simp

def g1 (a : Int) : Int := wu64 (bits .and .u64 (shrI .u64 a 1) 6148914691236517205 + bits .and .u64 a 6148914691236517205)
def g2 (a : Int) : Int := wu64 (bits .and .u64 (shrI .u64 a 2) 3689348814741910323 + bits .and .u64 a 3689348814741910323)
def g3 (a : Int) : Int := bits .and .u64 (wu64 (shrI .u64 a 4 + a)) 1085102592571150095
def g4 (a : Int) : Int := wu64 (a + shrI .u64 a 8)
def g5 (a : Int) : Int := wu64 (a + shrI .u64 a 16)
def g6 (a : Int) : Int := wu64 (a + shrI .u64 a 32)
theorem g1_nat (w : Nat) (h : w < 9223372036854775808) : g1 (w : Int) = (((w / 2 &&& 6148914691236517205) + (w &&& 6148914691236517205) : Nat) : Int) := by
  have e1 := shrU w 1 (by omega)
  have e2 := bAndU (w / 2 ^ 1) 6148914691236517205 (by omega) (by omega)
  have e3 := bAndU w 6148914691236517205 (by omega) (by omega)
  have l1 : w / 2 ^ 1 &&& 6148914691236517205 ≤ 6148914691236517205 := Nat.and_le_right
  have l2 : w &&& 6148914691236517205 ≤ 6148914691236517205 := Nat.and_le_right
  have e4 := wu64_nat ((w / 2 ^ 1 &&& 6148914691236517205) + (w &&& 6148914691236517205)) (by omega)
  unfold g1
  rw [show (1 : Int) = ((1 : Nat) : Int) from rfl, show (6148914691236517205 : Int) = ((6148914691236517205 : Nat) : Int) from rfl, e1, e2, e3, ← Int.natCast_add, e4]
theorem g2_nat (w : Nat) (h : w < 18446744073709551616) : g2 (w : Int) = (((w / 4 &&& 3689348814741910323) + (w &&& 3689348814741910323) : Nat) : Int) := by
  have e1 := shrU w 2 (by omega)
  have e2 := bAndU (w / 2 ^ 2) 3689348814741910323 (by omega) (by omega)
  have e3 := bAndU w 3689348814741910323 (by omega) (by omega)
  have l1 : w / 2 ^ 2 &&& 3689348814741910323 ≤ 3689348814741910323 := Nat.and_le_right
  have l2 : w &&& 3689348814741910323 ≤ 3689348814741910323 := Nat.and_le_right
  have e4 := wu64_nat ((w / 2 ^ 2 &&& 3689348814741910323) + (w &&& 3689348814741910323)) (by omega)
  unfold g2
  rw [show (2 : Int) = ((2 : Nat) : Int) from rfl, show (3689348814741910323 : Int) = ((3689348814741910323 : Nat) : Int) from rfl, e1, e2, e3, ← Int.natCast_add, e4]
theorem g3_nat (w : Nat) (h : w < 9223372036854775808) : g3 (w : Int) = (((w / 16 + w) &&& 1085102592571150095 : Nat) : Int) := by
  have e1 := shrU w 4 (by omega)
  have e4 := wu64_nat (w / 2 ^ 4 + w) (by omega)
  have e2 := bAndU (w / 2 ^ 4 + w) 1085102592571150095 (by omega) (by omega)
  unfold g3
  rw [show (4 : Int) = ((4 : Nat) : Int) from rfl, show (1085102592571150095 : Int) = ((1085102592571150095 : Nat) : Int) from rfl, e1, ← Int.natCast_add, e4, e2]
theorem g4_nat (w : Nat) (h : w < 9223372036854775808) : g4 (w : Int) = ((w + w / 256 : Nat) : Int) := by
  have e1 := shrU w 8 (by omega)
  have e4 := wu64_nat (w + w / 2 ^ 8) (by omega)
  unfold g4
  rw [show (8 : Int) = ((8 : Nat) : Int) from rfl, e1, ← Int.natCast_add, e4]
theorem g5_nat (w : Nat) (h : w < 9223372036854775808) : g5 (w : Int) = ((w + w / 65536 : Nat) : Int) := by
  have e1 := shrU w 16 (by omega)
  have e4 := wu64_nat (w + w / 2 ^ 16) (by omega)
  unfold g5
  rw [show (16 : Int) = ((16 : Nat) : Int) from rfl, e1, ← Int.natCast_add, e4]
theorem g6_nat (w : Nat) (h : w < 9223372036854775808) : g6 (w : Int) = ((w + w / 4294967296 : Nat) : Int) := by
  have e1 := shrU w 32 (by omega)
  have e4 := wu64_nat (w + w / 2 ^ 32) (by omega)
  unfold g6
  rw [show (32 : Int) = ((32 : Nat) : Int) from rfl, e1, ← Int.natCast_add, e4]

theorem math_bits_OnesCount64_eq (N w : Nat) (hw : w < 4294967296) (k : Int → Option β) : zj109 N (w : Int) k = k (ones w : Int) := by
  have e : zj109 N (w : Int) k = k (bits .and .i64 (w64 (g6 (g5 (g4 (g3 (g2 (g1 (w : Int)))))))) 127) := rfl
  rw [e]
  congr 1
  have l1 : w / 2 &&& 6148914691236517205 ≤ w / 2 := Nat.and_le_left
  have l2 : w &&& 6148914691236517205 ≤ w := Nat.and_le_left
  rw [g1_nat w (by omega)]
  generalize hA : (w / 2 &&& 6148914691236517205) + (w &&& 6148914691236517205) = A
  have l3 : A / 4 &&& 3689348814741910323 ≤ A / 4 := Nat.and_le_left
  have l4 : A &&& 3689348814741910323 ≤ A := Nat.and_le_left
  rw [g2_nat A (by omega)]
  generalize hB : (A / 4 &&& 3689348814741910323) + (A &&& 3689348814741910323) = B
  rw [g3_nat B (by omega)]
  have hC : (B / 16 + B) &&& 1085102592571150095 = swar w := by rw [← hB, ← hA]; rfl
  rw [hC]
  have hb : w = (w % 256) + 256 * ((w / 256 % 256) + 256 * ((w / 65536 % 256) + 256 * (w / 16777216))) := by omega
  have b0 := q_spec (w % 256) (by omega)
  have b1 := q_spec (w / 256 % 256) (by omega)
  have b2 := q_spec (w / 65536 % 256) (by omega)
  have b3 := q_spec (w / 16777216) (by omega)
  have hs := swar_eq (w % 256) (w / 256 % 256) (w / 65536 % 256) (w / 16777216) (by omega) (by omega) (by omega) (by omega)
  have ho := ones_bytes (w % 256) (w / 256 % 256) (w / 65536 % 256) (w / 16777216) (by omega) (by omega) (by omega) (by omega)
  rw [← hb] at hs ho
  obtain ⟨r1, r2, r3, r4, r5⟩ := swar_sum _ _ _ _ b0.2.2.2.2 b1.2.2.2.2 b2.2.2.2.2 b3.2.2.2.2 (swar w) _ _ _ hs rfl rfl rfl
  rw [g4_nat _ (by omega), g5_nat _ (by omega), g6_nat _ (by omega), w64_nat _ r2]
  have ha := bAnd (swar w + swar w / 256 + (swar w + swar w / 256) / 65536 + (swar w + swar w / 256 + (swar w + swar w / 256) / 65536) / 4294967296) 127 (by omega) (by omega)
  rw [show (127 : Int) = ((127 : Nat) : Int) from rfl, ha, show (127 : Nat) = 2 ^ 7 - 1 from rfl, Nat.and_two_pow_sub_one_eq_mod, show (2 : Nat) ^ 7 = 128 from rfl, r1, ho]

theorem impl_ones_eq (N w : Nat) (hw : w < 4294967296) (k : Int → Option β) : zj110 N (w : Int) k = k (ones w : Int) := by
  unfold zj110 zb110
  rw [wu64_nat w (by omega), math_bits_OnesCount64_eq N w hw]

theorem spec_l2Count_eq (N w : Nat) (hN : 64 < N) (hw : w < 4294967296) (k : Int → Option β) : zj16 N (w : Int) k = k (ones w : Int) := by
  have key : ∀ (f F n w : Nat), f < F → w < 2 ^ f → n + f < 1000 → w < 4294967296 → zj15 N F (n : Int) (w : Int) k = k ((n + pc f w : Nat) : Int) := by
    intro f
    induction f with
    | zero =>
      intro F n w hF hw _ _
      obtain ⟨F, rfl⟩ : ∃ G, F = G + 1 := ⟨F - 1, by omega⟩
      have : w = 0 := by simpa using hw
      subst this
      simp only [zj15, zj14, zb14, pc]
      rfl
    | succ f ih =>
      intro F n w hF hw hn hw'
      obtain ⟨F, rfl⟩ : ∃ G, F = G + 1 := ⟨F - 1, by omega⟩
      simp only [zj15, zj14, zb14, pc]
      by_cases h0 : w = 0
      · subst h0
        have z : ∀ f, pc f 0 = 0 := fun f => by
          induction f with
          | zero => rfl
          | succ f ih => simp [pc, ih]
        simp [z]
      · have ha := bAnd w 1 (by omega) (by omega)
        rw [decide_eq_true (by omega : (w : Int) > 0), cond_true, show (1 : Int) = ((1 : Nat) : Int) from rfl, ha, shr_nat w 1 (by omega), Nat.and_one_is_mod, ← Int.natCast_add, w64_nat _ (by omega)]
        rw [ih F (n + w % 2) (w / 2 ^ 1) (by omega) (by rw [Nat.pow_succ] at hw; omega) (by omega) (by omega)]
        congr 2
        simp only [Nat.pow_one]
        omega
  have := key 32 N 0 w (by omega) hw (by omega) hw
  simpa [ones, zj16, zb16] using this
end Go.Proofs.YtemihnclhcobnaaGreatDoor
namespace Go.Proofs.YtemihnclhcobnaaGreatDoor
open Go.Rv
set_option linter.unusedVariables false
variable {β : Type}
end Go.Proofs.YtemihnclhcobnaaGreatDoor
namespace Go.Proofs.YtemihnclhcobnaaGreatDoor
open Go.Rv
set_option linter.unusedVariables false
set_option maxRecDepth 100000
variable {β : Type}
def flips (w : Nat) (l : List Int) : Nat := l.foldl (fun w x => w ^^^ 2 ^ x.toNat) w
end Go.Proofs.YtemihnclhcobnaaGreatDoor
namespace Go.Proofs.YtemihnclhcobnaaGreatDoor
open Go.Rv
set_option linter.unusedVariables false
variable {β : Type}
theorem spec_l2Full_eq (N n : Nat) (hn : n ≤ 5) (k : Int → Option β) : zj41 N (n : Int) k = k ((2 ^ 2 ^ n - 1 : Nat) : Int) := by
  have hs := size_le hn
  have hp : 2 ^ 2 ^ n < 9223372036854775808 := pow_le_64 (by omega)
  have h1 := Nat.two_pow_pos (2 ^ n)
  unfold zj41 zb41
  rw [shl_u64 n hn, shl_one (2 ^ n) (by omega), decide_eq_true (by omega : (0 : Int) ≤ (n : Int)), decide_eq_true (Int.natCast_nonneg (2 ^ n)), gd_true rfl, gd_true rfl, w64_id (by omega) (by omega)]
  congr 1
  omega

def smallT (a0 a1 m : Int) : Bool := isT a0 a1 && decide (a0 ≤ m)
theorem impl_isSmall_eq (N : Nat) (a0 a1 m : Int) (h1 : a1 < 9223372036854775808) (k : Bool → Option β) : zj131 N a0 a1 m k = k (smallT a0 a1 m) := by
  unfold zj131 zb131 smallT
  rw [impl_IsTable_eq N a0 a1 h1]
  cases isT a0 a1 <;> rfl
end Go.Proofs.YtemihnclhcobnaaGreatDoor
namespace Go.Proofs.YtemihnclhcobnaaGreatDoor
open Go.Rv
variable {β : Type}
def B (l : List UInt8) : ByteArray := ⟨l.toArray⟩
theorem B_data (s : ByteArray) : B s.data.toList = s := by cases s; simp [B]
theorem B_size (l : List UInt8) : (B l).size = l.length := by simp [B, ByteArray.size]
theorem B_inj {a b : ByteArray} (h : a.data.toList = b.data.toList) : a = b := by rw [← B_data a, ← B_data b, h]
theorem B_toList (l : List UInt8) : (B l).toList = l := Go.ByteArray.toList_mk l
theorem B_app (l m : List UInt8) : B l ++ B m = B (l ++ m) := by
  apply B_inj
  rw [ByteArray.toList_data_append]
  simp [B]
theorem B_nil : ByteArray.empty = B [] := rfl
theorem B_one (n : Int) : strOf (([] : List Int) ++ [n]) = B [UInt8.ofNat n.toNat] := by
  simp [strOf, B]
theorem B_strOf (l : List Int) : strOf l = B (l.map fun n => UInt8.ofNat n.toNat) := by simp [strOf, B]
end Go.Proofs.YtemihnclhcobnaaGreatDoor
namespace Go.Proofs.YtemihnclhcobnaaGreatDoor
open Go.Rv
variable {β : Type}
def lf (n : Nat) : Bool := (decide (97 ≤ n) && decide (n < 102)) || (n == 48 || n == 49)
def bn (n : Nat) : Bool := n == 38 || (n == 124 || n == 94)
def wf : Tr → Prop
  | .nil => False
  | .node a b l r => b = 0 ∧ ∃ n : Nat, a = n ∧ n < 256 ∧ ((lf n = true ∧ l = .nil ∧ r = .nil) ∨ (n = 33 ∧ wf l ∧ r = .nil) ∨ (bn n = true ∧ wf l ∧ wf r))

theorem natb (n m : Nat) : ((n : Int) == (m : Int)) = (n == m) := by
  by_cases h : n = m
  · subst h; simp
  · rw [beq_eq_false_iff_ne.2 h, beq_eq_false_iff_ne.2 (by omega)]
end Go.Proofs.YtemihnclhcobnaaGreatDoor
namespace Go.Proofs.YtemihnclhcobnaaGreatDoor
open Go.Rv
variable {β : Type}
end Go.Proofs.YtemihnclhcobnaaGreatDoor
namespace Go.Proofs.YtemihnclhcobnaaGreatDoor
open Go.Rv
variable {β : Type}
theorem loop_st (g : Nat → Nat → Option β) (m : Nat) (r : Option β) (hs : ∀ F i, i < m → g (F + 1) i = g F (i + 1)) (he : ∀ F, g (F + 1) m = r) :
    ∀ (F i : Nat), i ≤ m → m - i < F → g F i = r := by
  intro F
  induction F with
  | zero => intro i _ h; omega
  | succ F ih =>
    intro i hi hF
    rcases Nat.lt_or_ge i m with h | h
    · rw [hs F i h]; exact ih (i + 1) h (by omega)
    · have : i = m := by omega
      subst this; exact he F

def sumTo (h : Nat → Int) : Nat → Int
  | 0 => 0
  | m + 1 => sumTo h m + h m
theorem sumTo_le (h : Nat → Int) (hb : ∀ i, -1 ≤ h i ∧ h i ≤ 1) : ∀ m : Nat, -(m : Int) ≤ sumTo h m ∧ sumTo h m ≤ (m : Int)
  | 0 => by simp [sumTo]
  | m + 1 => by have := sumTo_le h hb m; have := hb m; simp only [sumTo]; omega

def sg (m : Nat) : Int := if m % 2 = 1 then -1 else 1
theorem sg_add (a b : Nat) : sg (a + b) = sg a * sg b := by
  unfold sg
  rcases Nat.mod_two_eq_zero_or_one a with h1 | h1 <;> rcases Nat.mod_two_eq_zero_or_one b with h2 | h2 <;> simp [h1, h2, Nat.add_mod]
theorem sg_range (a b : Nat) : -1 ≤ sg a * sg b ∧ sg a * sg b ≤ 1 := by
  rw [← sg_add]
  unfold sg
  split <;> simp
def bw (w x : Nat) : Nat := if w.testBit x then 1 else 0
theorem ones_bw (w x : Nat) : ones (bw w x) = bw w x := by
  unfold bw
  split <;> rfl
theorem bw_le (w x : Nat) : bw w x ≤ 1 := by unfold bw; split <;> omega

theorem spec_l12Sign_eq (N w : Nat) (hN : 64 < N) (hw : w < 4294967296) (k : Int → Option β) : zj78 N (w : Int) k = k (sg (ones w)) := by
  unfold zj78 zb78
  rw [spec_l2Count_eq N w hN hw]
  have e : remI (ones w : Int) 2 = ((ones w % 2 : Nat) : Int) := rfl
  rw [e]
  unfold sg
  rcases Nat.mod_two_eq_zero_or_one (ones w) with h | h <;> rw [h] <;> rfl
theorem impl_sign_eq (N m : Nat) (hm : m < 4294967296) (k : Int → Option β) : zj185 N (m : Int) k = k (sg m) := by
  unfold zj185 zb185
  rw [show (1 : Int) = ((1 : Nat) : Int) from rfl, bAnd m 1 (by omega) (by omega), Nat.and_one_is_mod]
  unfold sg
  rcases Nat.mod_two_eq_zero_or_one m with h | h <;> rw [h] <;> rfl

def tm (w u x : Nat) : Int := sg (bw w x) * sg (ones (u &&& x))
theorem tm_range (w u x : Nat) : -1 ≤ tm w u x ∧ tm w u x ≤ 1 := sg_range _ _
def sps (w n m : Nat) : List Int := (List.range m).map fun u => sumTo (tm w u) (2 ^ n)
theorem sps_len (w n m : Nat) : (sps w n m).length = m := by simp [sps]
theorem sps_succ (w n m : Nat) : sps w n (m + 1) = sps w n m ++ [sumTo (tm w m) (2 ^ n)] := by simp [sps, List.range_succ]
theorem isTn {n w : Nat} (hn : n ≤ 5) (hw : w < 2 ^ 2 ^ n) : isT (n : Int) (w : Int) = true := by
  have h4 : ((w : Nat) : Int) < 2 ^ 2 ^ n := by exact_mod_cast hw
  simp only [isT, Bool.and_eq_true, decide_eq_true_eq, Int.toNat_natCast]
  exact ⟨⟨⟨by omega, by omega⟩, by omega⟩, h4⟩
theorem w_small {n w : Nat} (hn : n ≤ 5) (hw : w < 2 ^ 2 ^ n) : w < 4294967296 :=
  Nat.lt_of_lt_of_le hw (Nat.le_trans (Nat.pow_le_pow_right (by decide) (size_le hn)) (by decide))

theorem spec_spec_inner (N n w u : Nat) (hN : 64 < N) (hn : n ≤ 5) (hw : w < 2 ^ 2 ^ n) (hu : u < 2 ^ n) (L : List Int) (k0 : Int → Int → Int → Int → List Int → Option β) :
    zj80 N N (u : Int) 0 0 (n : Int) (w : Int) L k0 = k0 (u : Int) (sumTo (tm w u) (2 ^ n)) (n : Int) (w : Int) L := by
  have hw' := w_small hn hw
  have hs := size_le hn
  have hz : (0 : Int) ≤ ((2 ^ n : Nat) : Int) := Int.natCast_nonneg _
  refine loop_st (fun F x => zj80 N F (u : Int) (sumTo (tm w u) x) (x : Int) (n : Int) (w : Int) L k0) (2 ^ n) _ (fun F x hx => ?_) (fun F => ?_) N 0 (by omega) (by omega)
  · simp only [zj80, zj79, zb79]
    rw [gd_true (decide_eq_true (by omega)), shl_one n (by omega), decide_eq_true (by omega), cond_true, gd_true (decide_eq_true (by omega)), bit_at w x (by omega)]
    rw [show ((if w.testBit x then 1 else 0 : Nat) : Int) = (bw w x : Int) by rfl, spec_l12Sign_eq N _ hN (by have := bw_le w x; omega), ones_bw]
    rw [bAnd u x (by omega) (by omega), spec_l12Sign_eq N _ hN (Nat.lt_of_le_of_lt Nat.and_le_left (by omega))]
    have h1 := sumTo_le (tm w u) (tm_range w u) x
    have h2 := tm_range w u x
    rw [show sg (bw w x) * sg (ones (u &&& x)) = tm w u x from rfl, w64_id (x := tm w u x) (by omega) (by omega), w64_id (by omega) (by omega), w64_succ x (by omega)]
    rfl
  · simp only [zj80, zj79, zb79]
    rw [gd_true (decide_eq_true (by omega)), shl_one n (by omega), decide_eq_false (by omega), cond_false]

theorem spec_SpectrumOf_n (N n w : Nat) (hN : 64 < N) (hn : n ≤ 5) (hw : w < 2 ^ 2 ^ n) (k : List Int → Option β) : zj83 N (n : Int) (w : Int) k = k (sps w n (2 ^ n)) := by
  have hs := size_le hn
  have hz : (0 : Int) ≤ ((2 ^ n : Nat) : Int) := Int.natCast_nonneg _
  refine loop_st (fun F u => zj82 N F (u : Int) (n : Int) (w : Int) (sps w n u) fun e => k e) (2 ^ n) _ (fun F u hu => ?_) (fun F => ?_) N 0 (by omega) (by omega)
  · simp only [zj82, zj81, zb81]
    rw [spec_IsTable_eq, isTn hn hw, cond_true, gd_true (decide_eq_true (by omega)), shl_one n (by omega), decide_eq_true (by omega), cond_true, spec_spec_inner N n w u hN hn hw hu]
    rw [gd_true (decide_eq_true (by simp [sps_len]; omega)), w64_succ u (by omega), sps_succ]
    rfl
  · simp only [zj82, zj81, zb81]
    rw [spec_IsTable_eq, isTn hn hw, cond_true, gd_true (decide_eq_true (by omega)), shl_one n (by omega), decide_eq_false (by omega), cond_false]

theorem rd_mid (p : List Int) (y : Int) (r : List Int) : rd 0 (p ++ y :: r) (p.length : Int) = y := by
  simp [rd, List.getD]
theorem wr_mid {α : Type} (p : List α) (y z : α) (r : List α) : wr (p ++ y :: r) (p.length : Int) z = p ++ z :: r := by
  simp [wr]

theorem impl_Table_size_eq (N n : Nat) (w : Int) (hn : n ≤ 5) (k : Int → Option β) : zj103 N (n : Int) w k = k ((2 ^ n : Nat) : Int) := by
  unfold zj103 zb103
  rw [gd_true (decide_eq_true (by omega)), shl_one n (by omega)]
theorem impl_Table_at_eq (N w x : Nat) (n : Int) (hw : w < 4294967296) (k : Int → Option β) : zj106 N n (w : Int) (x : Int) k = k (bw w x : Int) := by
  unfold zj106 zb106
  rw [gd_true (decide_eq_true (by omega)), bit_at w x (by omega)]
  rfl

theorem impl_spec_inner (N n w u : Nat) (hN : 64 < N) (hn : n ≤ 5) (hw : w < 2 ^ 2 ^ n) (hu : u < 2 ^ n) (p r : List Int) (hp : p.length = u) (c1 c2 : Int) (k0 : Int → Int → Int → Int → List Int → Option β) :
    zj187 N N (u : Int) c1 c2 ((2 ^ n : Nat) : Int) 0 (n : Int) (w : Int) (p ++ 0 :: r) k0 = k0 c1 c2 (n : Int) (w : Int) (p ++ sumTo (tm w u) (2 ^ n) :: r) := by
  have hw' := w_small hn hw
  have hs := size_le hn
  have hz : (0 : Int) ≤ ((2 ^ n : Nat) : Int) := Int.natCast_nonneg _
  refine loop_st (fun F x => zj187 N F (u : Int) c1 c2 ((2 ^ n : Nat) : Int) (x : Int) (n : Int) (w : Int) (p ++ sumTo (tm w u) x :: r) k0) (2 ^ n) _ (fun F x hx => ?_) (fun F => ?_) N 0 (by omega) (by omega)
  · simp only [zj187, zj186, zb186]
    have hg : decide ((u : Int) < ((p ++ sumTo (tm w u) x :: r).length : Int)) = true := decide_eq_true (by simp; omega)
    rw [decide_eq_true (by omega), cond_true, gd_true (decide_eq_true (by omega)), gd_true hg, impl_Table_at_eq N w x _ hw', bAnd u x (by omega) (by omega), impl_ones_eq N _ (Nat.lt_of_le_of_lt Nat.and_le_left (by omega))]
    have hb := bw_le w x
    have ho := ones_le (u &&& x)
    rw [← Int.natCast_add, w64_nat _ (by omega), impl_sign_eq N _ (by omega), gd_true (decide_eq_true (by omega)), gd_true hg, sg_add]
    have h1 := sumTo_le (tm w u) (tm_range w u) x
    have h2 := tm_range w u x
    rw [show sg (bw w x) * sg (ones (u &&& x)) = tm w u x from rfl, ← hp, rd_mid, wr_mid, hp, w64_id (x := sumTo (tm w u) x + tm w u x) (by omega) (by omega), w64_succ x (by omega)]
    rfl
  · simp only [zj187, zj186, zb186]
    rw [decide_eq_false (by omega), cond_false]

theorem impl_spectrum_n (N n w : Nat) (hN : 64 < N) (hn : n ≤ 5) (hw : w < 2 ^ 2 ^ n) (k : List Int → Option β) : zj190 N (n : Int) (w : Int) k = k (sps w n (2 ^ n)) := by
  have hs := size_le hn
  have hz : (0 : Int) ≤ ((2 ^ n : Nat) : Int) := Int.natCast_nonneg _
  unfold zj190 zb190
  rw [impl_Table_size_eq N n _ hn, gd_true (decide_eq_true (by omega)), gd_true (decide_eq_true (by omega)), gd_true (decide_eq_true (by omega)), Int.toNat_natCast, List.length_replicate]
  have := loop_st (fun F u => zj189 N F ((2 ^ n : Nat) : Int) (u : Int) (n : Int) (w : Int) (sps w n u ++ List.replicate (2 ^ n - u) 0) fun e => k e) (2 ^ n) (k (sps w n (2 ^ n))) (fun F u hu => ?_) (fun F => ?_) N 0 (by omega) (by omega)
  · simpa [sps] using this
  · simp only [zj189, zj188, zb188]
    rw [decide_eq_true (by omega), cond_true, impl_Table_size_eq N n _ hn, show 2 ^ n - u = (2 ^ n - (u + 1)) + 1 by omega, List.replicate_succ]
    rw [impl_spec_inner N n w u hN hn hw hu _ _ (sps_len w n u), w64_succ u (by omega), sps_succ]
    simp
  · simp only [zj189, zj188, zb188]
    rw [decide_eq_false (by omega), cond_false]
    simp

def en (l z : List Int) : Nat → List Int
  | 0 => z
  | i + 1 => wr (en l z i) (ones i : Int) (w64 (rd 0 (en l z i) (ones i : Int) + w64 (rd 0 l (i : Int) * rd 0 l (i : Int))))
theorem ones_small : ∀ n, n ≤ 5 → ∀ i, i < 2 ^ n → ones i ≤ n := by decide +kernel

end Go.Proofs.YtemihnclhcobnaaGreatDoor
namespace Go.Proofs.YtemihnclhcobnaaGreatDoor
open Go.Rv
variable {β : Type}
def in64 (n : Int) : Prop := -9223372036854775808 ≤ n ∧ n ≤ 9223372036854775807
def dgs (m : Nat) : List UInt8 := if m = 0 then [] else Lib.decDigits m
theorem dgs_step (m : Nat) (h : 0 < m) : dgs m = dgs (m / 10) ++ [UInt8.ofNat (48 + m % 10)] := by
  unfold dgs
  rw [if_neg (by omega)]
  by_cases h1 : m < 10
  · rw [Lib.decDigits, dif_pos h1, if_pos (by omega), Nat.mod_eq_of_lt h1]
    rfl
  · rw [if_neg (by omega), Lib.decDigits, dif_neg h1]
theorem dgs_len : ∀ (d m : Nat), m < 10 ^ d → (dgs m).length ≤ d := by
  intro d
  induction d with
  | zero => intro m h; have : m = 0 := by simpa using h
            subst this; simp [dgs]
  | succ d ih =>
    intro m h
    by_cases h0 : m = 0
    · subst h0; simp [dgs]
    · rw [dgs_step m (by omega)]
      have := ih (m / 10) (by rw [Nat.pow_succ] at h; omega)
      simp
      exact this

def sgn (s : Bool) (m : Nat) : Int := cond s (-(m : Int)) m
theorem rem_sgn (s : Bool) (m : Nat) : remI (sgn s m) 10 = sgn s (m % 10) := by
  cases s with
  | false => rfl
  | true =>
    show (-(m : Int)).tmod 10 = -((m % 10 : Nat) : Int)
    rw [Int.neg_tmod]
    rfl
theorem quo_sgn (s : Bool) (m : Nat) (h : m ≤ 9223372036854775808) : quoI .i64 (sgn s m) 10 = sgn s (m / 10) := by
  show w64 ((sgn s m).tdiv 10) = _
  have e : (sgn s m).tdiv 10 = sgn s (m / 10) := by
    cases s with
    | false => rfl
    | true =>
      show (-(m : Int)).tdiv 10 = -((m / 10 : Nat) : Int)
      rw [Int.neg_tdiv]
      rfl
  rw [e]
  cases s <;> simp only [sgn, cond_true, cond_false] <;> rw [w64_id] <;> omega

theorem w8_small (n : Nat) (h : n < 256) : w8 (n : Int) = n := by
  have := IntKind.wrap_u8 (n : Int)
  show IntKind.wrap .u8 (n : Int) = n
  rw [this]
  omega

theorem format_loop (N : Nat) (neg : Bool) (k0 : ByteArray → Bool → Option β) : ∀ (d F m : Nat) (s : Bool) (out : List UInt8), m < 10 ^ d → d < F → out.length + d ≤ 1000 → m ≤ 9223372036854775808 →
    zj18 N F (sgn s m) (B out) neg k0 = k0 (B (dgs m ++ out)) neg := by
  intro d
  induction d with
  | zero =>
    intro F m s out h hF _ _
    obtain ⟨F, rfl⟩ : ∃ G, F = G + 1 := ⟨F - 1, by omega⟩
    have : m = 0 := by simpa using h
    subst this
    cases s <;> rfl
  | succ d ih =>
    intro F m s out h hF ho hm
    obtain ⟨F, rfl⟩ : ∃ G, F = G + 1 := ⟨F - 1, by omega⟩
    by_cases h0 : m = 0
    · subst h0; cases s <;> rfl
    · simp only [zj18, zj17, zb17]
      have hne : (sgn s m != 0) = true := by
        rw [bne_iff_ne]
        cases s <;> simp only [sgn, cond_true, cond_false] <;> omega
      rw [hne, cond_true, rem_sgn, quo_sgn s m hm]
      have hd : w8 (w64 (48 + ((m % 10 : Nat) : Int))) = ((48 + m % 10 : Nat) : Int) := by
        rw [w64_id (by omega) (by omega), show (48 : Int) + ((m % 10 : Nat) : Int) = ((48 + m % 10 : Nat) : Int) by omega, w8_small _ (by omega)]
      have goal : ∀ x : Int, w8 (w64 (48 + x)) = ((48 + m % 10 : Nat) : Int) → gd (decide ((strOf (([] : List Int) ++ [w8 (w64 (48 + x))])).size + (B out).size ≤ 9223372036854775807)) (zj18 N F (sgn s (m / 10)) (strOf (([] : List Int) ++ [w8 (w64 (48 + x))]) ++ B out) neg k0) = k0 (B (dgs m ++ out)) neg := by
        intro x hx
        rw [hx, B_one, B_size, B_size, gd_true (decide_eq_true (by simp; omega)), B_app, Int.toNat_natCast, ih F (m / 10) s _ (by rw [Nat.pow_succ] at h; omega) (by omega) (by simp; omega) (by omega), dgs_step m (by omega)]
        simp
      cases s with
      | false =>
        rw [decide_eq_false (by simp only [sgn, cond_false]; omega), cond_false]
        exact goal _ hd
      | true =>
        by_cases hr : m % 10 = 0
        · rw [decide_eq_false (by simp only [sgn, cond_true]; omega), cond_false]
          exact goal _ (by rw [hr] at hd ⊢; exact hd)
        · rw [decide_eq_true (by simp only [sgn, cond_true]; omega), cond_true]
          refine goal _ ?_
          simp only [sgn, cond_true]
          rw [show w64 (0 - -((m % 10 : Nat) : Int)) = ((m % 10 : Nat) : Int) by rw [w64_id] <;> omega]
          exact hd

theorem pow19 : (9223372036854775808 : Nat) < 10 ^ 19 := by decide
theorem itoa_len (n : Int) (h : in64 n) : (Lib.itoa n).length ≤ 20 ∧ 0 < (Lib.itoa n).length := by
  have key : ∀ m : Nat, m ≤ 9223372036854775808 → (Lib.decDigits m).length ≤ 19 ∧ 0 < (Lib.decDigits m).length := by
    intro m hm
    by_cases h0 : m = 0
    · subst h0; rw [Lib.decDigits, dif_pos (by decide)]; simp
    · have e : dgs m = Lib.decDigits m := if_neg h0
      rw [← e]
      refine ⟨dgs_len 19 m (Nat.lt_of_le_of_lt hm pow19), ?_⟩
      rw [dgs_step m (by omega)]
      simp
  obtain ⟨h1, h2⟩ := h
  unfold Lib.itoa
  split
  · have := key n.natAbs (by omega)
    simp; omega
  · have := key n.toNat (by omega)
    omega

theorem spec_FormatInt_eq (N : Nat) (hN : 64 < N) (n : Int) (h : in64 n) (k : ByteArray → Option β) : zj19 N n k = k (B (Lib.itoa n)) := by
  obtain ⟨h1, h2⟩ := h
  unfold zj19 zb19
  by_cases h0 : n = 0
  · subst h0
    show k (strOf [48]) = _
    congr 1
    unfold Lib.itoa
    rw [if_neg (by decide), Lib.decDigits, dif_pos (by decide)]
    rfl
  · rw [beq_eq_false_iff_ne.2 h0, cond_false, B_nil]
    have e : n = sgn (decide (n < 0)) n.natAbs := by
      by_cases hn : n < 0
      · rw [decide_eq_true hn]; simp only [sgn, cond_true]; omega
      · rw [decide_eq_false hn]; simp only [sgn, cond_false]; omega
    have hl := format_loop N (decide (n < 0)) (fun e0 e1 => cond e1 (gd (decide ((strOf [45]).size + e0.size ≤ 9223372036854775807)) (k (strOf [45] ++ e0))) (k e0)) 19 N n.natAbs (decide (n < 0)) [] (Nat.lt_of_le_of_lt (by omega) pow19) (by omega) (by simp) (by omega)
    rw [← e] at hl
    rw [hl, List.append_nil]
    have hd : dgs n.natAbs = Lib.decDigits n.natAbs := if_neg (by omega)
    have hlen := dgs_len 19 n.natAbs (Nat.lt_of_le_of_lt (by omega) pow19)
    unfold Lib.itoa
    by_cases hn : n < 0
    · rw [decide_eq_true hn, if_pos hn, cond_true, B_strOf, B_size, B_size, gd_true (decide_eq_true (by simp; omega)), B_app, hd]
      rfl
    · rw [decide_eq_false hn, if_neg hn, cond_false, hd, show n.natAbs = n.toNat by omega]
theorem impl_FormatInt_eq (N : Nat) (n : Int) (h : in64 n) (k : ByteArray → Option β) : zj124 N n k = k (B (Lib.itoa n)) := by
  unfold zj124 zb124 strconv_Itoa
  rw [gd_true (decide_eq_true h.1), gd_true (decide_eq_true h.2)]
  rfl

def jn (l : List Int) : Nat → List UInt8
  | 0 => []
  | i + 1 => cond (decide (0 < i)) (jn l i ++ [44]) (jn l i) ++ Lib.itoa (rd 0 l (i : Int))
def textL (l : List Int) : List UInt8 := if l = [] then [110, 111, 110, 101] else jn l l.length
theorem rd_in (l : List Int) (hr : ∀ x ∈ l, in64 x) (i : Nat) (h : i < l.length) : in64 (rd 0 l (i : Int)) := by
  rw [rd_nat 0 l i h]
  exact hr _ (List.getElem_mem h)
theorem jn_len (l : List Int) (hr : ∀ x ∈ l, in64 x) : ∀ i, i ≤ l.length → (jn l i).length ≤ 21 * i ∧ (0 < i → 0 < (jn l i).length)
  | 0, _ => by simp [jn]
  | i + 1, h => by
    have h1 := jn_len l hr i (by omega)
    have h2 := itoa_len _ (rd_in l hr i (by omega))
    simp only [jn]
    cases decide (0 < i) <;> simp only [cond_true, cond_false, List.length_append, List.length_cons, List.length_nil] <;> omega
theorem textL_len (l : List Int) (hr : ∀ x ∈ l, in64 x) : (textL l).length ≤ 21 * l.length + 4 := by
  unfold textL
  split
  · simp
  · have := jn_len l hr l.length (Nat.le_refl _); omega

theorem jn_join (l : List Int) : ∀ (x : Int) (i : Nat), i ≤ l.length → jn (x :: l) (i + 1) = Lib.itoa x ++ Lib.joinTail [44] ((l.map Lib.itoa).take i) := by
  intro x i
  induction i with
  | zero =>
    intro _
    simp [jn, Lib.joinTail, rd, List.getD]
  | succ i ih =>
    intro h
    have e : (l.map Lib.itoa)[i]? = some (Lib.itoa l[i]) := by rw [List.getElem?_map, List.getElem?_eq_getElem (by omega)]; rfl
    rw [Lib.joinTail_take_succ [44] _ i _ e]
    have e2 : jn (x :: l) (i + 1 + 1) = jn (x :: l) (i + 1) ++ [44] ++ Lib.itoa (rd 0 (x :: l) ((i + 1 : Nat) : Int)) := rfl
    rw [e2, ih (by omega), rd_nat 0 (x :: l) (i + 1) (by simp; omega)]
    simp
theorem textL_join (l : List Int) (h : l ≠ []) : textL l = Lib.join (l.map Lib.itoa) [44] := by
  unfold textL
  rw [if_neg h]
  cases l with
  | nil => exact absurd rfl h
  | cons x l =>
    rw [List.length_cons, jn_join l x l.length (Nat.le_refl _), List.map_cons, Lib.join_cons, List.take_of_length_le (by simp)]

theorem spec_l34Numbers_eq (N : Nat) (hN : 1048576 < N) (l : List Int) (hl : l.length ≤ 1000) (hr : ∀ x ∈ l, in64 x) (k : ByteArray → Option β) : zj25 N l k = k (B (textL l)) := by
  unfold zj25 zb25
  have main : ∀ (F i : Nat), i ≤ l.length → l.length - i < F → zj24 N F l (B (jn l i)) (i : Int) (fun e => cond (e.toList == ByteArray.empty.toList) (k (strOf [110, 111, 110, 101])) (k e)) = k (B (textL l)) := by
    intro F
    induction F with
    | zero => intro i _ h; omega
    | succ F ih =>
      intro i hi hF
      simp only [zj24, zj23, zb23]
      rcases Nat.lt_or_ge i l.length with h | h
      · have j1 := jn_len l hr i hi
        have j2 := itoa_len _ (rd_in l hr i h)
        have g1 : decide ((i : Int) < (l.length : Int)) = true := decide_eq_true (by omega)
        have g2 : decide ((0 : Int) ≤ (i : Int)) = true := decide_eq_true (by omega)
        simp only [g1, g2, gd, cond_true, spec_FormatInt_eq N (by omega) _ (rd_in l hr i h)]
        rw [show w64 ((i : Int) + 1) = ((i + 1 : Nat) : Int) by rw [w64_id] <;> omega]
        by_cases h0 : 0 < i
        · rw [decide_eq_true (show (i : Int) > 0 by omega)]
          simp only [cond_true, B_strOf, B_size, B_app]
          rw [decide_eq_true (by simp; omega), cond_true, decide_eq_true (by simp; omega), cond_true]
          have e : jn l (i + 1) = jn l i ++ List.map (fun n => UInt8.ofNat n.toNat) [(44 : Int)] ++ Lib.itoa (rd 0 l (i : Int)) := by
            simp only [jn]
            rw [decide_eq_true h0]
            rfl
          rw [← e]
          exact ih (i + 1) h (by omega)
        · rw [decide_eq_false (show ¬ (i : Int) > 0 by omega)]
          simp only [cond_false, B_size, B_app]
          rw [decide_eq_true (by omega), cond_true]
          have e : jn l (i + 1) = jn l i ++ Lib.itoa (rd 0 l (i : Int)) := by
            simp only [jn]
            rw [decide_eq_false h0]
            rfl
          rw [← e]
          exact ih (i + 1) h (by omega)
      · have : i = l.length := by omega
        subst this
        rw [decide_eq_false (by omega), cond_false, B_nil, B_toList, B_toList]
        unfold textL
        by_cases h0 : l = []
        · subst h0; rfl
        · have j1 := (jn_len l hr l.length hi).2 (by have := List.length_pos_iff.2 h0; omega)
          rw [if_neg h0]
          cases hj : jn l l.length with
          | nil => rw [hj] at j1; simp at j1
          | cons => rfl
  have := main N 0 (by omega) (by omega)
  exact this

theorem impl_listText_eq (N : Nat) (hN : 1048576 < N) (l : List Int) (hl : l.length ≤ 1000) (hr : ∀ x ∈ l, in64 x) (k : ByteArray → Option β) : zj130 N l k = k (B (textL l)) := by
  unfold zj130 zb130
  by_cases h0 : l = []
  · subst h0; rfl
  · have hp := List.length_pos_iff.2 h0
    rw [beq_eq_false_iff_ne.2 (by omega), cond_false, gd_true (decide_eq_true (by omega)), gd_true (decide_eq_true (by omega)), gd_true (decide_eq_true (by omega)), Int.toNat_natCast]
    have main : ∀ (F i : Nat), i ≤ l.length → l.length - i < F → ∀ k0 : List ByteArray → Option β, zj129 N F l (l.length : Int) (i : Int) ((l.take i).map itoaB ++ List.replicate (l.length - i) ByteArray.empty) k0 = k0 (l.map itoaB) := by
      intro F
      induction F with
      | zero => intro i _ h; omega
      | succ F ih =>
        intro i hi hF k0
        simp only [zj129, zj128, zb128]
        rcases Nat.lt_or_ge i l.length with h | h
        · have g1 : decide ((i : Int) < (l.length : Int)) = true := decide_eq_true (by omega)
          have g2 : decide ((0 : Int) ≤ (i : Int)) = true := decide_eq_true (by omega)
          simp only [g1, g2, gd, cond_true]
          rw [impl_FormatInt_eq N _ (rd_in l hr i h), decide_eq_true (by simp; omega), cond_true]
          rw [show w64 ((i : Int) + 1) = ((i + 1 : Nat) : Int) by rw [w64_id] <;> omega, show l.length - i = (l.length - (i + 1)) + 1 by omega, List.replicate_succ]
          have e : wr ((l.take i).map itoaB ++ ByteArray.empty :: List.replicate (l.length - (i + 1)) ByteArray.empty) (i : Int) (B (Lib.itoa (rd 0 l (i : Int)))) = (l.take (i + 1)).map itoaB ++ List.replicate (l.length - (i + 1)) ByteArray.empty := by
            rw [rd_nat 0 l i h, List.take_add_one, List.getElem?_eq_getElem h]
            have hlen : ((l.take i).map itoaB).length = i := by simp; omega
            have hw : ∀ (p r : List ByteArray) (y z : ByteArray), wr (p ++ y :: r) (p.length : Int) z = p ++ z :: r := by intro p r y z; simp [wr]
            have := hw ((l.take i).map itoaB) (List.replicate (l.length - (i + 1)) ByteArray.empty) ByteArray.empty (B (Lib.itoa l[i]))
            rw [hlen] at this
            rw [this, List.map_append, List.append_assoc]
            rfl
          rw [e]
          exact ih (i + 1) h (by omega) k0
        · have : i = l.length := by omega
          subst this
          rw [decide_eq_false (by omega), cond_false]
          simp
    have := main N 0 (by omega) (by omega) fun e => strings_Join N e (strOf [44]) fun r4 => k r4
    simp only [List.take_zero, List.map_nil, List.nil_append, Nat.sub_zero] at this
    refine this.trans ?_
    have hj : joinB (l.map itoaB) (strOf [44]) = B (textL l) := by
      rw [textL_join l h0]
      unfold joinB B
      rw [List.map_map]
      congr 3
    have htl := textL_len l hr
    unfold strings_Join
    rw [hj, gd_true (decide_eq_true (by simp; omega)), gd_true (decide_eq_true (by rw [B_size]; omega))]
end Go.Proofs.YtemihnclhcobnaaGreatDoor
namespace Go.Proofs.YtemihnclhcobnaaGreatDoor
open Go.Rv
variable {β : Type}
theorem zeros_in (n : Nat) : ∀ y ∈ List.replicate n (0 : Int), in64 y := by
  intro y hy
  have := (List.mem_replicate.1 hy).2
  subst this
  unfold in64; omega
end Go.Proofs.YtemihnclhcobnaaGreatDoor
namespace Go.Proofs.YtemihnclhcobnaaGreatDoor
open Go.Rv
variable {β : Type}
theorem bw_eq1 (w x : Nat) : ((bw w x : Int) == 1) = w.testBit x := by unfold bw; cases w.testBit x <;> rfl
theorem bit_w (w x : Nat) (hw : w < 9223372036854775808) : bits .and .i64 (shrI .i64 (w : Int) (x : Int)) 1 = (bw w x : Int) := bit_at w x hw

def allTo (p : Nat → Bool) : Nat → Bool
  | 0 => true
  | m + 1 => allTo p m && p m
theorem allTo_spec {p : Nat → Bool} : ∀ {m : Nat}, allTo p m = true → ∀ i, i < m → p i = true
  | 0, _, i, h => by omega
  | m + 1, h, i, hi => by
    simp only [allTo, Bool.and_eq_true] at h
    rcases Nat.lt_or_ge i m with h1 | h1
    · exact allTo_spec h.1 i h1
    · have : i = m := by omega
      subst this; exact h.2
theorem allTo_of {p : Nat → Bool} : ∀ {m : Nat}, (∀ i, i < m → p i = true) → allTo p m = true
  | 0, _ => rfl
  | m + 1, h => by
    simp only [allTo, Bool.and_eq_true]
    exact ⟨allTo_of fun i hi => h i (by omega), h m (by omega)⟩
theorem allTo_eq {p q : Nat → Bool} {m m' : Nat} (h : (∀ i, i < m → p i = true) ↔ (∀ i, i < m' → q i = true)) : allTo p m = allTo q m' := by
  cases h1 : allTo p m with
  | true => exact (allTo_of (h.1 (allTo_spec h1))).symm
  | false =>
    cases h2 : allTo q m' with
    | false => rfl
    | true => rw [allTo_of (h.2 (allTo_spec h2))] at h1; cases h1
theorem loop_all (g : Nat → Nat → Option β) (p : Nat → Bool) (m : Nat) (r0 r1 : Option β) (hs : ∀ F i, i < m → g (F + 1) i = cond (p i) (g F (i + 1)) r0) (he : ∀ F, g (F + 1) m = r1) :
    ∀ F, m < F → g F 0 = cond (allTo p m) r1 r0 := by
  have key : ∀ (F i : Nat), i ≤ m → m - i < F → allTo p i = true → g F i = cond (allTo p m) r1 r0 := by
    intro F
    induction F with
    | zero => intro i _ h; omega
    | succ F ih =>
      intro i hi hF ha
      rcases Nat.lt_or_ge i m with h | h
      · rw [hs F i h]
        cases hp : p i with
        | true => exact ih (i + 1) h (by omega) (by simp only [allTo, ha, hp, Bool.and_self])
        | false =>
          have : allTo p m = false := by
            cases hm : allTo p m with
            | false => rfl
            | true => rw [allTo_spec hm i h] at hp; cases hp
          rw [this]; rfl
      · have : i = m := by omega
        subst this
        rw [he, ha]; rfl
  intro F hF
  exact key F 0 (Nat.zero_le _) (by omega) rfl

theorem xor_zero {a b : Nat} (h : a ^^^ b = 0) : a = b := by
  have : a ^^^ b ^^^ b = b := by rw [h, Nat.zero_xor]
  rwa [Nat.xor_assoc, Nat.xor_self, Nat.xor_zero] at this
theorem bit_eq1 (c : Bool) : (((if c then 1 else 0 : Nat) : Int) == 1) = c := by cases c <;> rfl
theorem spread_sm : ∀ x : Nat, x < 16 → ∀ i : Nat, i < 5 → ∀ b : Nat, b < 2 → bits .or .i64 (bits .or .i64 (shlI .i64 (w64 ((x : Int) - bits .and .i64 (x : Int) (w64 (shlI .i64 1 (i : Int) - 1)))) 1) (shlI .i64 (b : Int) (i : Int))) (bits .and .i64 (x : Int) (w64 (shlI .i64 1 (i : Int) - 1))) = (ins x i b : Int) := by decide +kernel
theorem impl_restr_eq (N : Nat) (hN : 64 < N) (n w i b : Nat) (hn : n ≤ 5) (hi : i < n) (hw : w < 4294967296) (hb : b < 2) (k : Int → Int → Option β) :
    zj115 N (n : Int) (w : Int) (i : Int) (b : Int) k = k ((n - 1 : Nat) : Int) (tabw (fun x => w.testBit (ins x i b)) (2 ^ (n - 1)) : Int) := by
  unfold zj115 zb115
  have hs : 2 ^ (n - 1) ≤ 16 := Nat.le_trans (Nat.pow_le_pow_right (by decide) (by omega : n - 1 ≤ 4)) (by decide)
  rw [show (n : Int) - 1 = ((n - 1 : Nat) : Int) by omega, w64_nat _ (by omega), makeTable_eq N hN (n - 1) (by omega) _ (fun x => w.testBit (ins x i b)) fun x k hx => ?_]
  unfold zj107 zb107 zj105 zb105 zj106 zb106
  rw [gd_true (decide_eq_true (by omega : (0 : Int) ≤ (i : Int))), gd_true (decide_eq_true (by omega : (0 : Int) ≤ (i : Int))), spread_sm x (by omega) i (by omega) b hb]
  show gd (decide ((0 : Int) ≤ ((ins x i b : Nat) : Int))) (k (bits .and .i64 (shrI .i64 (w : Int) ((ins x i b : Nat) : Int)) 1 == 1)) = _
  rw [gd_true (decide_eq_true (Int.natCast_nonneg _)), bit_at w _ (by omega), bit_eq1]
theorem impl_deps_eq (N : Nat) (hN : 64 < N) (n w i : Nat) (hn : n ≤ 5) (hi : i < n) (hw : w < 4294967296) (k : Bool → Option β) : zj116 N (n : Int) (w : Int) (i : Int) k = k (dep w n i) := by
  unfold zj116 zb116
  have e0 := fun k => impl_restr_eq (β := β) N hN n w i 0 hn hi hw (by decide) k
  have e1 := fun k => impl_restr_eq (β := β) N hN n w i 1 hn hi hw (by decide) k
  simp only [Int.natCast_zero] at e0
  have e1 : ∀ k : Int → Int → Option β, zj115 N (n : Int) (w : Int) (i : Int) 1 k = k ((n - 1 : Nat) : Int) (tabw (fun x => w.testBit (ins x i 1)) (2 ^ (n - 1)) : Int) := e1
  simp only [e0, e1]
  congr 1
  unfold dep
  rw [beq_self_eq_true, Bool.true_and, bne]
  congr 1
  rw [Bool.eq_iff_iff, beq_iff_eq, beq_iff_eq]
  omega
def R (w n i b : Nat) : Nat := tabw (fun x => w.testBit (ins x i b)) (2 ^ (n - 1))
theorem R_lt (w n i b : Nat) (hn : n ≤ 5) : R w n i b < 9223372036854775808 :=
  Nat.lt_of_lt_of_le (tabw_lt _ _) (Nat.le_trans (Nat.pow_le_pow_right (by decide) (Nat.le_trans (Nat.pow_le_pow_right (by decide) (by omega : n - 1 ≤ 5)) (by decide : 2 ^ 5 ≤ 32))) (by decide))
def mono (w n i : Nat) : Bool := (R w n i 0 &&& R w n i 1) == R w n i 0
theorem spec_mono (N n w : Nat) (hN : 64 < N) (hn : n ≤ 5) (hw : w < 2 ^ 2 ^ n) (k : Bool → Option β) : zj54 N (n : Int) (w : Int) k = k (allTo (mono w n) n) := by
  have hw' := w_small hn hw
  unfold zj54 zb54
  have := loop_all (fun F i => zj53 N F (i : Int) (n : Int) (w : Int) (fun e => k e) (k true)) (mono w n) n (k false) (k true) (fun F i hi => ?_) (fun F => ?_) N (by omega)
  · refine this.trans ?_
    cases allTo (mono w n) n <;> rfl
  · simp only [zj53, zj52, zb52]
    have e0 := fun k => spec_l3Restrict_eq (β := β) N hN n w i 0 hn hi hw' (by decide) k
    have e1 := fun k => spec_l3Restrict_eq (β := β) N hN n w i 1 hn hi hw' (by decide) k
    simp only [Int.natCast_zero, Int.natCast_one] at e0 e1
    rw [decide_eq_true (show (i : Int) < (n : Int) by omega), cond_true, e0, e1]
    show cond (bits .and .i64 (R w n i 0 : Int) (R w n i 1 : Int) != (R w n i 0 : Int)) _ _ = _
    rw [bAnd _ _ (R_lt w n i 0 hn) (R_lt w n i 1 hn), w64_succ i (by omega)]
    unfold mono
    by_cases h : R w n i 0 &&& R w n i 1 = R w n i 0
    · rw [h, beq_self_eq_true]; simp
    · rw [beq_eq_false_iff_ne.2 h, bne_iff_ne.2 fun e => h (by exact_mod_cast e)]; rfl
  · simp only [zj53, zj52, zb52]
    rw [decide_eq_false (by omega), cond_false]
theorem impl_mono (N n w : Nat) (hN : 64 < N) (hn : n ≤ 5) (hw : w < 2 ^ 2 ^ n) (k : Bool → Option β) : zj162 N (n : Int) (w : Int) k = k (allTo (mono w n) n) := by
  have hw' := w_small hn hw
  unfold zj162 zb162
  have := loop_all (fun F i => zj161 N F (n : Int) (i : Int) (n : Int) (w : Int) (fun e => k e) (k true)) (mono w n) n (k false) (k true) (fun F i hi => ?_) (fun F => ?_) N (by omega)
  · refine this.trans ?_
    cases allTo (mono w n) n <;> rfl
  · simp only [zj161, zj160, zb160]
    have e0 := fun k => impl_restr_eq (β := β) N hN n w i 0 hn hi hw' (by decide) k
    have e1 := fun k => impl_restr_eq (β := β) N hN n w i 1 hn hi hw' (by decide) k
    simp only [Int.natCast_zero, Int.natCast_one] at e0 e1
    rw [decide_eq_true (show (i : Int) < (n : Int) by omega), cond_true, e0, e1]
    show cond (bits .andNot .i64 (R w n i 0 : Int) (R w n i 1 : Int) != 0) _ _ = _
    rw [bAndNot _ _ (R_lt w n i 0 hn) (R_lt w n i 1 hn), w64_succ i (by omega)]
    unfold mono
    by_cases h : R w n i 0 &&& R w n i 1 = R w n i 0
    · rw [h, beq_self_eq_true, Nat.xor_self]; rfl
    · rw [beq_eq_false_iff_ne.2 h]
      have : ((R w n i 0 ^^^ (R w n i 0 &&& R w n i 1) : Nat) : Int) != 0 := by
        rw [bne_iff_ne]
        intro e
        have e : R w n i 0 ^^^ (R w n i 0 &&& R w n i 1) = 0 := by exact_mod_cast e
        exact h (xor_zero e).symm
      rw [this]; rfl
  · simp only [zj161, zj160, zb160]
    rw [decide_eq_false (by omega), cond_false]
end Go.Proofs.YtemihnclhcobnaaGreatDoor
namespace Go.Proofs.YtemihnclhcobnaaGreatDoor
open Go.Rv
variable {β : Type}
end Go.Proofs.YtemihnclhcobnaaGreatDoor
namespace Go.Proofs.YtemihnclhcobnaaGreatDoor
open Go.Rv
variable {β : Type}
end Go.Proofs.YtemihnclhcobnaaGreatDoor
namespace Go.Proofs.YtemihnclhcobnaaGreatDoor
open Go.Rv
variable {β : Type}
def tbits (w m : Nat) : List UInt8 := (List.range m).map fun x => if w.testBit x then 49 else 48
theorem tbits_len (w m : Nat) : (tbits w m).length = m := by simp [tbits]
theorem tbits_succ (w m : Nat) : tbits w (m + 1) = tbits w m ++ [if w.testBit m then 49 else 48] := by simp [tbits, List.range_succ]
theorem spec_FormatTable_n (N n w : Nat) (hN : 64 < N) (hn : n ≤ 5) (hw : w < 2 ^ 2 ^ n) (k : ByteArray → Option β) : zj13 N (n : Int) (w : Int) k = k (B (tbits w (2 ^ n))) := by
  have hw' := w_small hn hw
  have hs := size_le hn
  have hz : (0 : Int) ≤ ((2 ^ n : Nat) : Int) := Int.natCast_nonneg _
  refine loop_st (fun F x => zj12 N F (B (tbits w x)) (x : Int) (n : Int) (w : Int) fun e => k e) (2 ^ n) _ (fun F x hx => ?_) (fun F => ?_) N 0 (by omega) (by omega)
  · simp only [zj12, zj11, zb11]
    rw [spec_IsTable_eq, isTn hn hw, cond_true, gd_true (decide_eq_true (by omega)), shl_one n (by omega), decide_eq_true (by omega), cond_true, gd_true (decide_eq_true (by omega)), bit_w w x (by omega), bw_eq1, w64_succ x (by omega), tbits_succ]
    simp only [B_strOf, B_app, B_size]
    rw [gd_true (decide_eq_true (by simp [tbits_len]; omega)), gd_true (decide_eq_true (by simp [tbits_len]; omega))]
    cases w.testBit x <;> rfl
  · simp only [zj12, zj11, zb11]
    rw [spec_IsTable_eq, isTn hn hw, cond_true, gd_true (decide_eq_true (by omega)), shl_one n (by omega), decide_eq_false (by omega), cond_false]
def ibits (w m : Nat) : List Int := (List.range m).map fun x => 48 + (bw w x : Int)
theorem ibits_len (w m : Nat) : (ibits w m).length = m := by simp [ibits]
theorem ibits_succ (w m : Nat) : ibits w (m + 1) = ibits w m ++ [48 + (bw w m : Int)] := by simp [ibits, List.range_succ]
theorem impl_FormatTable_n (N n w : Nat) (hN : 64 < N) (hn : n ≤ 5) (hw : w < 2 ^ 2 ^ n) (k : ByteArray → Option β) : zj122 N (n : Int) (w : Int) k = k (B (tbits w (2 ^ n))) := by
  have hw' := w_small hn hw
  have hs := size_le hn
  have hz : (0 : Int) ≤ ((2 ^ n : Nat) : Int) := Int.natCast_nonneg _
  unfold zj122 zb122
  rw [impl_IsTable_eq N _ _ (by omega), isTn hn hw, Bool.not_true, cond_false, impl_Table_size_eq N n _ hn, gd_true (decide_eq_true (by omega)), gd_true (decide_eq_true (by omega)), gd_true (decide_eq_true (by omega)), Int.toNat_natCast, List.length_replicate]
  have key := loop_st (fun F x => zj121 N F ((2 ^ n : Nat) : Int) (x : Int) (n : Int) (w : Int) (ibits w x ++ List.replicate (2 ^ n - x) 0) fun e => k (strOf e)) (2 ^ n) (k (B (tbits w (2 ^ n)))) (fun F x hx => ?_) (fun F => ?_) N 0 (by omega) (by omega)
  · simpa [ibits] using key
  · simp only [zj121, zj120, zb120]
    have hb := bw_le w x
    rw [decide_eq_true (by omega), cond_true, impl_Table_at_eq N w x _ hw', gd_true (decide_eq_true (by omega)), gd_true (decide_eq_true (by simp [ibits_len]; omega)), w64_succ x (by omega)]
    rw [w8_small _ (by omega), show (48 : Int) + (bw w x : Int) = ((48 + bw w x : Nat) : Int) by omega, w8_small _ (by omega), show 2 ^ n - x = (2 ^ n - (x + 1)) + 1 by omega, List.replicate_succ, ibits_succ]
    have e := wr_mid (ibits w x) (0 : Int) ((48 + bw w x : Nat) : Int) (List.replicate (2 ^ n - (x + 1)) 0)
    rw [ibits_len] at e
    rw [e]
    simp
  · simp only [zj121, zj120, zb120]
    rw [decide_eq_false (by omega), cond_false]
    congr 1
    rw [B_strOf, Nat.sub_self, List.replicate_zero, List.append_nil]
    congr 1
    unfold ibits tbits
    rw [List.map_map]
    apply List.map_congr_left
    intro x _
    simp only [Function.comp, bw]
    cases w.testBit x <;> rfl

end Go.Proofs.YtemihnclhcobnaaGreatDoor
namespace Go.Proofs.YtemihnclhcobnaaGreatDoor
open Go.Rv
set_option linter.unusedVariables false
variable {β : Type}
def li (l : List Nat) : List Int := l.map Int.ofNat
theorem li_len (l : List Nat) : (li l).length = l.length := by simp [li]
theorem li_rd (l : List Nat) (i : Nat) : rd 0 (li l) (i : Int) = ((l.getD i 0 : Nat) : Int) := by
  simp only [rd, li, Int.toNat_natCast, List.getD_eq_getElem?_getD, List.getElem?_map]
  cases l[i]? <;> rfl
theorem li_snoc (l : List Nat) (x : Nat) : li (l ++ [x]) = li l ++ [(x : Int)] := by simp [li]
theorem take_snoc (L : List Nat) (i : Nat) (hi : i < L.length) : L.take (i + 1) = L.take i ++ [L.getD i 0] := by
  rw [List.take_succ_eq_append_getElem hi, List.getD_eq_getElem?_getD, List.getElem?_eq_getElem hi]
  rfl
end Go.Proofs.YtemihnclhcobnaaGreatDoor
namespace Go.Proofs.YtemihnclhcobnaaGreatDoor
open Go.Rv
set_option linter.unusedVariables false
variable {β : Type}
def dg : Nat → Nat → List Int
  | 0, _ => []
  | n + 1, c => (((c % 7 : Nat) : Int) - 3) :: dg n (c / 7)
theorem dg_len : ∀ n c, (dg n c).length = n
  | 0, _ => rfl
  | n + 1, c => by simp [dg, dg_len n]
theorem dg_snoc : ∀ n c, dg (n + 1) c = dg n c ++ [((c / 7 ^ n % 7 : Nat) : Int) - 3]
  | 0, c => by simp [dg]
  | n + 1, c => by
    rw [dg, dg_snoc n (c / 7), dg, Nat.div_div_eq_div_mul, Nat.pow_succ', List.cons_append]
theorem dg_range : ∀ n c, ∀ a ∈ dg n c, -3 ≤ a ∧ a ≤ 3
  | 0, _, a, h => by simp [dg] at h
  | n + 1, c, a, h => by
    simp only [dg, List.mem_cons] at h
    rcases h with rfl | h
    · omega
    · exact dg_range n _ a h
def inc : List Int → Option (List Int)
  | [] => none
  | a :: l => if a = 3 then (inc l).map ((-3) :: ·) else some ((a + 1) :: l)
theorem inc_dg : ∀ n c, c < 7 ^ n → inc (dg n c) = if c + 1 < 7 ^ n then some (dg n (c + 1)) else none
  | 0, c, h => by simp at h; subst h; rfl
  | n + 1, c, h => by
    rw [Nat.pow_succ] at h
    simp only [dg, inc]
    rw [inc_dg n (c / 7) (by omega), Nat.pow_succ]
    by_cases h6 : c % 7 = 6
    · rw [if_pos (by omega)]
      by_cases h7 : c / 7 + 1 < 7 ^ n
      · rw [if_pos h7, if_pos (by omega)]
        rw [show (c + 1) / 7 = c / 7 + 1 by omega, show (c + 1) % 7 = 0 by omega]
        rfl
      · rw [if_neg h7, if_neg (by omega)]
        rfl
    · rw [if_neg (by omega), if_pos (by omega), show (c + 1) / 7 = c / 7 by omega, show (c + 1) % 7 = c % 7 + 1 by omega]
      congr 2
      omega

def wv (n c : Nat) : List Int := (dg n c).reverse
theorem wv_len (n c : Nat) : (wv n c).length = n := by simp [wv, dg_len]
def okW (w : List Int) : Prop := w.length ≤ 4 ∧ ∀ a ∈ w, -3 ≤ a ∧ a ≤ 3
theorem okW_wv (n c : Nat) (h : n ≤ 4) : okW (wv n c) := ⟨by rw [wv_len]; exact h, fun a ha => dg_range n c a (by simpa [wv] using ha)⟩
theorem okW_rd {w : List Int} (h : okW w) (i : Nat) : -3 ≤ rd 0 w (i : Int) ∧ rd 0 w (i : Int) ≤ 3 := by
  rcases Nat.lt_or_ge i w.length with hi | hi
  · rw [rd_nat 0 w i hi]
    exact h.2 _ (List.getElem_mem hi)
  · have : rd 0 w (i : Int) = 0 := by simp [rd, List.getD, List.getElem?_eq_none hi]
    omega

def wt (w : List Int) (x i : Nat) : Int := if x.testBit i then rd 0 w (i : Int) else 0
theorem wt_le {w : List Int} (h : okW w) (x i : Nat) : -3 ≤ wt w x i ∧ wt w x i ≤ 3 := by
  unfold wt
  split
  · exact okW_rd h i
  · omega
theorem sumTo_le3 (h : Nat → Int) (hb : ∀ i, -3 ≤ h i ∧ h i ≤ 3) : ∀ m : Nat, -(3 * (m : Int)) ≤ sumTo h m ∧ sumTo h m ≤ 3 * (m : Int)
  | 0 => by simp [sumTo]
  | m + 1 => by have := sumTo_le3 h hb m; have := hb m; simp only [sumTo]; omega
def sw (w : List Int) (x : Nat) : Int := sumTo (wt w x) w.length
theorem sw_le {w : List Int} (h : okW w) (x : Nat) : -12 ≤ sw w x ∧ sw w x ≤ 12 := by
  have h1 := sumTo_le3 (wt w x) (wt_le h x) w.length
  have h2 := h.1
  unfold sw
  omega

theorem spec_l16Sum_eq (N : Nat) (hN : 64 < N) (w : List Int) (hw : okW w) (x : Nat) (hx : x < 4294967296) (k : Int → Option β) : zj89 N w (x : Int) k = k (sw w x) := by
  have hl := hw.1
  unfold zj89 zb89
  refine loop_st (fun F i => zj88 N F w (x : Int) (sumTo (wt w x) i) (i : Int) fun e => k e) w.length _ (fun F i hi => ?_) (fun F => ?_) N 0 (by omega) (by omega)
  · simp only [zj88, zj87, zb87]
    have h1 := sumTo_le3 (wt w x) (wt_le hw x) i
    have h2 := okW_rd hw i
    rw [decide_eq_true (by omega), cond_true, gd_true (decide_eq_true (by omega)), bit_at x i (by omega), w64_succ i (by omega)]
    simp only [sumTo, wt]
    cases x.testBit i with
    | true =>
      rw [gd_true rfl, gd_true (decide_eq_true (by omega)), w64_id (by omega) (by omega)]
      rfl
    | false =>
      rw [if_neg (by decide), if_neg (by decide), Int.add_zero]
      rfl
  · simp only [zj88, zj87, zb87]
    rw [decide_eq_false (by omega), cond_false]
    rfl
theorem impl_weightAt_eq (N : Nat) (hN : 64 < N) (w : List Int) (hw : okW w) (x : Nat) (hx : x < 4294967296) (k : Int → Option β) : zj200 N w (x : Int) k = k (sw w x) := by
  have hl := hw.1
  unfold zj200 zb200
  refine loop_st (fun F i => zj199 N F (x : Int) (sumTo (wt w x) i) w (w.length : Int) (i : Int) fun e => k e) w.length _ (fun F i hi => ?_) (fun F => ?_) N 0 (by omega) (by omega)
  · simp only [zj199, zj198, zb198]
    have h1 := sumTo_le3 (wt w x) (wt_le hw x) i
    have h2 := okW_rd hw i
    rw [decide_eq_true (by omega), cond_true, gd_true (decide_eq_true (by omega)), gd_true rfl, gd_true (decide_eq_true (by omega)), bit_at x i (by omega), w64_succ i (by omega)]
    have e : rd 0 w (i : Int) * ((if x.testBit i then 1 else 0 : Nat) : Int) = wt w x i := by
      unfold wt
      cases x.testBit i <;> simp
    have h3 := wt_le hw x i
    rw [e, w64_id (x := wt w x i) (by omega) (by omega), w64_id (by omega) (by omega)]
    rfl
  · simp only [zj199, zj198, zb198]
    rw [decide_eq_false (by omega), cond_false]
    rfl

def lo (h : Nat → Int) (v : Nat → Bool) : Nat → Option Int
  | 0 => none
  | x + 1 => if v x then some (match lo h v x with | none => h x | some y => if h x < y then h x else y) else lo h v x
def hi (h : Nat → Int) (v : Nat → Bool) : Nat → Option Int
  | 0 => none
  | x + 1 => if v x then hi h v x else some (match hi h v x with | none => h x | some y => if h x > y then h x else y)
theorem lo_le {h : Nat → Int} {v : Nat → Bool} (hb : ∀ x, -12 ≤ h x ∧ h x ≤ 12) : ∀ {m : Nat} {y : Int}, lo h v m = some y → -12 ≤ y ∧ y ≤ 12
  | 0, y, e => by cases e
  | m + 1, y, e => by
    have hm := hb m
    simp only [lo] at e
    split at e
    · cases hl : lo h v m with
      | none => rw [hl] at e; cases e; exact hm
      | some z =>
        have := lo_le hb hl
        rw [hl] at e
        cases e
        show -12 ≤ (if h m < z then h m else z) ∧ (if h m < z then h m else z) ≤ 12
        split <;> assumption
    · exact lo_le hb e
theorem hi_le {h : Nat → Int} {v : Nat → Bool} (hb : ∀ x, -12 ≤ h x ∧ h x ≤ 12) : ∀ {m : Nat} {y : Int}, hi h v m = some y → -12 ≤ y ∧ y ≤ 12
  | 0, y, e => by cases e
  | m + 1, y, e => by
    have hm := hb m
    simp only [hi] at e
    split at e
    · exact hi_le hb e
    · cases hl : hi h v m with
      | none => rw [hl] at e; cases e; exact hm
      | some z =>
        have := hi_le hb hl
        rw [hl] at e
        cases e
        show -12 ≤ (if h m > z then h m else z) ∧ (if h m > z then h m else z) ≤ 12
        split <;> assumption
theorem lo_hi (h : Nat → Int) (v : Nat → Bool) : ∀ m, 0 < m → lo h v m = none → (hi h v m).isSome = true
  | 0, hm, _ => by omega
  | m + 1, _, e => by
    simp only [lo] at e
    simp only [hi]
    split at e
    · cases e
    · rename_i hv
      rw [if_neg hv]
      rfl
def thr (W n : Nat) (w : List Int) : Int × Bool :=
  match lo (sw w) W.testBit (2 ^ n) with
  | none => ((hi (sw w) W.testBit (2 ^ n)).getD 0 + 1, true)
  | some l => (l, match hi (sw w) W.testBit (2 ^ n) with | none => true | some m => decide (m < l))

theorem spec_l16Fits_eq (N : Nat) (hN : 64 < N) (n W : Nat) (hn : n ≤ 5) (hW : W < 4294967296) (w : List Int) (hw : okW w) (k : Int → Bool → Option β) :
    zj92 N (n : Int) (W : Int) w k = k (thr W n w).1 (thr W n w).2 := by
  have hs := size_le hn
  have hz : (0 : Int) ≤ ((2 ^ n : Nat) : Int) := Int.natCast_nonneg _
  have hb := fun x => sw_le hw x
  unfold zj92 zb92
  refine loop_st (fun F x => zj91 N F w ((lo (sw w) W.testBit x).getD 100) ((hi (sw w) W.testBit x).getD (-100)) (x : Int) (n : Int) (W : Int) fun e6_0 e6_1 =>
    cond (e6_0 == 100) (k (w64 (e6_1 + 1)) true) (k e6_0 (decide (e6_1 < e6_0)))) (2 ^ n) (k (thr W n w).1 (thr W n w).2) (fun F x hx => ?_) (fun F => ?_) N 0 (by omega) (by omega)
  · simp only [zj91, zj90, zb90]
    have h1 := hb x
    rw [gd_true (decide_eq_true (by omega)), shl_one n (by omega), decide_eq_true (by omega), cond_true, spec_l16Sum_eq N hN w hw x (by omega), gd_true (decide_eq_true (by omega)), bit_at W x (by omega), w64_succ x (by omega)]
    simp only [lo, hi]
    cases W.testBit x with
    | true =>
      rw [if_pos rfl, if_pos rfl, if_pos rfl]
      cases hl : lo (sw w) W.testBit x with
      | none =>
        have e : mnI 100 (sw w x) = sw w x := by unfold mnI; rw [if_pos (by omega)]
        simp only [Option.getD, e]
        rfl
      | some y => rfl
    | false =>
      rw [if_neg (by decide), if_neg (by decide), if_neg (by decide)]
      cases hl : hi (sw w) W.testBit x with
      | none =>
        have e : mxI (-100) (sw w x) = sw w x := by unfold mxI; rw [if_pos (by omega)]
        simp only [Option.getD, e]
        rfl
      | some y => rfl
  · simp only [zj91, zj90, zb90]
    rw [gd_true (decide_eq_true (by omega)), shl_one n (by omega), decide_eq_false (by omega), cond_false]
    unfold thr
    cases hl : lo (sw w) W.testBit (2 ^ n) with
    | none =>
      obtain ⟨y, hy⟩ := Option.isSome_iff_exists.1 (lo_hi (sw w) W.testBit (2 ^ n) (Nat.two_pow_pos n) hl)
      have := hi_le hb hy
      rw [hy]
      show (cond ((100 : Int) == 100) (k (w64 (y + 1)) true) _) = k (y + 1) true
      rw [w64_id (by omega) (by omega)]
      rfl
    | some l =>
      have h2 := lo_le hb hl
      show (cond (l == 100) _ (k l (decide (_ < l)))) = _
      rw [beq_eq_false_iff_ne.2 (by omega), cond_false]
      cases hm : hi (sw w) W.testBit (2 ^ n) with
      | none =>
        show k l (decide (-100 < l)) = k l true
        rw [decide_eq_true (by omega)]
      | some m => rfl

theorem impl_threshold_eq (N : Nat) (hN : 64 < N) (n W : Nat) (hn : n ≤ 5) (hW : W < 4294967296) (w : List Int) (hw : okW w) (k : Int → Bool → Option β) :
    zj203 N (n : Int) (W : Int) w k = k (thr W n w).1 (thr W n w).2 := by
  have hs := size_le hn
  have hz : (0 : Int) ≤ ((2 ^ n : Nat) : Int) := Int.natCast_nonneg _
  have hb := fun x => sw_le hw x
  unfold zj203 zb203
  rw [impl_Table_size_eq N n _ hn]
  refine loop_st (fun F x => zj202 N F w ((lo (sw w) W.testBit x).getD 0) ((hi (sw w) W.testBit x).getD 0) (lo (sw w) W.testBit x).isSome (hi (sw w) W.testBit x).isNone ((2 ^ n : Nat) : Int) (x : Int) (n : Int) (W : Int) fun e12_0 e12_1 e12_2 e12_3 =>
    cond (!e12_2) (k (w64 (e12_1 + 1)) true) (cond e12_3 (k e12_0 true) (k e12_0 (decide (e12_1 < e12_0))))) (2 ^ n) (k (thr W n w).1 (thr W n w).2) (fun F x hx => ?_) (fun F => ?_) N 0 (by omega) (by omega)
  · simp only [zj202, zj201, zb201, impl_Table_at_eq N W x _ hW]
    have h1 := hb x
    rw [decide_eq_true (by omega), cond_true, impl_weightAt_eq N hN w hw x (by omega), w64_succ x (by omega)]
    simp only [lo, hi, bw]
    cases W.testBit x with
    | true =>
      rw [if_pos rfl, if_pos rfl, if_pos rfl]
      cases hl : lo (sw w) W.testBit x with
      | none => rfl
      | some y =>
        by_cases hlt : sw w x < y
        · simp only [Option.getD, Option.isSome, decide_eq_true hlt, if_pos hlt]; rfl
        · simp only [Option.getD, Option.isSome, decide_eq_false hlt, if_neg hlt]; rfl
    | false =>
      rw [if_neg (by decide), if_neg (by decide), if_neg (by decide)]
      cases hl : hi (sw w) W.testBit x with
      | none => rfl
      | some y =>
        by_cases hlt : sw w x > y
        · simp only [Option.getD, Option.isNone, decide_eq_true hlt, if_pos hlt]; rfl
        · simp only [Option.getD, Option.isNone, decide_eq_false hlt, if_neg hlt]; rfl
  · simp only [zj202, zj201, zb201]
    rw [decide_eq_false (by omega), cond_false]
    unfold thr
    cases hl : lo (sw w) W.testBit (2 ^ n) with
    | none =>
      obtain ⟨y, hy⟩ := Option.isSome_iff_exists.1 (lo_hi (sw w) W.testBit (2 ^ n) (Nat.two_pow_pos n) hl)
      have := hi_le hb hy
      rw [hy]
      show k (w64 (y + 1)) true = k (y + 1) true
      rw [w64_id (by omega) (by omega)]
    | some l =>
      cases hm : hi (sw w) W.testBit (2 ^ n) with
      | none => rfl
      | some m => rfl
end Go.Proofs.YtemihnclhcobnaaGreatDoor
namespace Go.Proofs.YtemihnclhcobnaaGreatDoor
open Go.Rv
set_option linter.unusedVariables false
variable {β : Type}
def ab (d : Int) : Int := mxI d (w64 (0 - d))
theorem ab_le {d : Int} (h : -3 ≤ d ∧ d ≤ 3) : 0 ≤ ab d ∧ ab d ≤ 3 := by
  unfold ab mxI
  rw [w64_id (by omega) (by omega)]
  split <;> omega
def sz : List Int → Int
  | [] => 0
  | a :: l => ab a + sz l
theorem sz_app : ∀ l m, sz (l ++ m) = sz l + sz m
  | [], m => by simp [sz]
  | a :: l, m => by simp only [List.cons_append, sz, sz_app l m]; omega
theorem sz_rev : ∀ l, sz l.reverse = sz l
  | [] => rfl
  | a :: l => by rw [List.reverse_cons, sz_app, sz_rev l]; simp only [sz]; omega
theorem sz_le : ∀ l : List Int, (∀ a ∈ l, -3 ≤ a ∧ a ≤ 3) → 0 ≤ sz l ∧ sz l ≤ 3 * (l.length : Int)
  | [], _ => by simp [sz]
  | a :: l, h => by
    have h1 := sz_le l fun b hb => h b (List.mem_cons_of_mem _ hb)
    have h2 := ab_le (h a List.mem_cons_self)
    simp only [sz, List.length_cons]
    omega
theorem sz_okW {w : List Int} (h : okW w) : 0 ≤ sz w ∧ sz w ≤ 12 := by
  have h1 := sz_le w h.2
  have h2 := h.1
  omega
theorem impl_sumOfSizes_eq (N : Nat) (hN : 64 < N) (w : List Int) (hw : okW w) (k : Int → Option β) : zj206 N w k = k (sz w) := by
  have hl := hw.1
  unfold zj206 zb206
  have e : sz (w.take w.length) = sz w := by rw [List.take_length]
  rw [← e]
  refine loop_st (fun F i => zj205 N F (sz (w.take i)) w (w.length : Int) (i : Int) fun e => k e) w.length _ (fun F i hi => ?_) (fun F => ?_) N 0 (by omega) (by omega)
  · simp only [zj205, zj204, zb204, zj191, zb191]
    have h1 := sz_le (w.take i) fun a ha => hw.2 a (List.mem_of_mem_take ha)
    have h2 := okW_rd hw i
    have h3 := ab_le h2
    have h4 : (w.take i).length ≤ 4 := Nat.le_trans (by rw [List.length_take]; exact Nat.min_le_right _ _) hl
    rw [decide_eq_true (by omega), cond_true, gd_true (decide_eq_true (by omega)), gd_true rfl, w64_succ i (by omega)]
    rw [show mxI (rd 0 w (i : Int)) (w64 (0 - rd 0 w (i : Int))) = ab (rd 0 w (i : Int)) from rfl, w64_id (by omega) (by omega), List.take_succ_eq_append_getElem hi, sz_app, rd_nat 0 w i hi]
    simp only [sz, Int.add_zero]
  · simp only [zj205, zj204, zb204]
    rw [decide_eq_false (by omega), cond_false]

def bst_ (W n : Nat) : Nat → List Int × Int × Bool
  | 0 => ([], 0, false)
  | c + 1 => if (thr W n (wv n c)).2 && (!(bst_ W n c).2.2 || decide (sz (wv n c) < sz (bst_ W n c).1)) then (wv n c, (thr W n (wv n c)).1, true) else bst_ W n c
theorem bst_ok (W n : Nat) (hn : n ≤ 4) : ∀ c, okW (bst_ W n c).1
  | 0 => ⟨Nat.zero_le _, fun a h => by cases h⟩
  | c + 1 => by
    simp only [bst_]
    split
    · exact okW_wv n c hn
    · exact bst_ok W n hn c
theorem pow7 : ∀ n, n ≤ 4 → 7 ^ n ≤ 2401 ∧ ((7 ^ n : Nat) : Int) * 7 ≤ 16807 := by decide +kernel

theorem spec_count7 (N : Nat) (hN : 64 < N) (n W : Nat) (hn : n ≤ 4) (k0 : Int → Int → Int → Option β) : zj94 N N 1 0 (n : Int) (W : Int) k0 = k0 ((7 ^ n : Nat) : Int) n W := by
  refine loop_st (fun F i => zj94 N F ((7 ^ i : Nat) : Int) (i : Int) (n : Int) (W : Int) k0) n _ (fun F i hi => ?_) (fun F => ?_) N 0 (by omega) (by omega)
  · simp only [zj94, zj93, zb93]
    have := pow7 i (by omega)
    rw [decide_eq_true (by omega), cond_true, w64_succ i (by omega), show ((7 ^ i : Nat) : Int) * 7 = ((7 ^ (i + 1) : Nat) : Int) by rw [Nat.pow_succ]; push_cast; rfl, w64_nat _ (by have := pow7 (i + 1) (by omega); omega)]
  · simp only [zj94, zj93, zb93]
    rw [decide_eq_false (by omega), cond_false]

theorem spec_digits (N : Nat) (hN : 64 < N) (n c : Nat) (hn : n ≤ 4) (hc : c < 2401) (v0 v1 v2 v8 : Int) (v9 : List Int) (k0 : Int → Int → Int → Int → Int → Int → Int → List Int → List Int → Option β) :
    zj96 N N v0 v1 v2 (c : Int) (c : Int) 0 (w64 ((n : Int) - 1)) (n : Int) v8 v9 (List.replicate n 0) k0 = k0 v0 v1 v2 (c : Int) (sz (wv n c)) (n : Int) v8 v9 (wv n c) := by
  have hz : ∀ m, 0 ≤ sz (dg m c) ∧ sz (dg m c) ≤ 3 * (m : Int) := fun m => by
    have := sz_le (dg m c) (dg_range m c)
    rwa [dg_len] at this
  have := loop_st (fun F k => zj96 N F v0 v1 v2 (c : Int) ((c / 7 ^ k : Nat) : Int) (sz (dg k c)) ((n : Int) - 1 - (k : Int)) (n : Int) v8 v9 (List.replicate (n - k) 0 ++ (dg k c).reverse) k0) n
    (k0 v0 v1 v2 (c : Int) (sz (wv n c)) (n : Int) v8 v9 (wv n c)) (fun F k hk => ?_) (fun F => ?_) N 0 (by omega) (by omega)
  · simpa [dg, sz, w64_id (x := (n : Int) - 1) (by omega) (by omega)] using this
  · simp only [zj96, zj95, zb95]
    have h7 : c / 7 ^ k ≤ c := Nat.div_le_self _ _
    have hl : (List.replicate (n - k) (0 : Int) ++ (dg k c).reverse).length = n := by simp [dg_len]; omega
    have er : remI ((c / 7 ^ k : Nat) : Int) 7 = ((c / 7 ^ k % 7 : Nat) : Int) := rfl
    have eq : quoI .i64 ((c / 7 ^ k : Nat) : Int) 7 = ((c / 7 ^ (k + 1) : Nat) : Int) := by
      rw [Nat.pow_succ, ← Nat.div_div_eq_div_mul]
      exact wrap_small _ (Int.natCast_nonneg _) (by have := Nat.div_le_self (c / 7 ^ k) 7; show ((c / 7 ^ k / 7 : Nat) : Int) < _; omega)
    have hd : ∀ x : Int, wr (List.replicate (n - k) (0 : Int) ++ (dg k c).reverse) ((n : Int) - 1 - (k : Int)) x = List.replicate (n - (k + 1)) 0 ++ x :: (dg k c).reverse := fun x => by
      rw [show n - k = (n - (k + 1)) + 1 by omega, List.replicate_succ', List.append_assoc, show (n : Int) - 1 - (k : Int) = ((List.replicate (n - (k + 1)) (0 : Int)).length : Int) by simp; omega]
      exact wr_mid _ _ _ _
    have hr : ∀ x : Int, rd 0 (List.replicate (n - (k + 1)) 0 ++ x :: (dg k c).reverse) ((n : Int) - 1 - (k : Int)) = x := fun x => by
      rw [show (n : Int) - 1 - (k : Int) = ((List.replicate (n - (k + 1)) (0 : Int)).length : Int) by simp; omega]
      exact rd_mid _ _ _
    have hl2 : ∀ x : Int, (List.replicate (n - (k + 1)) (0 : Int) ++ x :: (dg k c).reverse).length = n := fun x => by simp [dg_len]; omega
    have h1 := hz k
    have h2 : -3 ≤ ((c / 7 ^ k % 7 : Nat) : Int) - 3 ∧ ((c / 7 ^ k % 7 : Nat) : Int) - 3 ≤ 3 := by omega
    have h3 := ab_le h2
    rw [er, eq, w64_id (x := ((c / 7 ^ k % 7 : Nat) : Int) - 3) (by omega) (by omega)]
    simp only [hd, hr, hl, hl2]
    rw [decide_eq_true (by omega), decide_eq_true (by omega)]
    simp only [gd, cond_true]
    rw [show mxI (((c / 7 ^ k % 7 : Nat) : Int) - 3) (w64 (0 - (((c / 7 ^ k % 7 : Nat) : Int) - 3))) = ab (((c / 7 ^ k % 7 : Nat) : Int) - 3) from rfl, w64_id (x := sz (dg k c) + _) (by omega) (by omega), w64_id (x := (n : Int) - 1 - (k : Int) - 1) (by omega) (by omega)]
    rw [dg_snoc, sz_app, List.reverse_append]
    simp only [sz, Int.add_zero, List.reverse_cons, List.reverse_nil, List.nil_append, List.cons_append]
    congr 1
    omega
  · simp only [zj96, zj95, zb95]
    rw [decide_eq_false (by omega), cond_false, Nat.sub_self]
    simp only [List.replicate_zero, List.nil_append, wv, sz_rev]

theorem spec_WeightsFor_n (N : Nat) (hN : 1048576 < N) (n W : Nat) (hn : n ≤ 4) (hW : W < 2 ^ 2 ^ n) (k : List Int → Int → Bool → Option β) :
    zj99 N (n : Int) (W : Int) k = k (bst_ W n (7 ^ n)).1 (bst_ W n (7 ^ n)).2.1 (bst_ W n (7 ^ n)).2.2 := by
  have hW' := two32 (by omega) hW
  have h7 := pow7 n hn
  have hz7 : (0 : Int) ≤ ((7 ^ n : Nat) : Int) := Int.natCast_nonneg _
  have hsz : ∀ c, 0 ≤ sz (bst_ W n c).1 ∧ sz (bst_ W n c).1 ≤ 12 := fun c => sz_okW (bst_ok W n hn c)
  unfold zj99 zb99
  rw [spec_IsTable_eq, isTn (by omega) hW, Bool.not_true, cond_false, decide_eq_false (by omega), cond_false, spec_count7 N (by omega) n W hn]
  refine loop_st (fun F c => zj98 N F ((7 ^ n : Nat) : Int) (cond (bst_ W n c).2.2 (sz (bst_ W n c).1) 100) (bst_ W n c).2.1 (c : Int) (n : Int) (W : Int) (bst_ W n c).1 fun e0 e1 e2 => k e2 e1 (decide (e0 < 100))) (7 ^ n) _ (fun F c hc => ?_) (fun F => ?_) N 0 (by omega) (by omega)
  · simp only [zj98, zj97, zb97]
    have h1 := sz_okW (okW_wv n c hn)
    have h2 := hsz c
    rw [decide_eq_true (show (c : Int) < ((7 ^ n : Nat) : Int) by omega), cond_true, gd_true (decide_eq_true (by omega)), gd_true (decide_eq_true (by omega)), gd_true (decide_eq_true (by omega)), Int.toNat_natCast, spec_digits N (by omega) n c hn (by omega), spec_l16Fits_eq N (by omega) n W (by omega) hW' _ (okW_wv n c hn), w64_succ c (by omega)]
    simp only [bst_]
    cases hf : (bst_ W n c).2.2 with
    | false =>
      rw [cond_false, decide_eq_false (by omega), cond_false, Bool.not_false, Bool.true_or, Bool.and_true]
      cases ht : (thr W n (wv n c)).2 with
      | true => rfl
      | false =>
        rw [cond_false, if_neg (by decide), hf]
        rfl
    | true =>
      rw [cond_true, Bool.not_true, Bool.false_or]
      by_cases hlt : sz (wv n c) < sz (bst_ W n c).1
      · rw [decide_eq_false (by omega), cond_false, decide_eq_true hlt, Bool.and_true]
        cases ht : (thr W n (wv n c)).2 with
        | true => rfl
        | false =>
          rw [cond_false, if_neg (by decide), hf]
          rfl
      · rw [decide_eq_true (by omega), cond_true, decide_eq_false hlt, Bool.and_false, if_neg (by decide), hf]
        rfl
  · simp only [zj98, zj97, zb97]
    have h2 := hsz (7 ^ n)
    rw [decide_eq_false (by omega), cond_false]
    cases hf : (bst_ W n (7 ^ n)).2.2 with
    | false => rfl
    | true => rw [cond_true, decide_eq_true (by omega)]

theorem impl_odometer (N : Nat) (b : Int) (f : Bool) (n W : Int) (best : List Int) (k0 : Int → Bool → Int → Int → Int → List Int → List Int → Option β) : ∀ (l : List Int) (F j : Nat), l.length < 5 → l.length < F →
    (inc l = none ∧ zj208 N F b f ((l.length : Int) - 1) n W (l.reverse ++ List.replicate j (-3)) best k0 = k0 b f (-1) n W (List.replicate (l.length + j) (-3)) best) ∨
    (∃ l' q a r, inc l = some l' ∧ l'.reverse ++ List.replicate j (-3) = q ++ (a + 1) :: r ∧ a ∈ l ∧
      zj208 N F b f ((l.length : Int) - 1) n W (l.reverse ++ List.replicate j (-3)) best k0 = k0 b f (q.length : Int) n W (q ++ a :: r) best)
  | [], F, j, hl, hF => by
    obtain ⟨G, rfl⟩ : ∃ G, F = G + 1 := ⟨F - 1, by simp at hF; omega⟩
    refine .inl ⟨rfl, ?_⟩
    simp only [zj208, zj207, zb207]
    rw [show ((([] : List Int).length : Nat) : Int) - 1 = -1 from rfl, decide_eq_false (by omega), cond_false]
    simp
  | a :: l, F, j, hl, hF => by
    obtain ⟨G, rfl⟩ : ∃ G, F = G + 1 := ⟨F - 1, by simp at hF; omega⟩
    simp only [List.length_cons] at hl hF
    have hi : (((a :: l).length : Nat) : Int) - 1 = (l.reverse.length : Int) := by simp
    have e : (a :: l).reverse ++ List.replicate j (-3) = l.reverse ++ a :: List.replicate j (-3) := by simp
    have hlen : decide ((l.reverse.length : Int) < ((l.reverse ++ a :: List.replicate j (-3)).length : Int)) = true := decide_eq_true (by simp; omega)
    rw [hi, e]
    simp only [zj208, zj207, zb207, hlen, rd_mid, wr_mid]
    rw [decide_eq_true (by omega)]
    simp only [gd, cond_true, inc]
    by_cases h3 : a = 3
    · subst h3
      rw [if_pos rfl, show ((3 : Int) == 3) = true from rfl, cond_true, show w64 ((l.reverse.length : Int) - 1) = ((l.length : Nat) : Int) - 1 by rw [List.length_reverse, w64_id (by omega) (by omega)]]
      have e2 : l.reverse ++ (-3) :: List.replicate j (-3) = l.reverse ++ List.replicate (j + 1) (-3) := by rw [List.replicate_succ]
      rw [e2]
      rcases impl_odometer N b f n W best k0 l G (j + 1) (by omega) (by omega) with ⟨h1, h2⟩ | ⟨l', q, a', r, h1, h2, h3, h4⟩
      · refine .inl ⟨by rw [h1]; rfl, ?_⟩
        rw [h2]
        congr 2
        simp; omega
      · refine .inr ⟨-3 :: l', q, a', r, by rw [h1]; rfl, ?_, List.mem_cons_of_mem _ h3, h4⟩
        rw [← h2, List.reverse_cons, List.append_assoc, List.replicate_succ]
        rfl
    · rw [if_neg h3, beq_eq_false_iff_ne.2 h3, cond_false]
      refine .inr ⟨(a + 1) :: l, l.reverse, a, List.replicate j (-3), rfl, by simp, List.mem_cons_self, rfl⟩

theorem impl_WeightsFor_loop (N : Nat) (hN : 1048576 < N) (n W : Nat) (hn : n ≤ 4) (hW : W < 2 ^ 2 ^ n) (k0 : Int → Bool → List Int → Option β) : ∀ (d F c : Nat), c + d + 1 = 7 ^ n → d < F →
    zj210 N F (bst_ W n c).2.1 (bst_ W n c).2.2 (n : Int) (W : Int) (wv n c) (bst_ W n c).1 k0 = k0 (bst_ W n (7 ^ n)).2.1 (bst_ W n (7 ^ n)).2.2 (bst_ W n (7 ^ n)).1 := by
  have hW' := two32 (by omega) hW
  intro d
  induction d with
  | zero =>
    intro F c hc hF
    obtain ⟨G, rfl⟩ : ∃ G, F = G + 1 := ⟨F - 1, by omega⟩
    simp only [zj210, zj209, zb209]
    have hcl : decide ((wv n c).length * 8 ≤ 140737488355328) = true := decide_eq_true (by rw [wv_len]; omega)
    rw [impl_threshold_eq N (by omega) n W (by omega) hW' _ (okW_wv n c hn), impl_sumOfSizes_eq N (by omega) _ (okW_wv n c hn), impl_sumOfSizes_eq N (by omega) _ (bst_ok W n hn c)]
    simp only [slices_Clone_Sint_int, hcl, gd, cond_true]
    have hodo : ∀ (b : Int) (f : Bool) (best : List Int) (K : Int → Bool → Int → Int → Int → List Int → List Int → Option β), zj208 N N b f (w64 ((n : Int) - 1)) n W (wv n c) best K = K b f (-1) n W (List.replicate n (-3)) best := fun b f best K => by
      have := impl_odometer N b f n W best K (dg n c) N 0 (by rw [dg_len]; omega) (by rw [dg_len]; omega)
      rw [inc_dg n c (by omega), if_neg (by omega)] at this
      rcases this with ⟨_, h⟩ | ⟨_, _, _, _, h, _⟩
      · rw [dg_len] at h
        rw [w64_id (by omega) (by omega)]
        simpa [wv] using h
      · cases h
    simp only [hodo]
    rw [show (7 ^ n : Nat) = c + 1 by omega]
    simp only [bst_]
    cases ht : (thr W n (wv n c)).2 with
    | false => rfl
    | true =>
      cases hf : (bst_ W n c).2.2 with
      | false => rfl
      | true =>
        rw [Bool.not_true, Bool.false_or, Bool.true_and, cond_true, cond_false]
        cases hd : decide (sz (wv n c) < sz (bst_ W n c).1) with
        | true => rfl
        | false =>
          rw [if_neg (by decide), hf]
          rfl
  | succ d ih =>
    intro F c hc hF
    obtain ⟨G, rfl⟩ : ∃ G, F = G + 1 := ⟨F - 1, by omega⟩
    simp only [zj210, zj209, zb209]
    have hcl : decide ((wv n c).length * 8 ≤ 140737488355328) = true := decide_eq_true (by rw [wv_len]; omega)
    rw [impl_threshold_eq N (by omega) n W (by omega) hW' _ (okW_wv n c hn), impl_sumOfSizes_eq N (by omega) _ (okW_wv n c hn), impl_sumOfSizes_eq N (by omega) _ (bst_ok W n hn c)]
    simp only [slices_Clone_Sint_int, hcl, gd, cond_true]
    have hodo : ∀ (b : Int) (f : Bool) (best : List Int) (K : Int → Bool → Int → Int → List Int → List Int → Option β), (zj208 N N b f (w64 ((n : Int) - 1)) n W (wv n c) best fun e0 e1 e2 e3 e4 e5 e6 =>
        cond (decide (e2 < 0)) (k0 e0 e1 e6) (cond (decide (0 ≤ e2)) (cond (decide (e2 < (e5.length : Int))) (cond (decide (0 ≤ e2)) (cond (decide (e2 < (e5.length : Int))) (K e0 e1 e3 e4 (wr e5 e2 (w64 (rd 0 e5 e2 + 1))) e6) none) none) none) none)) = K b f n W (wv n (c + 1)) best := fun b f best K => by
      have := impl_odometer N b f n W best (fun e0 e1 e2 e3 e4 e5 e6 =>
        cond (decide (e2 < 0)) (k0 e0 e1 e6) (cond (decide (0 ≤ e2)) (cond (decide (e2 < (e5.length : Int))) (cond (decide (0 ≤ e2)) (cond (decide (e2 < (e5.length : Int))) (K e0 e1 e3 e4 (wr e5 e2 (w64 (rd 0 e5 e2 + 1))) e6) none) none) none) none)) (dg n c) N 0 (by rw [dg_len]; omega) (by rw [dg_len]; omega)
      rw [inc_dg n c (by omega), if_pos (by omega)] at this
      rcases this with ⟨h, _⟩ | ⟨l', q, a, r, h1, h2, h3, h4⟩
      · cases h
      · cases h1
        have ha := dg_range n c a h3
        rw [dg_len] at h4
        rw [w64_id (by omega) (by omega)]
        have e : (dg n c).reverse ++ List.replicate 0 (-3) = wv n c := by simp [wv]
        rw [e] at h4
        rw [h4, decide_eq_false (by omega), cond_false, decide_eq_true (by omega), cond_true, decide_eq_true (by simp; omega), cond_true, cond_true, cond_true, rd_mid, wr_mid, w64_id (by omega) (by omega), ← h2]
        simp [wv]
    have key := ih G (c + 1) (by omega) (by omega)
    simp only [bst_] at key
    cases ht : (thr W n (wv n c)).2 with
    | false =>
      rw [ht, Bool.false_and, if_neg (by decide)] at key
      rw [cond_false]
      refine (hodo _ _ _ (fun a b c d e f => zj210 N G a b c d e f k0)).trans ?_
      exact key
    | true =>
      rw [ht, Bool.true_and] at key
      rw [cond_true]
      cases hf : (bst_ W n c).2.2 with
      | false =>
        rw [hf, Bool.not_false, Bool.true_or, if_pos rfl] at key
        rw [Bool.not_false, cond_true]
        refine (hodo _ _ _ (fun a b c d e f => zj210 N G a b c d e f k0)).trans ?_
        exact key
      | true =>
        rw [hf, Bool.not_true, Bool.false_or] at key
        rw [Bool.not_true, cond_false]
        cases hd : decide (sz (wv n c) < sz (bst_ W n c).1) with
        | true =>
          rw [hd, if_pos rfl] at key
          rw [cond_true]
          refine (hodo _ _ _ (fun a b c d e f => zj210 N G a b c d e f k0)).trans ?_
          exact key
        | false =>
          rw [hd, if_neg (by decide), hf] at key
          rw [cond_false]
          refine (hodo _ _ _ (fun a b c d e f => zj210 N G a b c d e f k0)).trans ?_
          exact key

theorem impl_WeightsFor_n (N : Nat) (hN : 1048576 < N) (n W : Nat) (hn : n ≤ 4) (hW : W < 2 ^ 2 ^ n) (k : List Int → Int → Bool → Option β) :
    zj211 N (n : Int) (W : Int) k = k (bst_ W n (7 ^ n)).1 (bst_ W n (7 ^ n)).2.1 (bst_ W n (7 ^ n)).2.2 := by
  have hW' := two32 (by omega) hW
  have hsm : smallT (n : Int) (W : Int) 4 = true := by unfold smallT; rw [isTn (by omega) hW, decide_eq_true (by omega)]; rfl
  unfold zj211 zb211
  rw [impl_isSmall_eq N _ _ 4 (by omega), hsm, Bool.not_true, cond_false]
  unfold slices_Repeat_Sint_int
  rw [gd_true (by rfl), gd_true (decide_eq_true (by omega)), gd_true (decide_eq_true (by omega)), Int.toNat_natCast]
  have e : ∀ m, List.replicate m (-3) = wv m 0 := fun m => by
    unfold wv
    have : ∀ m, dg m 0 = List.replicate m (-3) := fun m => by
      induction m with
      | zero => rfl
      | succ m ih => rw [dg, List.replicate_succ, Nat.zero_div, ih]; rfl
    rw [this m, List.reverse_replicate]
  have e2 : (([] : List Int) ++ [-3]).getD 0 0 = -3 := rfl
  have h7 := pow7 n hn
  have hz7 : (0 : Int) ≤ ((7 ^ n : Nat) : Int) := Int.natCast_nonneg _
  have hp : 0 < 7 ^ n := Nat.pow_pos (by decide)
  rw [e2, e n]
  exact impl_WeightsFor_loop N hN n W hn hW (fun a b c => k c a b) (7 ^ n - 1) N 0 (by omega) (by omega)
end Go.Proofs.YtemihnclhcobnaaGreatDoor
namespace Go.Proofs.YtemihnclhcobnaaGreatDoor
open Go.Rv
set_option linter.unusedVariables false
variable {β : Type}
def ext4 (n : Nat) : Nat → List Nat → List (List Nat)
  | 0, p => [p]
  | d + 1, p => (List.range n).flatMap fun x => if p.contains x then [] else ext4 n d (p ++ [x])
theorem flatMap_len {α : Type} (f : Nat → List α) (b : Nat) (h : ∀ x, (f x).length ≤ b) : ∀ m, ((List.range m).flatMap f).length ≤ m * b
  | 0 => by simp
  | m + 1 => by
    have h1 := flatMap_len f b h m
    have h2 := h m
    rw [List.range_succ, List.flatMap_append, List.length_append, List.flatMap_singleton, Nat.succ_mul]
    omega
theorem ext4_len (n : Nat) : ∀ d p, (ext4 n d p).length ≤ n ^ d
  | 0, p => by simp [ext4]
  | d + 1, p => by
    simp only [ext4]
    rw [Nat.pow_succ, Nat.mul_comm]
    refine flatMap_len _ _ (fun x => ?_) n
    split
    · exact Nat.zero_le _
    · exact ext4_len n d _
def prm (n : Nat) : List (List Nat) := ext4 n n []
def permB (n : Nat) (p : List Nat) : Bool := Nat.beq p.length n && ((List.range n).all fun i => p.contains i) && p.all (fun x => decide (x < n)) && ((List.range n).all fun i => (List.range i).all fun j => p.getD j 0 != p.getD i 0)
theorem prm_ok : ∀ n, n ≤ 4 → ((prm n).all (permB n) && decide (0 < (prm n).length) && decide ((prm n).length ≤ 24)) = true := by decide +kernel
theorem pow4 : ∀ n, n ≤ 4 → ∀ d, d ≤ 4 → n ^ d ≤ 256 := by decide +kernel
def lii (l : List (List Nat)) : List (List Int) := l.map li
theorem lii_app (l m : List (List Nat)) : lii (l ++ m) = lii l ++ lii m := by simp [lii]
theorem li_any (l : List Nat) (x : Nat) (h : l.length ≤ 100) (N : Nat) (hN : 1048576 < N) (n : Int) (out : List (List Int)) (K0 : Int → List Int → Int → Bool → List (List Int) → Option β) :
    zj27 N N n (li l) (x : Int) false 0 out K0 = K0 n (li l) x (l.contains x) out := by
  have e : l.contains x = (l.take l.length).contains x := by rw [List.take_length]
  rw [e]
  refine loop_st (fun F j => zj27 N F n (li l) (x : Int) ((l.take j).contains x) (j : Int) out K0) l.length _ (fun F j hj => ?_) (fun F => ?_) N 0 (by omega) (by omega)
  · simp only [zj27, zj26, zb26, li_len, li_rd]
    rw [decide_eq_true (by omega), cond_true, w64_succ j (by omega), take_snoc l j hj, List.contains_append, List.contains_cons, List.contains_nil, Bool.or_false]
    cases (l.take j).contains x with
    | true => rfl
    | false =>
      rw [cond_false, gd_true (decide_eq_true (by omega)), gd_true rfl, Bool.false_or]
      congr 1
      rw [Bool.eq_iff_iff, beq_iff_eq, beq_iff_eq]
      omega
  · simp only [zj27, zj26, zb26, li_len]
    rw [decide_eq_false (by omega), cond_false]

theorem spec_perms_f (N : Nat) (hN : 1048576 < N) (n : Nat) (hn : n ≤ 4) : ∀ (d F : Nat) (p : List Nat), p.length + d = n → d < F → ∀ K : List (List Int) → Option β,
    zj31 N F (n : Int) (li p) K = K (lii (ext4 n d p)) := by
  intro d
  induction d with
  | zero =>
    intro F p hp hF K
    obtain ⟨G, rfl⟩ : ∃ G, F = G + 1 := ⟨F - 1, by omega⟩
    simp only [zj31, zj30, zb30, li_len]
    rw [beq_iff_eq.2 (by omega : (p.length : Int) = (n : Int)), cond_true]
    rfl
  | succ d ih =>
    intro F p hp hF K
    obtain ⟨G, rfl⟩ : ∃ G, F = G + 1 := ⟨F - 1, by omega⟩
    simp only [zj31, zj30, zb30, li_len]
    rw [beq_eq_false_iff_ne.2 (by omega : (p.length : Int) ≠ (n : Int)), cond_false]
    have hpw := pow4 n hn d (by omega)
    refine loop_st (fun H x => zj29 N (zj31 N G) H (n : Int) (li p) (x : Int) (lii ((List.range x).flatMap fun x => if p.contains x then [] else ext4 n d (p ++ [x]))) fun e => K e) n _ (fun H x hx => ?_) (fun H => ?_) N 0 (by omega) (by omega)
    · simp only [zj29, zj28, zb28]
      rw [decide_eq_true (by omega), cond_true, li_any p x (by omega) N hN, List.range_succ, List.flatMap_append, List.flatMap_singleton]
      have hl := flatMap_len (fun x => if p.contains x then [] else ext4 n d (p ++ [x])) 256 (fun x => by
        have := ext4_len n d (p ++ [x])
        show (if p.contains x then [] else ext4 n d (p ++ [x])).length ≤ 256
        split
        · exact Nat.zero_le _
        · omega) x
      cases hc : p.contains x with
      | true =>
        rw [Bool.not_true, cond_false, if_pos rfl, List.append_nil, w64_succ x (by omega)]
      | false =>
        have hlen := ext4_len n d (p ++ [x])
        rw [Bool.not_false, cond_true, if_neg (by decide)]
        simp only [List.nil_append]
        rw [gd_true (decide_eq_true (by simp [li_len]; omega)), gd_true (decide_eq_true (by simp [li_len]; omega)), ← li_snoc, ih G (p ++ [x]) (by simp; omega) (by omega), gd_true (decide_eq_true (by simp only [lii, List.length_map]; omega)), w64_succ x (by omega), lii_app]
    · simp only [zj29, zj28, zb28]
      rw [decide_eq_false (by omega), cond_false]
      rfl
theorem spec_perms_eq (N : Nat) (hN : 1048576 < N) (n : Nat) (hn : n ≤ 4) (K : List (List Int) → Option β) : zj32 N (n : Int) [] K = K (lii (prm n)) := by
  unfold zj32
  exact spec_perms_f N hN n hn n N [] (by simp) (by omega) K

def usedL (n : Nat) (p : List Nat) : List Bool := (List.range n).map fun x => p.contains x
theorem usedL_len (n : Nat) (p : List Nat) : (usedL n p).length = n := by simp [usedL]
theorem usedL_rd (n : Nat) (p : List Nat) (x : Nat) (h : x < n) : rd false (usedL n p) (x : Int) = p.contains x := by
  rw [rd_nat false _ x (by rw [usedL_len]; exact h)]
  simp [usedL]
theorem usedL_put (n : Nat) (p : List Nat) (x : Nat) : wr (usedL n p) (x : Int) true = usedL n (p ++ [x]) := by
  refine List.ext_getElem (by simp [wr, usedL]) fun i h1 h2 => ?_
  simp only [wr, usedL, Int.toNat_natCast, List.getElem_set, List.getElem_map, List.getElem_range]
  rw [List.contains_append, List.contains_cons, List.contains_nil, Bool.or_false]
  by_cases e : x = i
  · rw [if_pos e, e, beq_self_eq_true, Bool.or_true]
  · rw [if_neg e, beq_eq_false_iff_ne.2 (fun h => e h.symm), Bool.or_false]
theorem usedL_back (n : Nat) (p : List Nat) (x : Nat) (hx : p.contains x = false) : wr (usedL n (p ++ [x])) (x : Int) false = usedL n p := by
  refine List.ext_getElem (by simp [wr, usedL]) fun i h1 h2 => ?_
  simp only [wr, usedL, Int.toNat_natCast, List.getElem_set, List.getElem_map, List.getElem_range]
  rw [List.contains_append, List.contains_cons, List.contains_nil, Bool.or_false]
  by_cases e : x = i
  · rw [if_pos e, ← e, hx]
  · rw [if_neg e, beq_eq_false_iff_ne.2 (fun h => e h.symm), Bool.or_false]
theorem impl_perms_f (N : Nat) (hN : 1048576 < N) (n : Nat) (hn : n ≤ 4) : ∀ (d F : Nat) (p : List Nat) (out : List (List Int)), p.length + d = n → d < F → out.length + 2000 * d ≤ 100000 → ∀ K : Int → List Int → List (List Int) → List Bool → Option β,
    zj135 N F (n : Int) (li p) out (usedL n p) K = K n (li p) (out ++ lii (ext4 n d p)) (usedL n p) := by
  intro d
  induction d with
  | zero =>
    intro F p out hp hF ho K
    obtain ⟨G, rfl⟩ : ∃ G, F = G + 1 := ⟨F - 1, by omega⟩
    simp only [zj135, zj134, zb134, li_len]
    rw [beq_iff_eq.2 (by omega : (p.length : Int) = (n : Int)), cond_true]
    simp only [List.nil_append]
    rw [gd_true (decide_eq_true (by simp; omega)), gd_true (decide_eq_true (by simp; omega))]
    rfl
  | succ d ih =>
    intro F p out hp hF ho K
    obtain ⟨G, rfl⟩ : ∃ G, F = G + 1 := ⟨F - 1, by omega⟩
    simp only [zj135, zj134, zb134, li_len]
    rw [beq_eq_false_iff_ne.2 (by omega : (p.length : Int) ≠ (n : Int)), cond_false]
    have hpw := pow4 n hn d (by omega)
    have h := loop_st (fun H x => zj133 N (zj135 N G) H (n : Int) (x : Int) (n : Int) (li p) (out ++ lii ((List.range x).flatMap fun x => if p.contains x then [] else ext4 n d (p ++ [x]))) (usedL n p) fun e0 e1 e2 e3 => K e0 e1 e2 e3) n (K n (li p) (out ++ lii (ext4 n (d + 1) p)) (usedL n p)) (fun H x hx => ?_) (fun H => ?_) N 0 (by omega) (by omega)
    rotate_left
    · simp only [zj133, zj132, zb132]
      rw [usedL_len, usedL_rd n p x hx, decide_eq_true (by omega : (x : Int) < (n : Int)), decide_eq_true (by omega : (0 : Int) ≤ (x : Int)), List.range_succ, List.flatMap_append, List.flatMap_singleton]
      simp only [cond_true, gd]
      have hl := flatMap_len (fun x => if p.contains x then [] else ext4 n d (p ++ [x])) 256 (fun x => by
        have := ext4_len n d (p ++ [x])
        show (if p.contains x then [] else ext4 n d (p ++ [x])).length ≤ 256
        split
        · exact Nat.zero_le _
        · omega) x
      cases hc : p.contains x with
      | true =>
        rw [Bool.not_true, cond_false, if_pos rfl, List.append_nil, w64_succ x (by omega)]
      | false =>
        rw [Bool.not_false, cond_true, if_neg (by decide), List.nil_append, ← li_snoc, usedL_put, decide_eq_true (by simp only [li_len, List.length_cons, List.length_nil]; omega), cond_true]
        rw [ih G (p ++ [x]) _ (by simp; omega) (by omega) (by simp only [lii, List.length_append, List.length_map]; omega)]
        rw [li_len, usedL_len, List.length_append, List.length_cons, List.length_nil, show w64 (((p.length + (0 + 1) : Nat) : Int) - 1) = (p.length : Int) by rw [w64_id (by omega) (by omega)]; omega, decide_eq_true (by omega : (0 : Int) ≤ (p.length : Int)), decide_eq_true (by omega : (p.length : Int) ≤ ((p.length + (0 + 1) : Nat) : Int)), decide_eq_true (by omega : (x : Int) < (n : Int)), usedL_back n p x hc, w64_succ x (by omega)]
        simp only [cond_true]
        have et : List.drop 0 (List.take (Int.toNat (p.length : Int)) (li (p ++ [x]))) = li p := by
          rw [List.drop_zero, Int.toNat_natCast, li_snoc, List.take_append_of_le_length (by rw [li_len]; exact Nat.le_refl _), List.take_of_length_le (by rw [li_len]; exact Nat.le_refl _)]
        rw [et, lii_app, List.append_assoc]
    · simp only [zj133, zj132, zb132]
      rw [decide_eq_false (by omega), cond_false]
      rfl
    · simpa [lii] using h
theorem impl_perms_eq (N : Nat) (hN : 1048576 < N) (n : Nat) (hn : n ≤ 4) (K : List (List Int) → Option β) : zj137 N (n : Int) K = K (lii (prm n)) := by
  unfold zj137 zb137
  rw [gd_true (decide_eq_true (by omega)), gd_true (decide_eq_true (by omega)), gd_true (decide_eq_true (by omega)), gd_true (decide_eq_true (by omega)), gd_true (decide_eq_true (by omega)), Int.toNat_natCast]
  have e : List.replicate n false = usedL n [] := by
    refine (List.eq_replicate_iff.2 ⟨usedL_len n [], fun b hb => ?_⟩).symm
    obtain ⟨x, _, rfl⟩ := List.mem_map.1 hb
    rfl
  have h := impl_perms_f (β := β) N hN n hn n N [] [] (by simp) (by omega) (by simp; omega) (fun _ _ r2_2 _ => K r2_2)
  rw [e]
  unfold zj136
  exact h
end Go.Proofs.YtemihnclhcobnaaGreatDoor
namespace Go.Proofs.YtemihnclhcobnaaGreatDoor
open Go.Rv
variable {β : Type}
def mv (p : List Nat) (x : Nat) : Nat → Nat
  | 0 => 0
  | i + 1 => mv p x i ||| cond (x.testBit i) (2 ^ p.getD i 0) 0
def cmpP (p q : List Nat) : List Nat := q.map fun i => p.getD i 0
theorem mv_all : ∀ n, n ≤ 4 → ((prm n).all fun p => (List.range (2 ^ n)).all fun x => decide (mv p x n < 2 ^ n) && ((List.range (2 ^ n)).any fun y => mv p y n == x) && (List.range (2 ^ n)).all fun y => (mv p (x ^^^ y) n == mv p x n ^^^ mv p y n) && (x == y || mv p x n != mv p y n)) = true := by decide +kernel
theorem cmp_all : ∀ n, n ≤ 4 → ((prm n).all fun p => (prm n).all fun q => (prm n).contains (cmpP p q) && (List.range (2 ^ n)).all fun x => mv (cmpP p q) x n == mv p (mv q x n) n) = true := by decide +kernel
theorem cmp_perm : ∀ n, n ≤ 4 → ((prm n).all fun p => ((prm n).map (cmpP p)).isPerm (prm n)) = true := by decide +kernel
theorem shift_perm : ∀ n, n ≤ 4 → ((prm n).all fun p => (List.range (2 ^ n)).all fun s => ((List.range (2 ^ n)).map fun t => mv p t n ^^^ s).isPerm (List.range (2 ^ n))) = true := by decide +kernel
theorem id_all : ∀ n, n ≤ 4 → ((prm n).contains (List.range n) && (List.range (2 ^ n)).all fun x => mv (List.range n) x n == x) = true := by decide +kernel
section
variable {n : Nat} (hn : n ≤ 4)
include hn
theorem mv_lt {p : List Nat} (hp : p ∈ prm n) {x : Nat} (hx : x < 2 ^ n) : mv p x n < 2 ^ n := by
  have h := List.all_eq_true.1 (List.all_eq_true.1 (mv_all n hn) p hp) x (List.mem_range.2 hx)
  rw [Bool.and_eq_true, Bool.and_eq_true] at h
  exact of_decide_eq_true h.1.1
theorem mv_surj {p : List Nat} (hp : p ∈ prm n) {x : Nat} (hx : x < 2 ^ n) : ∃ y, y < 2 ^ n ∧ mv p y n = x := by
  have h := List.all_eq_true.1 (List.all_eq_true.1 (mv_all n hn) p hp) x (List.mem_range.2 hx)
  rw [Bool.and_eq_true, Bool.and_eq_true] at h
  obtain ⟨y, h1, h2⟩ := List.any_eq_true.1 h.1.2
  exact ⟨y, List.mem_range.1 h1, eq_of_beq h2⟩
theorem mv_xor {p : List Nat} (hp : p ∈ prm n) {x y : Nat} (hx : x < 2 ^ n) (hy : y < 2 ^ n) : mv p (x ^^^ y) n = mv p x n ^^^ mv p y n := by
  have h := List.all_eq_true.1 (List.all_eq_true.1 (mv_all n hn) p hp) x (List.mem_range.2 hx)
  rw [Bool.and_eq_true] at h
  have h2 := List.all_eq_true.1 h.2 y (List.mem_range.2 hy)
  rw [Bool.and_eq_true] at h2
  exact eq_of_beq h2.1
theorem mv_inj {p : List Nat} (hp : p ∈ prm n) {x y : Nat} (hx : x < 2 ^ n) (hy : y < 2 ^ n) (e : mv p x n = mv p y n) : x = y := by
  have h := List.all_eq_true.1 (List.all_eq_true.1 (mv_all n hn) p hp) x (List.mem_range.2 hx)
  rw [Bool.and_eq_true] at h
  have h2 := List.all_eq_true.1 h.2 y (List.mem_range.2 hy)
  rw [Bool.and_eq_true, e, bne_self_eq_false, Bool.or_false] at h2
  exact eq_of_beq h2.2
theorem cmp_in {p q : List Nat} (hp : p ∈ prm n) (hq : q ∈ prm n) : cmpP p q ∈ prm n ∧ ∀ x, x < 2 ^ n → mv (cmpP p q) x n = mv p (mv q x n) n := by
  have h := List.all_eq_true.1 (List.all_eq_true.1 (cmp_all n hn) p hp) q hq
  rw [Bool.and_eq_true] at h
  exact ⟨List.contains_iff_mem.1 h.1, fun x hx => eq_of_beq (List.all_eq_true.1 h.2 x (List.mem_range.2 hx))⟩
end
def ptw (w : Nat) (p : List Nat) (n : Nat) : Nat → Nat
  | 0 => 0
  | x + 1 => ptw w p n x ||| cond (w.testBit x) (2 ^ mv p x n) 0
theorem pow_bit (i j : Nat) : (2 ^ i).testBit j = decide (i = j) := Nat.testBit_two_pow
theorem ptw_bit (w : Nat) (p : List Nat) (n y : Nat) : ∀ m, (ptw w p n m).testBit y = true ↔ ∃ x, x < m ∧ w.testBit x = true ∧ mv p x n = y
  | 0 => ⟨(fun h => by rw [ptw, Nat.zero_testBit] at h; cases h), (fun ⟨x, h, _⟩ => by omega)⟩
  | m + 1 => by
    rw [ptw, Nat.testBit_or, Bool.or_eq_true, ptw_bit w p n y m]
    constructor
    · rintro (⟨x, h1, h2⟩ | h)
      · exact ⟨x, by omega, h2⟩
      · cases hb : w.testBit m with
        | false => rw [hb, cond_false, Nat.zero_testBit] at h; cases h
        | true =>
          rw [hb, cond_true, pow_bit] at h
          exact ⟨m, by omega, hb, of_decide_eq_true h⟩
    · rintro ⟨x, h1, h2, h3⟩
      rcases Nat.lt_or_ge x m with h | h
      · exact Or.inl ⟨x, h, h2, h3⟩
      · have : x = m := by omega
        subst this
        refine Or.inr ?_
        rw [h2, cond_true, pow_bit]
        exact decide_eq_true h3
def sh (n g s : Nat) : Nat := tabw (fun y => g.testBit (y ^^^ s)) (2 ^ n)
def nt (n h : Nat) : Nat := 2 ^ 2 ^ n - 1 - h
theorem sh_lt (n g s : Nat) : sh n g s < 2 ^ 2 ^ n := tabw_lt _ _
theorem nt_bit {n h : Nat} (hh : h < 2 ^ 2 ^ n) {y : Nat} (hy : y < 2 ^ n) : (nt n h).testBit y = !h.testBit y := by
  unfold nt
  rw [show 2 ^ 2 ^ n - 1 - h = 2 ^ 2 ^ n - (h + 1) by omega, Nat.testBit_two_pow_sub_succ hh, decide_eq_true hy, Bool.true_and]
theorem nt_lt (n h : Nat) : nt n h < 2 ^ 2 ^ n := by
  have := Nat.two_pow_pos (2 ^ n)
  unfold nt
  omega
def act (n : Nat) (p : List Nat) (s : Nat) (b : Bool) (w : Nat) : Nat := cond b (nt n (sh n (ptw w p n (2 ^ n)) s)) (sh n (ptw w p n (2 ^ n)) s)
theorem act_lt (n : Nat) (p : List Nat) (s : Nat) (b : Bool) (w : Nat) : act n p s b w < 2 ^ 2 ^ n := by
  cases b
  · exact sh_lt _ _ _
  · exact nt_lt _ _
theorem word_ext {n u v : Nat} (hu : u < 2 ^ 2 ^ n) (hv : v < 2 ^ 2 ^ n) (h : ∀ y, y < 2 ^ n → u.testBit y = v.testBit y) : u = v := by
  refine Nat.eq_of_testBit_eq fun i => ?_
  rcases Nat.lt_or_ge i (2 ^ n) with hi | hi
  · exact h i hi
  · rw [Nat.testBit_lt_two_pow (Nat.lt_of_lt_of_le hu (Nat.pow_le_pow_right (by decide) hi)), Nat.testBit_lt_two_pow (Nat.lt_of_lt_of_le hv (Nat.pow_le_pow_right (by decide) hi))]
section
variable {n : Nat} (hn : n ≤ 4)
include hn
theorem act_bit {p : List Nat} (hp : p ∈ prm n) {s : Nat} (hs : s < 2 ^ n) (b : Bool) (w : Nat) {x : Nat} (hx : x < 2 ^ n) : (act n p s b w).testBit (mv p x n ^^^ s) = (w.testBit x != b) := by
  have hm := mv_lt hn hp hx
  have hy : mv p x n ^^^ s < 2 ^ n := Nat.xor_lt_two_pow hm hs
  have h1 : (sh n (ptw w p n (2 ^ n)) s).testBit (mv p x n ^^^ s) = w.testBit x := by
    unfold sh
    rw [tabw_bit, decide_eq_true hy, Bool.true_and, Nat.xor_assoc, Nat.xor_self, Nat.xor_zero, Bool.eq_iff_iff, ptw_bit]
    exact ⟨fun ⟨z, h1, h2, h3⟩ => (mv_inj hn hp h1 hx h3) ▸ h2, fun h => ⟨x, hx, h, rfl⟩⟩
  unfold act
  cases b with
  | false => rw [cond_false, h1]; cases w.testBit x <;> rfl
  | true => rw [cond_true, nt_bit (sh_lt _ _ _) hy, h1]; cases w.testBit x <;> rfl
theorem act_ext {p : List Nat} (hp : p ∈ prm n) {s : Nat} (hs : s < 2 ^ n) {u v : Nat} (hu : u < 2 ^ 2 ^ n) (hv : v < 2 ^ 2 ^ n) (h : ∀ x, x < 2 ^ n → u.testBit (mv p x n ^^^ s) = v.testBit (mv p x n ^^^ s)) : u = v := by
  refine word_ext hu hv fun y hy => ?_
  obtain ⟨x, h1, h2⟩ := mv_surj hn hp (Nat.xor_lt_two_pow hy hs)
  have h3 := h x h1
  rw [h2, Nat.xor_assoc, Nat.xor_self, Nat.xor_zero] at h3
  exact h3
theorem act_inj {p : List Nat} (hp : p ∈ prm n) {s : Nat} (hs : s < 2 ^ n) (b : Bool) {u v : Nat} (hu : u < 2 ^ 2 ^ n) (hv : v < 2 ^ 2 ^ n) (h : act n p s b u = act n p s b v) : u = v := by
  refine word_ext hu hv fun x hx => ?_
  have h1 := act_bit hn hp hs b u hx
  rw [h, act_bit hn hp hs b v hx] at h1
  revert h1
  cases u.testBit x <;> cases v.testBit x <;> cases b <;> simp
theorem act_comp {p q : List Nat} (hp : p ∈ prm n) (hq : q ∈ prm n) {s t : Nat} (hs : s < 2 ^ n) (ht : t < 2 ^ n) (b c : Bool) (w : Nat) : act n p s b (act n q t c w) = act n (cmpP p q) (mv p t n ^^^ s) (c != b) w := by
  obtain ⟨h1, h2⟩ := cmp_in hn hp hq
  have hmt : mv p t n ^^^ s < 2 ^ n := Nat.xor_lt_two_pow (mv_lt hn hp ht) hs
  refine act_ext hn h1 hmt (act_lt _ _ _ _ _) (act_lt _ _ _ _ _) fun x hx => ?_
  have hqx := mv_lt hn hq hx
  have hz : mv q x n ^^^ t < 2 ^ n := Nat.xor_lt_two_pow hqx ht
  rw [act_bit hn h1 hmt _ w hx, h2 x hx, ← Nat.xor_assoc, ← mv_xor hn hp hqx ht, act_bit hn hp hs b _ hz, act_bit hn hq ht c w hx]
  cases w.testBit x <;> cases b <;> cases c <;> rfl
end
def pr2 (n w : Nat) (p : List Nat) (s : Nat) : List Nat := [act n p s false w, act n p s true w]
def imgs (n w : Nat) : List Nat := (prm n).flatMap fun p => (List.range (2 ^ n)).flatMap (pr2 n w p)
theorem flat_perm {α γ : Type} {f g : α → List γ} : ∀ (l : List α), (∀ a ∈ l, (f a).Perm (g a)) → (l.flatMap f).Perm (l.flatMap g)
  | [], _ => List.Perm.refl _
  | a :: l, h => by
    rw [List.flatMap_cons, List.flatMap_cons]
    exact (h a List.mem_cons_self).append (flat_perm l fun x hx => h x (List.mem_cons_of_mem _ hx))
theorem flat_congr {α γ : Type} {f g : α → List γ} : ∀ (l : List α), (∀ a ∈ l, f a = g a) → l.flatMap f = l.flatMap g
  | [], _ => rfl
  | a :: l, h => by
    rw [List.flatMap_cons, List.flatMap_cons, h a List.mem_cons_self, flat_congr l fun x hx => h x (List.mem_cons_of_mem _ hx)]
theorem imgs_map {n : Nat} (hn : n ≤ 4) (w : Nat) {p : List Nat} (hp : p ∈ prm n) {s : Nat} (hs : s < 2 ^ n) (b : Bool) : ((imgs n w).map (act n p s b)).Perm (imgs n w) := by
  have e : (imgs n w).map (act n p s b) = ((prm n).map (cmpP p)).flatMap fun q => ((List.range (2 ^ n)).map fun t => mv p t n ^^^ s).flatMap fun t => [act n q t b w, act n q t (!b) w] := by
    unfold imgs
    rw [List.map_flatMap, List.flatMap_map]
    refine flat_congr _ fun q hq => ?_
    rw [List.map_flatMap, List.flatMap_map]
    refine flat_congr _ fun t ht => ?_
    have ht := List.mem_range.1 ht
    unfold pr2
    rw [List.map_cons, List.map_cons, List.map_nil, act_comp hn hp hq hs ht, act_comp hn hp hq hs ht]
    cases b <;> rfl
  rw [e]
  refine (List.Perm.flatMap_right _ (List.isPerm_iff.1 (List.all_eq_true.1 (cmp_perm n hn) p hp))).trans ?_
  unfold imgs
  refine flat_perm _ fun q _ => ?_
  refine (List.Perm.flatMap_right _ (List.isPerm_iff.1 (List.all_eq_true.1 (List.all_eq_true.1 (shift_perm n hn) p hp) s (List.mem_range.2 hs)))).trans ?_
  refine flat_perm _ fun t _ => ?_
  cases b with
  | false => exact List.Perm.refl _
  | true => exact List.Perm.swap _ _ _
theorem count_map_loc (f : Nat → Nat) (w : Nat) : ∀ l : List Nat, (∀ x ∈ l, f x = f w → x = w) → (l.map f).count (f w) = l.count w
  | [], _ => rfl
  | x :: l, h => by
    rw [List.map_cons, List.count_cons, List.count_cons, count_map_loc f w l fun y hy => h y (List.mem_cons_of_mem _ hy)]
    congr 1
    by_cases e : x = w
    · subst e; rw [beq_self_eq_true, beq_self_eq_true]
    · rw [beq_eq_false_iff_ne.2 e, beq_eq_false_iff_ne.2 fun h' => e (h x List.mem_cons_self h')]
theorem imgs_mem {n : Nat} {w v : Nat} : v ∈ imgs n w ↔ ∃ p, p ∈ prm n ∧ ∃ s, s < 2 ^ n ∧ ∃ b, v = act n p s b w := by
  unfold imgs
  rw [List.mem_flatMap]
  constructor
  · rintro ⟨p, hp, h⟩
    obtain ⟨s, hs, h⟩ := List.mem_flatMap.1 h
    unfold pr2 at h
    simp only [List.mem_cons, List.not_mem_nil, or_false] at h
    rcases h with h | h
    · exact ⟨p, hp, s, List.mem_range.1 hs, false, h⟩
    · exact ⟨p, hp, s, List.mem_range.1 hs, true, h⟩
  · rintro ⟨p, hp, s, hs, b, rfl⟩
    refine ⟨p, hp, List.mem_flatMap.2 ⟨s, List.mem_range.2 hs, ?_⟩⟩
    unfold pr2
    cases b <;> simp
theorem imgs_count {n : Nat} (hn : n ≤ 4) {w v : Nat} (hw : w < 2 ^ 2 ^ n) (hv : v ∈ imgs n w) : (imgs n w).count v = (imgs n w).count w := by
  obtain ⟨p, hp, s, hs, b, rfl⟩ := imgs_mem.1 hv
  rw [← (imgs_map hn w hp hs b).count_eq]
  refine count_map_loc _ _ _ fun x hx h => ?_
  obtain ⟨q, _, t, _, c, rfl⟩ := imgs_mem.1 hx
  exact act_inj hn hp hs b (act_lt _ _ _ _ _) hw h
theorem imgs_self {n : Nat} (hn : n ≤ 4) {w : Nat} (hw : w < 2 ^ 2 ^ n) : w ∈ imgs n w := by
  have h := id_all n hn
  rw [Bool.and_eq_true] at h
  have hp := List.contains_iff_mem.1 h.1
  have hm : ∀ x, x < 2 ^ n → mv (List.range n) x n = x := fun x hx => eq_of_beq (List.all_eq_true.1 h.2 x (List.mem_range.2 hx))
  refine imgs_mem.2 ⟨List.range n, hp, 0, Nat.two_pow_pos n, false, ?_⟩
  refine act_ext hn hp (Nat.two_pow_pos n) hw (act_lt _ _ _ _ _) fun x hx => ?_
  rw [act_bit hn hp (Nat.two_pow_pos n) false w hx, hm x hx, Nat.xor_zero]
  cases w.testBit x <;> rfl
theorem flat_len {α γ : Type} {f : α → List γ} {k : Nat} : ∀ (l : List α), (∀ a ∈ l, (f a).length = k) → (l.flatMap f).length = l.length * k
  | [], _ => by simp
  | a :: l, h => by
    rw [List.flatMap_cons, List.length_append, h a List.mem_cons_self, flat_len l fun x hx => h x (List.mem_cons_of_mem _ hx), List.length_cons, Nat.add_mul, Nat.one_mul, Nat.add_comm]
theorem imgs_len (n w : Nat) : (imgs n w).length = (prm n).length * (2 ^ n * 2) := by
  unfold imgs
  refine flat_len _ fun p _ => ?_
  rw [flat_len (k := 2) _ fun s _ => rfl, List.length_range]
def insN (l : List Nat) (v : Nat) : List Nat := cond (l.contains v) l (l ++ [v])
def ded (l : List Nat) : List Nat := l.foldl insN []
theorem count_sum (v : Nat) : ∀ (D : List Nat), D.Nodup → v ∈ D → (D.map fun d => if v == d then 1 else 0).sum = 1
  | [], _, h => by cases h
  | d :: D, hd, h => by
    rw [List.map_cons, List.sum_cons]
    rw [List.nodup_cons] at hd
    by_cases e : v = d
    · subst e
      have : (D.map fun d => if v == d then 1 else 0).sum = 0 := by
        have key : ∀ (D : List Nat), v ∉ D → (D.map fun d => if v == d then 1 else 0).sum = 0 := by
          intro D
          induction D with
          | nil => intro _; rfl
          | cons x D ih =>
            intro hx
            rw [List.map_cons, List.sum_cons, ih fun h => hx (List.mem_cons_of_mem _ h), if_neg (fun h => hx (by rw [eq_of_beq h]; exact List.mem_cons_self))]
        exact key D hd.1
      rw [this, if_pos (beq_self_eq_true v)]
    · rcases List.mem_cons.1 h with h | h
      · exact absurd h e
      · rw [count_sum v D hd.2 h, if_neg (fun h => e (eq_of_beq h))]
theorem sum_add (f g : Nat → Nat) : ∀ D : List Nat, (D.map fun d => f d + g d).sum = (D.map f).sum + (D.map g).sum
  | [] => rfl
  | d :: D => by
    rw [List.map_cons, List.map_cons, List.map_cons, List.sum_cons, List.sum_cons, List.sum_cons, sum_add f g D]
    omega
theorem len_counts (D : List Nat) (hD : D.Nodup) : ∀ l : List Nat, (∀ v ∈ l, v ∈ D) → l.length = (D.map fun d => l.count d).sum
  | [], _ => by
    have key : ∀ D : List Nat, (D.map fun d => ([] : List Nat).count d).sum = 0 := by
      intro D
      induction D with
      | nil => rfl
      | cons x D ih => rw [List.map_cons, List.sum_cons, ih]; rfl
    exact (key D).symm
  | v :: l, h => by
    have ih := len_counts D hD l fun x hx => h x (List.mem_cons_of_mem _ hx)
    have e : (fun d => (v :: l).count d) = fun d => l.count d + if v == d then 1 else 0 := funext fun d => List.count_cons
    rw [e, sum_add, ← ih, count_sum v D hD (h v List.mem_cons_self), List.length_cons]
theorem ins_nodup {l : List Nat} (h : l.Nodup) (v : Nat) : (insN l v).Nodup := by
  unfold insN
  cases hc : l.contains v with
  | true => exact h
  | false =>
    rw [cond_false, List.nodup_append]
    refine ⟨h, by simp, fun a ha b hb => ?_⟩
    rw [List.mem_singleton.1 hb]
    intro e
    subst e
    rw [List.contains_iff_mem.2 ha] at hc
    cases hc
theorem ins_mem (l : List Nat) (v x : Nat) : x ∈ insN l v ↔ x ∈ l ∨ x = v := by
  unfold insN
  cases hc : l.contains v with
  | true =>
    rw [cond_true]
    exact ⟨Or.inl, fun h => h.elim id fun e => e ▸ List.contains_iff_mem.1 hc⟩
  | false => rw [cond_false, List.mem_append, List.mem_singleton]
theorem fold_ins : ∀ (l D : List Nat), D.Nodup → (l.foldl insN D).Nodup ∧ ∀ x, x ∈ l.foldl insN D ↔ x ∈ D ∨ x ∈ l
  | [], D, h => ⟨h, fun x => by simp⟩
  | v :: l, D, h => by
    obtain ⟨h1, h2⟩ := fold_ins l (insN D v) (ins_nodup h v)
    rw [List.foldl_cons]
    refine ⟨h1, fun x => ?_⟩
    rw [h2, ins_mem, List.mem_cons, or_assoc]
theorem const_sum (c : Nat) (f : Nat → Nat) : ∀ D : List Nat, (∀ d ∈ D, f d = c) → (D.map f).sum = D.length * c
  | [], _ => by simp
  | d :: D, h => by
    rw [List.map_cons, List.sum_cons, h d List.mem_cons_self, const_sum c f D fun x hx => h x (List.mem_cons_of_mem _ hx), List.length_cons, Nat.add_mul, Nat.one_mul, Nat.add_comm]
theorem orbit {n : Nat} (hn : n ≤ 4) {w : Nat} (hw : w < 2 ^ 2 ^ n) : (ded (imgs n w)).length * (imgs n w).count w = (prm n).length * (2 ^ n * 2) ∧ 0 < (imgs n w).count w := by
  obtain ⟨h1, h2⟩ := fold_ins (imgs n w) [] List.nodup_nil
  have h3 := len_counts (ded (imgs n w)) h1 (imgs n w) fun v hv => (h2 v).2 (Or.inr hv)
  rw [const_sum ((imgs n w).count w) (fun d => (imgs n w).count d) (ded (imgs n w)) fun d hd => imgs_count hn hw (((h2 d).1 hd).resolve_left (by simp)), imgs_len] at h3
  exact ⟨h3.symm, List.count_pos_iff.2 (imgs_self hn hw)⟩
end Go.Proofs.YtemihnclhcobnaaGreatDoor
namespace Go.Proofs.YtemihnclhcobnaaGreatDoor
open Go.Rv
variable {β : Type}
theorem bit_shl (w i t : Nat) (hw : w < 9223372036854775808) (ht : t ≤ 31) : shlI .i64 (bits .and .i64 (shrI .i64 (w : Int) (i : Int)) 1) (t : Int) = ((cond (w.testBit i) (2 ^ t) 0 : Nat) : Int) := by
  have hp : 2 ^ t ≤ 2 ^ 31 := Nat.pow_le_pow_right (by decide) ht
  rw [bit_at w i hw, shl_nat _ t (by omega) (by split <;> omega)]
  cases w.testBit i <;> simp
theorem cond_lt {b : Bool} {a m : Nat} (h : a < m) : cond b a 0 < m := by
  cases b
  · exact Nat.lt_of_le_of_lt (Nat.zero_le _) h
  · exact h
theorem prm_len {n : Nat} (hn : n ≤ 4) {p : List Nat} (hp : p ∈ prm n) : p.length = n ∧ ∀ i, p.getD i 0 < 4 := by
  have h := prm_ok n hn
  rw [Bool.and_eq_true, Bool.and_eq_true] at h
  have h1 := List.all_eq_true.1 h.1.1 p hp
  unfold permB at h1
  rw [Bool.and_eq_true, Bool.and_eq_true, Bool.and_eq_true] at h1
  refine ⟨Nat.eq_of_beq_eq_true h1.1.1.1, fun i => ?_⟩
  rw [List.getD_eq_getElem?_getD]
  cases hi : p[i]? with
  | none => exact (by decide : 0 < 4)
  | some x =>
    have := of_decide_eq_true (List.all_eq_true.1 h1.1.2 x (List.mem_of_getElem? hi))
    show x < 4
    omega
theorem mv_16 {p : List Nat} (hp : ∀ i, p.getD i 0 < 4) (x : Nat) : ∀ i, mv p x i < 2 ^ 4
  | 0 => Nat.two_pow_pos 4
  | i + 1 => by
    refine Nat.or_lt_two_pow (mv_16 hp x i) ?_
    exact cond_lt (Nat.pow_lt_pow_right (by decide) (hp i))
theorem ptw_16 {p : List Nat} (hp : ∀ i, p.getD i 0 < 4) (w n : Nat) : ∀ m, ptw w p n m < 2 ^ 16
  | 0 => Nat.two_pow_pos 16
  | m + 1 => by
    refine Nat.or_lt_two_pow (ptw_16 hp w n m) ?_
    exact cond_lt (Nat.pow_lt_pow_right (by decide) (mv_16 hp m n))
theorem impl_moved_n (N : Nat) (hN : 64 < N) {n : Nat} (hn : n ≤ 4) {p : List Nat} (hp : p ∈ prm n) (x : Nat) (hx : x < 16) (K : Int → Option β) : zj140 N (x : Int) (li p) K = K (mv p x n : Int) := by
  obtain ⟨h1, h2⟩ := prm_len hn hp
  unfold zj140 zb140
  rw [li_len, h1]
  refine loop_st (fun F i => zj139 N F (x : Int) (mv p x i : Int) (li p) (n : Int) (i : Int) fun e => K e) n _ (fun F i hi => ?_) (fun F => ?_) N 0 (by omega) (by omega)
  · have hm := mv_16 h2 x i
    have hd := h2 i
    simp only [zj139, zj138, zb138, li_rd, li_len]
    rw [decide_eq_true (by omega : (i : Int) < (n : Int)), cond_true, gd_true (decide_eq_true (by omega)), gd_true (decide_eq_true (by omega)), gd_true (decide_eq_true (by omega)), gd_true (decide_eq_true (by omega)), bit_shl x i _ (by omega) (by omega), bOr _ _ (by omega) (cond_lt (by have := Nat.pow_lt_pow_right (by decide : 1 < 2) hd; omega)), w64_succ i (by omega)]
    rfl
  · simp only [zj139, zj138, zb138]
    rw [decide_eq_false (by omega), cond_false]
theorem impl_permute_n (N : Nat) (hN : 64 < N) {n : Nat} (hn : n ≤ 4) {p : List Nat} (hp : p ∈ prm n) (w : Nat) (hw : w < 4294967296) (K : Int → Int → Option β) : zj143 N (n : Int) (w : Int) (li p) K = K (n : Int) (ptw w p n (2 ^ n) : Int) := by
  have hs : 2 ^ n ≤ 16 := (Nat.pow_le_pow_right (by decide) hn : 2 ^ n ≤ 2 ^ 4)
  have hz : (0 : Int) ≤ ((2 ^ n : Nat) : Int) := Int.natCast_nonneg _
  obtain ⟨h1, h2⟩ := prm_len hn hp
  unfold zj143 zb143
  rw [impl_Table_size_eq N n _ (by omega)]
  refine loop_st (fun F x => zj142 N F (li p) ((2 ^ n : Nat) : Int) (x : Int) (n : Int) (w : Int) 0 0 (n : Int) (ptw w p n x : Int) fun e0 e1 e2 e3 => K e2 e3) (2 ^ n) _ (fun F x hx => ?_) (fun F => ?_) N 0 (by omega) (by omega)
  · have hm := mv_16 h2 x n
    have hq := ptw_16 h2 w n x
    have hpw : 2 ^ mv p x n < 2 ^ 16 := Nat.pow_lt_pow_right (by decide) hm
    simp only [zj142, zj141, zb141, zj106, zb106]
    rw [decide_eq_true (by omega : (x : Int) < ((2 ^ n : Nat) : Int)), cond_true, gd_true (decide_eq_true (by omega)), impl_moved_n N hN hn hp x (by omega), gd_true (decide_eq_true (by omega)), bit_shl w x _ (by omega) (by omega), bOr _ _ (by omega) (cond_lt (by omega)), w64_succ x (by omega)]
    rfl
  · simp only [zj142, zj141, zb141]
    rw [decide_eq_false (by omega : ¬ ((2 ^ n : Nat) : Int) < ((2 ^ n : Nat) : Int)), cond_false]
theorem spec_permute_n (N : Nat) (hN : 64 < N) {n : Nat} (hn : n ≤ 4) {p : List Nat} (hp : p ∈ prm n) (w : Nat) (hw : w < 4294967296) (K : Int → Int → Option β) : zj37 N (n : Int) (w : Int) (li p) K = K (n : Int) (ptw w p n (2 ^ n) : Int) := by
  have hs : 2 ^ n ≤ 16 := (Nat.pow_le_pow_right (by decide) hn : 2 ^ n ≤ 2 ^ 4)
  have hz : (0 : Int) ≤ ((2 ^ n : Nat) : Int) := Int.natCast_nonneg _
  obtain ⟨h1, h2⟩ := prm_len hn hp
  unfold zj37 zb37
  refine loop_st (fun F x => zj36 N F (li p) (ptw w p n x : Int) (x : Int) (n : Int) (w : Int) 0 0 fun e0 e1 e2 e3 e4 => K e1 e0) (2 ^ n) _ (fun F x hx => ?_) (fun F => ?_) N 0 (by omega) (by omega)
  · have hm := mv_16 h2 x n
    have hq := ptw_16 h2 w n x
    have hpw : 2 ^ mv p x n < 2 ^ 16 := Nat.pow_lt_pow_right (by decide) hm
    simp only [zj36, zj35, zb35]
    rw [gd_true (decide_eq_true (by omega)), shl_one n (by omega), decide_eq_true (by omega : (x : Int) < ((2 ^ n : Nat) : Int)), cond_true]
    refine (loop_st (fun H i => zj34 N H (li p) (ptw w p n x : Int) (x : Int) (mv p x i : Int) (i : Int) (n : Int) (w : Int) 0 0 fun e0 e1 e2 e3 e4 e5 e6 e7 => gd (decide (0 ≤ e2)) (gd (decide (0 ≤ e3)) (zj36 N F e0 (bits .or .i64 e1 (shlI .i64 (bits .and .i64 (shrI .i64 e5 e2) 1) e3)) (w64 (e2 + 1)) e4 e5 e6 e7 fun e0 e1 e2 e3 e4 => K e1 e0))) n (zj36 N F (li p) (ptw w p n (x + 1) : Int) ((x + 1 : Nat) : Int) (n : Int) (w : Int) 0 0 fun e0 e1 e2 e3 e4 => K e1 e0) (fun H i hi => ?_) (fun H => ?_) N 0 (by omega) (by omega))
    · have hm := mv_16 h2 x i
      have hd := h2 i
      simp only [zj34, zj33, zb33, li_rd, li_len]
      rw [decide_eq_true (by omega : (i : Int) < (n : Int)), cond_true, gd_true (decide_eq_true (by omega)), gd_true (decide_eq_true (by omega)), gd_true (decide_eq_true (by omega)), gd_true (decide_eq_true (by omega)), bit_shl x i _ (by omega) (by omega), bOr _ _ (by omega) (cond_lt (by have := Nat.pow_lt_pow_right (by decide : 1 < 2) hd; omega)), w64_succ i (by omega)]
      rfl
    · simp only [zj34, zj33, zb33]
      rw [decide_eq_false (by omega : ¬ (n : Int) < (n : Int)), cond_false, gd_true (decide_eq_true (by omega)), gd_true (decide_eq_true (by omega)), bit_shl w x _ (by omega) (by omega), bOr _ _ (by omega) (cond_lt (by omega)), w64_succ x (by omega)]
      rfl
  · simp only [zj36, zj35, zb35]
    rw [gd_true (decide_eq_true (by omega)), shl_one n (by omega), decide_eq_false (by omega : ¬ ((2 ^ n : Nat) : Int) < ((2 ^ n : Nat) : Int)), cond_false]
def shw (g s : Nat) : Nat → Nat
  | 0 => 0
  | x + 1 => shw g s x ||| cond (g.testBit x) (2 ^ (x ^^^ s)) 0
theorem shw_bit (g s y : Nat) : ∀ m, (shw g s m).testBit y = true ↔ ∃ x, x < m ∧ g.testBit x = true ∧ x ^^^ s = y
  | 0 => ⟨(fun h => by rw [shw, Nat.zero_testBit] at h; cases h), (fun ⟨x, h, _⟩ => by omega)⟩
  | m + 1 => by
    rw [shw, Nat.testBit_or, Bool.or_eq_true, shw_bit g s y m]
    constructor
    · rintro (⟨x, h1, h2⟩ | h)
      · exact ⟨x, by omega, h2⟩
      · cases hb : g.testBit m with
        | false => rw [hb, cond_false, Nat.zero_testBit] at h; cases h
        | true =>
          rw [hb, cond_true, pow_bit] at h
          exact ⟨m, by omega, hb, of_decide_eq_true h⟩
    · rintro ⟨x, h1, h2, h3⟩
      rcases Nat.lt_or_ge x m with h | h
      · exact Or.inl ⟨x, h, h2, h3⟩
      · have : x = m := by omega
        subst this
        refine Or.inr ?_
        rw [h2, cond_true, pow_bit]
        exact decide_eq_true h3
theorem shw_lt (g : Nat) {s k : Nat} (hs : s < 2 ^ k) : ∀ m, m ≤ 2 ^ k → shw g s m < 2 ^ 2 ^ k
  | 0, _ => Nat.two_pow_pos _
  | m + 1, h => by
    refine Nat.or_lt_two_pow (shw_lt g hs m (by omega)) ?_
    cases g.testBit m with
    | false => exact Nat.two_pow_pos _
    | true => exact Nat.pow_lt_pow_right (by decide) (Nat.xor_lt_two_pow (by omega) hs)
theorem shw_sh {n : Nat} (g : Nat) {s : Nat} (hs : s < 2 ^ n) : shw g s (2 ^ n) = sh n g s := by
  refine word_ext (shw_lt g hs _ (Nat.le_refl _)) (sh_lt _ _ _) fun y hy => ?_
  unfold sh
  rw [tabw_bit, decide_eq_true hy, Bool.true_and, Bool.eq_iff_iff, shw_bit]
  constructor
  · rintro ⟨x, h1, h2, rfl⟩
    rw [Nat.xor_assoc, Nat.xor_self, Nat.xor_zero]; exact h2
  · intro h
    exact ⟨y ^^^ s, Nat.xor_lt_two_pow hy hs, h, by rw [Nat.xor_assoc, Nat.xor_self, Nat.xor_zero]⟩
theorem spec_shift_n (N : Nat) (hN : 64 < N) {n : Nat} (hn : n ≤ 5) (g s : Nat) (hg : g < 4294967296) (hs : s < 2 ^ n) (K : Int → Int → Option β) : zj40 N (n : Int) (g : Int) (s : Int) K = K (n : Int) (sh n g s : Int) := by
  have hs5 := size_le hn
  have hz : (0 : Int) ≤ ((2 ^ n : Nat) : Int) := Int.natCast_nonneg _
  unfold zj40 zb40
  rw [← shw_sh g hs]
  refine loop_st (fun F x => zj39 N F (s : Int) (shw g s x : Int) (x : Int) (n : Int) (g : Int) 0 0 fun e0 e1 e2 e3 e4 => K e1 e0) (2 ^ n) _ (fun F x hx => ?_) (fun F => ?_) N 0 (by omega) (by omega)
  · have h1 := shw_lt g (k := 5) (s := s) (by omega) x (by omega)
    have h2 : x ^^^ s < 2 ^ 5 := Nat.xor_lt_two_pow (by omega) (by omega)
    have h3 : 2 ^ (x ^^^ s) < 2 ^ 32 := Nat.pow_lt_pow_right (by decide) h2
    have h4 : 2 ^ 2 ^ 5 = 4294967296 := by decide
    simp only [zj39, zj38, zb38]
    rw [gd_true (decide_eq_true (by omega)), shl_one n (by omega), decide_eq_true (by omega : (x : Int) < ((2 ^ n : Nat) : Int)), cond_true, gd_true (decide_eq_true (by omega)), bXor _ _ (by omega) (by omega), gd_true (decide_eq_true (by omega)), bit_shl g x _ (by omega) (by omega), bOr _ _ (by omega) (cond_lt (by omega)), w64_succ x (by omega)]
    rfl
  · simp only [zj39, zj38, zb38]
    rw [gd_true (decide_eq_true (by omega)), shl_one n (by omega), decide_eq_false (by omega : ¬ ((2 ^ n : Nat) : Int) < ((2 ^ n : Nat) : Int)), cond_false]
theorem impl_shift_n (N : Nat) (hN : 64 < N) {n : Nat} (hn : n ≤ 5) (g s : Nat) (hg : g < 4294967296) (hs : s < 2 ^ n) (K : Int → Int → Option β) : zj144 N (n : Int) (g : Int) (s : Int) K = K (n : Int) (sh n g s : Int) := by
  have hs5 := size_le hn
  unfold zj144 zb144
  rw [makeTable_eq N hN n hn _ (fun y => g.testBit (y ^^^ s)) fun x k hx => ?_]
  · rfl
  · have h2 : x ^^^ s < 2 ^ 5 := Nat.xor_lt_two_pow (by omega) (by omega)
    unfold zj108 zb108 zj106 zb106
    rw [bXor _ _ (by omega) (by omega), gd_true (decide_eq_true (by omega)), bit_at g _ (by omega)]
    dsimp only
    rw [bit_eq1]
theorem xor_full {n h : Nat} (hh : h < 2 ^ 2 ^ n) : h ^^^ (2 ^ 2 ^ n - 1) = nt n h := by
  have h0 := Nat.two_pow_pos (2 ^ n)
  refine word_ext (Nat.xor_lt_two_pow hh (by omega)) (nt_lt n h) fun y hy => ?_
  rw [Nat.testBit_xor, Nat.testBit_two_pow_sub_one, decide_eq_true hy, nt_bit hh hy, Bool.xor_true]
theorem impl_not_n (N : Nat) {n : Nat} (hn : n ≤ 5) (h : Nat) (hh : h < 2 ^ 2 ^ n) (K : Int → Int → Option β) : zj145 N (n : Int) (h : Int) K = K (n : Int) (nt n h : Int) := by
  have hs := size_le hn
  have hw := w_small hn hh
  have hp : 2 ^ 2 ^ n < 9223372036854775808 := pow_le_64 (by omega)
  have h0 := Nat.two_pow_pos (2 ^ n)
  have hz : (0 : Int) ≤ ((2 ^ n : Nat) : Int) := Int.natCast_nonneg _
  unfold zj145 zb145
  rw [impl_Table_size_eq N n _ hn, gd_true (decide_eq_true hz), shl_one (2 ^ n) (by omega), w64_id (by omega) (by omega), show ((2 ^ 2 ^ n : Nat) : Int) - 1 = ((2 ^ 2 ^ n - 1 : Nat) : Int) by omega, bXor _ _ (by omega) (by omega), xor_full hh]
def far (n w i : Nat) : List Nat := ((prm n).take i).flatMap fun p => (List.range (2 ^ n)).flatMap (pr2 n w p)
def near (n w : Nat) (p : List Nat) (s : Nat) : List Nat := (List.range s).flatMap (pr2 n w p)
theorem near_succ (n w : Nat) (p : List Nat) (s : Nat) : near n w p (s + 1) = near n w p s ++ [sh n (ptw w p n (2 ^ n)) s, nt n (sh n (ptw w p n (2 ^ n)) s)] := by
  unfold near
  rw [List.range_succ, List.flatMap_append, List.flatMap_cons, List.flatMap_nil, List.append_nil]
  rfl
theorem far_succ (n w i : Nat) (hi : i < (prm n).length) : far n w (i + 1) = far n w i ++ near n w (prm n)[i] (2 ^ n) := by
  unfold far near
  rw [List.take_add_one, List.getElem?_eq_getElem hi, Option.toList_some, List.flatMap_append, List.flatMap_cons, List.flatMap_nil, List.append_nil]
theorem far_all (n w : Nat) : far n w (prm n).length = imgs n w := by
  unfold far imgs
  rw [List.take_length]
theorem rd_lii (n i : Nat) (h : i < (prm n).length) : rd [] (lii (prm n)) (i : Int) = li (prm n)[i] := by
  have h' : i < (lii (prm n)).length := by unfold lii; rw [List.length_map]; exact h
  rw [rd_nat [] _ i h']
  exact List.getElem_map ..
def mn (w : Nat) (l : List Nat) : Nat := l.foldl min w
theorem mn_two (w a b : Nat) (l : List Nat) : mn w (l ++ [a, b]) = min (min (mn w l) a) b := by
  unfold mn
  rw [List.foldl_append]
  rfl
theorem mn_le (w : Nat) : ∀ l : List Nat, mn w l ≤ w := fun l => by
  have key : ∀ (l : List Nat) (v : Nat), l.foldl min v ≤ v := by
    intro l
    induction l with
    | nil => exact fun v => Nat.le_refl _
    | cons x l ih => exact fun v => Nat.le_trans (ih _) (Nat.min_le_left _ _)
  exact key l w
theorem mnI_nat (a b : Nat) : mnI (a : Int) (b : Int) = ((min a b : Nat) : Int) := by
  unfold mnI
  split
  · rw [Nat.min_eq_right (by omega)]
  · rw [Nat.min_eq_left (by omega)]
theorem prm_24 {n : Nat} (hn : n ≤ 4) : (prm n).length ≤ 24 := by
  have h := prm_ok n hn
  rw [Bool.and_eq_true] at h
  exact of_decide_eq_true h.2
theorem count_le_len (w : Nat) (l : List Nat) : l.count w ≤ l.length := List.count_le_length
theorem near_len (n w : Nat) (p : List Nat) (s : Nat) : (near n w p s).length = s * 2 := by
  unfold near
  rw [flat_len (k := 2) _ fun s _ => rfl, List.length_range]
theorem far_len (n w : Nat) : ∀ i, i ≤ (prm n).length → (far n w i).length = i * (2 ^ n * 2) := fun i hi => by
  unfold far
  rw [flat_len (k := 2 ^ n * 2) (f := fun p => (List.range (2 ^ n)).flatMap (pr2 n w p)) _ fun p _ => near_len n w p (2 ^ n), List.length_take, Nat.min_eq_left hi]
theorem spec_l4Least_n (N : Nat) (hN : 1048576 < N) {n : Nat} (hn : n ≤ 4) (w : Nat) (hw : w < 2 ^ 2 ^ n) (K : Int → Int → Option β) : zj46 N (n : Int) (w : Int) K = K (mn w (imgs n w) : Int) ((imgs n w).count w : Int) := by
  have hs : 2 ^ n ≤ 16 := (Nat.pow_le_pow_right (by decide) hn : 2 ^ n ≤ 2 ^ 4)
  have hz : (0 : Int) ≤ ((2 ^ n : Nat) : Int) := Int.natCast_nonneg _
  have hw' := w_small (by omega : n ≤ 5) hw
  have h24 := prm_24 hn
  have hll : (lii (prm n)).length = (prm n).length := List.length_map ..
  unfold zj46 zb46
  rw [spec_perms_eq N hN n hn, ← far_all n w]
  refine loop_st (fun F i => zj45 N F (mn w (far n w i) : Int) ((far n w i).count w : Int) (i : Int) (n : Int) (w : Int) (lii (prm n)) fun e0 e1 => K e0 e1) (prm n).length _ (fun F i hi => ?_) (fun F => ?_) N 0 (by omega) (by omega)
  · have hp := List.getElem_mem hi
    have hq := ptw_16 (prm_len hn hp).2 w n (2 ^ n)
    simp only [zj45, zj44, zb44, rd_lii n i hi, hll]
    rw [decide_eq_true (by omega : (i : Int) < ((prm n).length : Int)), cond_true, gd_true (decide_eq_true (by omega)), gd_true rfl, spec_permute_n N (by omega) hn hp w hw', far_succ n w i hi]
    have hfl := far_len n w i (by omega)
    generalize (prm n)[i] = p at hp hq ⊢
    refine (loop_st (fun H s => zj43 N H (mn w (far n w i ++ near n w p s) : Int) ((far n w i ++ near n w p s).count w : Int) (i : Int) (s : Int) (n : Int) (w : Int) (lii (prm n)) (n : Int) (ptw w p n (2 ^ n) : Int) fun e0 e1 e2 e3 e4 e5 => zj45 N F e0 e1 (w64 (e2 + 1)) e3 e4 e5 fun e0 e1 => K e0 e1) (2 ^ n) (zj45 N F (mn w (far n w i ++ near n w p (2 ^ n)) : Int) ((far n w i ++ near n w p (2 ^ n)).count w : Int) ((i + 1 : Nat) : Int) (n : Int) (w : Int) (lii (prm n)) fun e0 e1 => K e0 e1) (fun H s hs1 => ?_) (fun H => ?_) N 0 (by omega) (by omega) |> fun h => Eq.trans (by rw [show near n w p 0 = [] from rfl, List.append_nil]; rfl) h)
    · have hsl := sh_lt n (ptw w p n (2 ^ n)) s
      have hcl := count_le_len w (far n w i ++ near n w p s)
      rw [List.length_append, near_len, hfl] at hcl
      have hb : i * (2 ^ n * 2) ≤ 24 * 32 := Nat.mul_le_mul (by omega) (by omega)
      have e1 : (far n w i ++ near n w p (s + 1)).count w = (far n w i ++ near n w p s).count w + (cond (sh n (ptw w p n (2 ^ n)) s == w) 1 0 + cond (nt n (sh n (ptw w p n (2 ^ n)) s) == w) 1 0) := by
        rw [near_succ, ← List.append_assoc, List.count_append]
        congr 1
        rw [List.count_cons, List.count_cons, List.count_nil]
        cases (sh n (ptw w p n (2 ^ n)) s == w) <;> cases (nt n (sh n (ptw w p n (2 ^ n)) s) == w) <;> rfl
      have e2 : mnI (mn w (far n w i ++ near n w p s) : Int) (mnI (sh n (ptw w p n (2 ^ n)) s : Int) (nt n (sh n (ptw w p n (2 ^ n)) s) : Int)) = (mn w (far n w i ++ near n w p (s + 1)) : Int) := by
        rw [near_succ, ← List.append_assoc, mn_two, mnI_nat, mnI_nat, Nat.min_assoc]
      have e3 : w64 (((2 ^ 2 ^ n - 1 : Nat) : Int) - (sh n (ptw w p n (2 ^ n)) s : Int)) = (nt n (sh n (ptw w p n (2 ^ n)) s) : Int) := by
        have := w_small (by omega : n ≤ 5) hsl
        have hp2 : 2 ^ 2 ^ n < 9223372036854775808 := pow_le_64 (by omega)
        unfold nt
        rw [w64_id (by omega) (by omega)]
        omega
      simp only [zj43, zj42, zb42]
      rw [gd_true (decide_eq_true (by omega)), shl_one n (by omega), decide_eq_true (by omega : (s : Int) < ((2 ^ n : Nat) : Int)), cond_true, spec_shift_n N (by omega) (by omega) _ s (by omega) hs1, spec_l2Full_eq N n (by omega), e3, e2, natb, natb, w64_succ s (by omega), e1]
      generalize (far n w i ++ near n w p s).count w = c at hcl
      cases (sh n (ptw w p n (2 ^ n)) s == w) <;> cases (nt n (sh n (ptw w p n (2 ^ n)) s) == w) <;> simp only [cond_true, cond_false, w64_succ c (by omega), w64_succ (c + 1) (by omega)] <;> rfl
    · simp only [zj43, zj42, zb42]
      rw [gd_true (decide_eq_true (by omega)), shl_one n (by omega), decide_eq_false (by omega : ¬ ((2 ^ n : Nat) : Int) < ((2 ^ n : Nat) : Int)), cond_false, w64_succ i (by omega)]
  · simp only [zj45, zj44, zb44, hll]
    rw [decide_eq_false (by omega), cond_false]
theorem impl_canonical_n (N : Nat) (hN : 1048576 < N) {n : Nat} (hn : n ≤ 4) (w : Nat) (hw : w < 2 ^ 2 ^ n) (K : Int → Int → Option β) : zj158 N (n : Int) (w : Int) K = K (n : Int) (mn w (imgs n w) : Int) := by
  have hs : 2 ^ n ≤ 16 := (Nat.pow_le_pow_right (by decide) hn : 2 ^ n ≤ 2 ^ 4)
  have hz : (0 : Int) ≤ ((2 ^ n : Nat) : Int) := Int.natCast_nonneg _
  have hw' := w_small (by omega : n ≤ 5) hw
  have h24 := prm_24 hn
  have hll : (lii (prm n)).length = (prm n).length := List.length_map ..
  unfold zj158 zb158 zj156 zb156
  rw [impl_perms_eq N hN n hn, ← far_all n w, hll]
  refine loop_st (fun F i => zj151 N F ((prm n).length : Int) (i : Int) (n : Int) (mn w (far n w i) : Int) (n : Int) (w : Int) (lii (prm n)) fun e0 e1 => K e0 e1) (prm n).length _ (fun F i hi => ?_) (fun F => ?_) N 0 (by omega) (by omega)
  · have hp := List.getElem_mem hi
    have hq := ptw_16 (prm_len hn hp).2 w n (2 ^ n)
    simp only [zj151, zj150, zb150, rd_lii n i hi, hll]
    rw [decide_eq_true (by omega : (i : Int) < ((prm n).length : Int)), cond_true, gd_true (decide_eq_true (by omega)), gd_true rfl, impl_permute_n N (by omega) hn hp w hw', impl_Table_size_eq N n _ (by omega), far_succ n w i hi]
    generalize (prm n)[i] = p at hp hq ⊢
    refine (loop_st (fun H s => zj149 N H ((prm n).length : Int) (i : Int) ((2 ^ n : Nat) : Int) (s : Int) (n : Int) (mn w (far n w i ++ near n w p s) : Int) (n : Int) (w : Int) (n : Int) (ptw w p n (2 ^ n) : Int) (lii (prm n)) fun e0 e1 e2 e3 e4 e5 e6 => zj151 N F e0 (w64 (e1 + 1)) e2 e3 e4 e5 e6 fun e0 e1 => K e0 e1) (2 ^ n) (zj151 N F ((prm n).length : Int) ((i + 1 : Nat) : Int) (n : Int) (mn w (far n w i ++ near n w p (2 ^ n)) : Int) (n : Int) (w : Int) (lii (prm n)) fun e0 e1 => K e0 e1) (fun H s hs1 => ?_) (fun H => ?_) N 0 (by omega) (by omega) |> fun h => Eq.trans (by rw [show near n w p 0 = [] from rfl, List.append_nil]; rfl) h)
    · have hsl := sh_lt n (ptw w p n (2 ^ n)) s
      simp only [zj149, zj148, zb148, zj146, zb146]
      rw [decide_eq_true (by omega : (s : Int) < ((2 ^ n : Nat) : Int)), cond_true, impl_shift_n N (by omega) (by omega) _ s (by omega) hs1, impl_not_n N (by omega) _ hsl, w64_succ s (by omega), mnI_nat, mnI_nat, ← mn_two, List.append_assoc, ← near_succ]
    · simp only [zj149, zj148, zb148]
      rw [decide_eq_false (by omega : ¬ ((2 ^ n : Nat) : Int) < ((2 ^ n : Nat) : Int)), cond_false, w64_succ i (by omega)]
  · simp only [zj151, zj150, zb150]
    rw [decide_eq_false (by omega), cond_false]
def mpN (l : List Nat) : Mp := l.map fun v : Nat => (((v : Int), 0), 1)
theorem mpN_put (l : List Nat) (v : Nat) : putM ⟨false, true⟩ (mpN l) (v : Int) 0 1 = mpN (insN l v) := by
  unfold insN
  induction l with
  | nil => rfl
  | cons x l ih =>
    show cond (eqK ⟨false, true⟩ ((x : Int), 0) (v : Int) 0) ((((v : Int), 0), 1) :: mpN l) ((((x : Int), 0), 1) :: putM ⟨false, true⟩ (mpN l) (v : Int) 0 1) = _
    rw [ih, List.contains_cons]
    have e : eqK ⟨false, true⟩ ((x : Int), 0) (v : Int) 0 = (v == x) := by
      unfold eqK
      rw [natb, Bool.not_false, Bool.true_or, Bool.and_true, Bool.eq_iff_iff, beq_iff_eq, beq_iff_eq]
      exact eq_comm
    rw [e]
    cases hc : (v == x) with
    | true => rw [cond_true, Bool.true_or, cond_true, eq_of_beq hc]; rfl
    | false =>
      rw [cond_false, Bool.false_or]
      cases l.contains v <;> rfl
theorem ded_two (l : List Nat) (a b : Nat) : ded (l ++ [a, b]) = insN (insN (ded l) a) b := by
  unfold ded
  rw [List.foldl_append]
  rfl
theorem impl_ClassSize_n (N : Nat) (hN : 1048576 < N) {n : Nat} (hn : n ≤ 4) (w : Nat) (hw : w < 2 ^ 2 ^ n) (K : Int → Option β) : zj159 N (n : Int) (w : Int) K = K ((ded (imgs n w)).length : Int) := by
  have hs : 2 ^ n ≤ 16 := (Nat.pow_le_pow_right (by decide) hn : 2 ^ n ≤ 2 ^ 4)
  have hz : (0 : Int) ≤ ((2 ^ n : Nat) : Int) := Int.natCast_nonneg _
  have hw' := w_small (by omega : n ≤ 5) hw
  have h24 := prm_24 hn
  have hll : (lii (prm n)).length = (prm n).length := List.length_map ..
  unfold zj159 zb159 zj157 zb157
  have hsm : smallT (n : Int) (w : Int) 4 = true := by
    unfold smallT
    rw [isTn (by omega) hw, decide_eq_true (by omega : (n : Int) ≤ 4)]
    rfl
  rw [impl_isSmall_eq N _ _ 4 (by omega), hsm, Bool.not_true, cond_false, impl_perms_eq N hN n hn, ← far_all n w, hll]
  have hlen : ∀ l : List Nat, (mpN l).length = l.length := fun l => List.length_map ..
  rw [← hlen]
  refine loop_st (fun F i => zj155 N F ((prm n).length : Int) (i : Int) (mpN (ded (far n w i))) (n : Int) (w : Int) (lii (prm n)) fun e0 => K (e0.length : Int)) (prm n).length _ (fun F i hi => ?_) (fun F => ?_) N 0 (by omega) (by omega)
  · have hp := List.getElem_mem hi
    have hq := ptw_16 (prm_len hn hp).2 w n (2 ^ n)
    simp only [zj155, zj154, zb154, rd_lii n i hi, hll]
    rw [decide_eq_true (by omega : (i : Int) < ((prm n).length : Int)), cond_true, gd_true (decide_eq_true (by omega)), gd_true rfl, impl_permute_n N (by omega) hn hp w hw', impl_Table_size_eq N n _ (by omega), far_succ n w i hi]
    generalize (prm n)[i] = p at hp hq ⊢
    refine (loop_st (fun H s => zj153 N H ((prm n).length : Int) (i : Int) ((2 ^ n : Nat) : Int) (s : Int) (mpN (ded (far n w i ++ near n w p s))) (n : Int) (w : Int) (n : Int) (ptw w p n (2 ^ n) : Int) (lii (prm n)) fun e0 e1 e2 e3 e4 e5 => zj155 N F e0 (w64 (e1 + 1)) e2 e3 e4 e5 fun e0 => K (e0.length : Int)) (2 ^ n) (zj155 N F ((prm n).length : Int) ((i + 1 : Nat) : Int) (mpN (ded (far n w i ++ near n w p (2 ^ n)))) (n : Int) (w : Int) (lii (prm n)) fun e0 => K (e0.length : Int)) (fun H s hs1 => ?_) (fun H => ?_) N 0 (by omega) (by omega) |> fun h => Eq.trans (by rw [show near n w p 0 = [] from rfl, List.append_nil]; rfl) h)
    · have hsl := sh_lt n (ptw w p n (2 ^ n)) s
      simp only [zj153, zj152, zb152, zj147, zb147, cond_true]
      rw [decide_eq_true (by omega : (s : Int) < ((2 ^ n : Nat) : Int)), cond_true, impl_shift_n N (by omega) (by omega) _ s (by omega) hs1, impl_not_n N (by omega) _ hsl, w64_succ s (by omega), mpN_put, mpN_put, ← ded_two, List.append_assoc, ← near_succ]
    · simp only [zj153, zj152, zb152]
      rw [decide_eq_false (by omega : ¬ ((2 ^ n : Nat) : Int) < ((2 ^ n : Nat) : Int)), cond_false, w64_succ i (by omega)]
  · simp only [zj155, zj154, zb154]
    rw [decide_eq_false (by omega), cond_false]
def alN : Nat → Nat
  | 0 => 2
  | i + 1 => alN i * 2 * (i + 1)
theorem alN_sm : ∀ i, i ≤ 4 → alN i ≤ 768 := by decide +kernel
theorem alN_eq : ∀ n, n ≤ 4 → alN n = (prm n).length * (2 ^ n * 2) := by decide +kernel
theorem spec_ClassSize_n (N : Nat) (hN : 1048576 < N) {n : Nat} (hn : n ≤ 4) (w : Nat) (hw : w < 2 ^ 2 ^ n) (K : Int → Option β) : zj51 N (n : Int) (w : Int) K = K ((ded (imgs n w)).length : Int) := by
  obtain ⟨o1, o2⟩ := orbit hn hw
  have h768 := alN_sm n hn
  unfold zj51 zb51 zj48 zb48
  rw [spec_IsTable_eq, isTn (by omega) hw, Bool.not_true, cond_false, decide_eq_false (by omega : ¬ (n : Int) > 4), cond_false, spec_l4Least_n N hN hn w hw]
  dsimp only
  rw [decide_eq_false (by omega), cond_false]
  generalize (imgs n w).count w = c at o1 o2
  refine (loop_st (fun F i => zj50 N F (c : Int) (alN i : Int) ((i + 1 : Nat) : Int) (n : Int) (w : Int) fun e0 e1 => gd (e0 != 0) (K (quoI .i64 e1 e0))) n (gd ((c : Int) != 0) (K (quoI .i64 (alN n : Int) (c : Int)))) (fun F i hi => ?_) (fun F => ?_) N 0 (by omega) (by omega)).trans ?_
  · have h1 := alN_sm i (by omega)
    have h2 : alN i * 2 * (i + 1) ≤ 768 * 2 * 4 := Nat.mul_le_mul (by omega) (by omega)
    simp only [zj50, zj49, zb49]
    rw [decide_eq_true (by omega : ((i + 1 : Nat) : Int) ≤ (n : Int)), cond_true, show w64 ((alN i : Int) * 2) = ((alN i * 2 : Nat) : Int) by rw [w64_id (by omega) (by omega)]; omega, show ((alN i * 2 : Nat) : Int) * ((i + 1 : Nat) : Int) = ((alN i * 2 * (i + 1) : Nat) : Int) from (Int.natCast_mul _ _).symm, w64_nat _ (by omega), w64_succ (i + 1) (by omega)]
    rfl
  · simp only [zj50, zj49, zb49]
    rw [decide_eq_false (by omega), cond_false]
  · rw [gd_true (bne_iff_ne.2 (by omega))]
    congr 1
    unfold quoI
    have e : (alN n : Int).tdiv (c : Int) = ((alN n / c : Nat) : Int) := Int.tdiv_eq_ediv_of_nonneg (Int.natCast_nonneg _)
    have e2 : alN n / c = (ded (imgs n w)).length := by
      rw [alN_eq n hn, ← o1]
      exact Nat.mul_div_cancel _ o2
    have e3 : alN n / c ≤ alN n := Nat.div_le_self _ _
    rw [e, e2]
    exact wrap_small _ (by omega) (by omega)
end Go.Proofs.YtemihnclhcobnaaGreatDoor
namespace Go.Proofs.YtemihnclhcobnaaGreatDoor
open Go.Rv
variable {β : Type}
theorem restr2 (N : Nat) (hN : 64 < N) (n w i : Nat) (hn : n ≤ 5) (hi : i < n) (hw : w < 4294967296) : (∀ k : Int → Int → Option β, zj115 N (n : Int) (w : Int) (i : Int) 0 k = k ((n - 1 : Nat) : Int) (R w n i 0 : Int)) ∧ (∀ k : Int → Int → Option β, zj115 N (n : Int) (w : Int) (i : Int) 1 k = k ((n - 1 : Nat) : Int) (R w n i 1 : Int)) ∧ (∀ k : Int → Int → Option β, zj6 N (n : Int) (w : Int) (i : Int) 0 k = k ((n - 1 : Nat) : Int) (R w n i 0 : Int)) ∧ (∀ k : Int → Int → Option β, zj6 N (n : Int) (w : Int) (i : Int) 1 k = k ((n - 1 : Nat) : Int) (R w n i 1 : Int)) := by
  have e0 := fun k => spec_l3Restrict_eq (β := β) N hN n w i 0 hn hi hw (by decide) k
  have e1 := fun k => spec_l3Restrict_eq (β := β) N hN n w i 1 hn hi hw (by decide) k
  have c0 := fun k => impl_restr_eq (β := β) N hN n w i 0 hn hi hw (by decide) k
  have c1 := fun k => impl_restr_eq (β := β) N hN n w i 1 hn hi hw (by decide) k
  exact ⟨c0, c1, e0, e1⟩
def pol (w n i : Nat) : Int := cond (R w n i 0 == R w n i 1) 0 (cond (R w n i 0 &&& R w n i 1 == R w n i 0) 1 (cond (R w n i 0 &&& R w n i 1 == R w n i 1) (-1) 2))
theorem spec_pol (N : Nat) (hN : 64 < N) (n w i : Nat) (hn : n ≤ 5) (hi : i < n) (hw : w < 4294967296) (k : Int → Option β) : zj57 N (n : Int) (w : Int) (i : Int) k = k (pol w n i) := by
  obtain ⟨-, -, e0, e1⟩ := restr2 (β := β) N hN n w i hn hi hw
  unfold zj57 zb57 pol
  rw [e0, e1, natb, bAnd _ _ (R_lt w n i 0 hn) (R_lt w n i 1 hn), natb, natb]
  cases (R w n i 0 == R w n i 1) <;> cases (R w n i 0 &&& R w n i 1 == R w n i 0) <;> cases (R w n i 0 &&& R w n i 1 == R w n i 1) <;> rfl
theorem andNot0 {a b : Nat} (ha : a < 2 ^ 63) (hb : b < 2 ^ 63) : (bits .andNot .i64 (a : Int) (b : Int) == 0) = (a &&& b == a) := by
  rw [bAndNot _ _ ha hb, show (((a ^^^ (a &&& b) : Nat) : Int) == 0) = (a ^^^ (a &&& b) == 0) from natb _ 0, Bool.eq_iff_iff, beq_iff_eq, beq_iff_eq]
  exact ⟨fun h => (xor_zero h).symm, fun h => by rw [h, Nat.xor_self]⟩
theorem impl_pol (N : Nat) (hN : 64 < N) (n w i : Nat) (hn : n ≤ 5) (hi : i < n) (hw : w < 4294967296) (k : Int → Option β) : zj164 N (n : Int) (w : Int) (i : Int) k = k (pol w n i) := by
  obtain ⟨e0, e1, -, -⟩ := restr2 (β := β) N hN n w i hn hi hw
  unfold zj164 zb164 pol
  rw [e0, e1, natb, andNot0 (R_lt w n i 0 hn) (R_lt w n i 1 hn), andNot0 (R_lt w n i 1 hn) (R_lt w n i 0 hn), Nat.and_comm (R w n i 1)]
  cases (R w n i 0 == R w n i 1) <;> cases (R w n i 0 &&& R w n i 1 == R w n i 0) <;> cases (R w n i 0 &&& R w n i 1 == R w n i 1) <;> rfl
def una (w n : Nat) : Bool := allTo (fun i => pol w n i != 2) n
theorem spec_IsUnate_n (N : Nat) (hN : 64 < N) (n w : Nat) (hn : n ≤ 5) (hw : w < 2 ^ 2 ^ n) (K : Bool → Option β) : zj60 N (n : Int) (w : Int) K = K (una w n) := by
  have hw' := w_small hn hw
  unfold zj60 zb60 una
  refine (loop_all (fun F i => zj59 N F (i : Int) (n : Int) (w : Int) (fun e => K e) fun e0 e1 => zj2 N e0 e1 fun r7 => K r7) (fun i => pol w n i != 2) n (K false) (K true) (fun F i hi => ?_) (fun F => ?_) N (by omega)).trans (by cases allTo (fun i => pol w n i != 2) n <;> rfl)
  · simp only [zj59, zj58, zb58]
    rw [spec_IsTable_eq, isTn hn hw, cond_true, decide_eq_true (by omega : (i : Int) < (n : Int)), cond_true, spec_pol N hN n w i hn hi hw', w64_succ i (by omega), bne]
    cases (pol w n i == 2) <;> rfl
  · simp only [zj59, zj58, zb58]
    rw [spec_IsTable_eq, isTn hn hw, cond_true, decide_eq_false (by omega : ¬ (n : Int) < (n : Int)), cond_false, spec_IsTable_eq, isTn hn hw]
theorem impl_IsUnate_n (N : Nat) (hN : 64 < N) (n w : Nat) (hn : n ≤ 5) (hw : w < 2 ^ 2 ^ n) (K : Bool → Option β) : zj169 N (n : Int) (w : Int) K = K (una w n) := by
  have hw' := w_small hn hw
  unfold zj169 zb169 zj168 zb168 zj167 zb167
  rw [impl_IsTable_eq N _ _ (by omega), isTn hn hw, Bool.not_true, cond_false]
  have key : ∀ (d i F : Nat) (v : Int), i + d = n → d < F → allTo (fun i => pol w n i != 2) i = true → zj166 N F v (n : Int) (i : Int) (n : Int) (w : Int) (fun e0 e1 => K e1) (fun e0 => K true) = K (una w n) := by
    intro d
    induction d with
    | zero =>
      intro i F v hd hF ha
      obtain ⟨G, rfl⟩ : ∃ G, F = G + 1 := ⟨F - 1, by omega⟩
      have : i = n := by omega
      subst this
      simp only [zj166, zj165, zb165]
      unfold una
      rw [decide_eq_false (by omega), cond_false, ha]
    | succ d ih =>
      intro i F v hd hF ha
      obtain ⟨G, rfl⟩ : ∃ G, F = G + 1 := ⟨F - 1, by omega⟩
      simp only [zj166, zj165, zb165]
      rw [decide_eq_true (by omega : (i : Int) < (n : Int)), cond_true, impl_pol N hN n w i hn (by omega) hw', w64_succ i (by omega), gd_true (decide_eq_true (by omega))]
      have next := fun v h => ih (i + 1) G v (by omega) (by omega) h
      cases h2 : (pol w n i == 2) with
      | true =>
        rw [eq_of_beq h2]
        have hf : una w n = false := by
          cases hu : una w n with
          | false => rfl
          | true =>
            have := allTo_spec hu i (by omega)
            rw [bne, h2] at this
            cases this
        rw [hf]
        rfl
      | false =>
        have ha2 : allTo (fun i => pol w n i != 2) (i + 1) = true := by
          show (allTo (fun i => pol w n i != 2) i && (pol w n i != 2)) = true
          rw [ha, bne, h2]
          rfl
        cases (pol w n i == -1) with
        | true => rw [cond_true]; exact next _ ha2
        | false => rw [cond_false, cond_false]; exact next _ ha2
  exact key n 0 N 0 (by omega) (by omega) rfl
def exch (w n a b : Nat) : Bool := allTo (fun x => x.testBit a == x.testBit b || w.testBit x == w.testBit (x ^^^ (2 ^ a ||| 2 ^ b))) (2 ^ n)
theorem bit_ne (u v x y : Nat) (hu : u < 9223372036854775808) (hv : v < 9223372036854775808) : (bits .and .i64 (shrI .i64 (u : Int) (x : Int)) 1 != bits .and .i64 (shrI .i64 (v : Int) (y : Int)) 1) = (u.testBit x != v.testBit y) := by
  rw [bit_at u x hu, bit_at v y hv]
  cases u.testBit x <;> cases v.testBit y <;> rfl
theorem exch_n (N : Nat) (hN : 64 < N) (n w j : Nat) (hn : n ≤ 5) (hj : j + 1 < n) (hw : w < 2 ^ 2 ^ n) (K : Bool → Option β) : zj63 N (n : Int) (w : Int) (j : Int) ((j + 1 : Nat) : Int) K = K (exch w n j (j + 1)) := by
  have hs := size_le hn
  have hz : (0 : Int) ≤ ((2 ^ n : Nat) : Int) := Int.natCast_nonneg _
  have hw' := w_small hn hw
  unfold zj63 zb63 exch
  rw [spec_IsTable_eq, isTn hn hw, Bool.not_true, cond_false, spec_l1In_eq, show w64 ((n : Int) - 1) = (n : Int) - 1 from w64_id (by omega) (by omega), decide_eq_true (by omega : (0 : Int) ≤ (j : Int)), decide_eq_true (by omega : (j : Int) ≤ (n : Int) - 1), Bool.and_self, Bool.not_true, cond_false, spec_l1In_eq, decide_eq_true (by omega : (0 : Int) ≤ ((j + 1 : Nat) : Int)), decide_eq_true (by omega : ((j + 1 : Nat) : Int) ≤ (n : Int) - 1), Bool.and_self, Bool.not_true, cond_false]
  refine (loop_all (fun F x => zj62 N F (j : Int) ((j + 1 : Nat) : Int) (x : Int) (n : Int) (w : Int) (fun e => K e) (K true)) (fun x => x.testBit j == x.testBit (j + 1) || w.testBit x == w.testBit (x ^^^ (2 ^ j ||| 2 ^ (j + 1)))) (2 ^ n) (K false) (K true) (fun F x hx => ?_) (fun F => ?_) N (by omega)).trans (by cases allTo (fun x => x.testBit j == x.testBit (j + 1) || w.testBit x == w.testBit (x ^^^ (2 ^ j ||| 2 ^ (j + 1)))) (2 ^ n) <;> rfl)
  · have hj1 : 2 ^ j < 2 ^ 5 := Nat.pow_lt_pow_right (by decide) (by omega)
    have hj2 : 2 ^ (j + 1) < 2 ^ 5 := Nat.pow_lt_pow_right (by decide) (by omega)
    have ho : 2 ^ j ||| 2 ^ (j + 1) < 2 ^ 5 := Nat.or_lt_two_pow hj1 hj2
    have hxo : x ^^^ (2 ^ j ||| 2 ^ (j + 1)) < 2 ^ 5 := Nat.xor_lt_two_pow (by omega) ho
    have ex : bits .xor .i64 (x : Int) (bits .or .i64 (shlI .i64 1 (j : Int)) (shlI .i64 1 ((j + 1 : Nat) : Int))) = ((x ^^^ (2 ^ j ||| 2 ^ (j + 1)) : Nat) : Int) := by
      rw [shl_one j (by omega), shl_one (j + 1) (by omega), bOr _ _ (by omega) (by omega), bXor _ _ (by omega) (by omega)]
    simp only [zj62, zj61, zb61]
    simp only [ex]
    rw [gd_true (decide_eq_true (by omega)), shl_one n (by omega), decide_eq_true (by omega : (x : Int) < ((2 ^ n : Nat) : Int)), cond_true]
    simp only [decide_eq_true (by omega : (0 : Int) ≤ (j : Int)), decide_eq_true (by omega : (0 : Int) ≤ ((j + 1 : Nat) : Int)), decide_eq_true (by omega : (0 : Int) ≤ (x : Int)), decide_eq_true (by omega : (0 : Int) ≤ ((x ^^^ (2 ^ j ||| 2 ^ (j + 1)) : Nat) : Int)), gd_true (rfl : true = true)]
    rw [bit_ne x x j (j + 1) (by omega) (by omega), bit_ne w w _ _ (by omega) (by omega), bne_self_eq_false, cond_false, w64_succ x (by omega)]
    cases x.testBit j <;> cases x.testBit (j + 1) <;> cases w.testBit x <;> cases w.testBit (x ^^^ (2 ^ j ||| 2 ^ (j + 1))) <;> rfl
  · simp only [zj62, zj61, zb61]
    rw [gd_true (decide_eq_true (by omega)), shl_one n (by omega), decide_eq_false (by omega : ¬ ((2 ^ n : Nat) : Int) < ((2 ^ n : Nat) : Int)), cond_false]
def sym (w n : Nat) : Bool := allTo (fun x => w.testBit x == w.testBit (2 ^ ones x - 1)) (2 ^ n)
theorem sy1 : ∀ x : Nat, x < 32 → ∀ j : Nat, j < 4 → (x.testBit j == x.testBit (j + 1) || (ones (x ^^^ (2 ^ j ||| 2 ^ (j + 1))) == ones x && (x.testBit j || decide (x ^^^ (2 ^ j ||| 2 ^ (j + 1)) < x)))) = true := by decide +kernel
theorem sy2 : ∀ x : Nat, x < 32 → (x == 2 ^ ones x - 1 || (List.range 4).any fun j => !x.testBit j && x.testBit (j + 1)) = true := by decide +kernel
theorem sym_eq (w n : Nat) (hn : n ≤ 5) : allTo (fun j => exch w n j (j + 1)) (n - 1) = sym w n := by
  have hs := size_le hn
  refine allTo_eq ⟨fun h => ?_, fun h j hj => ?_⟩
  · have key : ∀ (k x : Nat), x < k → x < 2 ^ n → w.testBit x = w.testBit (2 ^ ones x - 1) := by
      intro k
      induction k with
      | zero => intro x h; omega
      | succ k ih =>
        intro x hk hx
        have h2 := sy2 x (by omega)
        rw [Bool.or_eq_true] at h2
        rcases h2 with h2 | h2
        · rw [← eq_of_beq h2]
        · obtain ⟨j, hj, hb⟩ := List.any_eq_true.1 h2
          have hj := List.mem_range.1 hj
          rw [Bool.and_eq_true, Bool.not_eq_true'] at hb
          have hjn : j + 1 < n := by
            rcases Nat.lt_or_ge (j + 1) n with h | h
            · exact h
            · have := Nat.testBit_lt_two_pow (Nat.lt_of_lt_of_le hx (Nat.pow_le_pow_right (by decide : 0 < 2) h))
              rw [this] at hb; cases hb.2
          have h1 := sy1 x (by omega) j hj
          rw [hb.1, hb.2, show ((false : Bool) == true) = false from rfl, Bool.false_or, Bool.false_or, Bool.and_eq_true] at h1
          have h3 := of_decide_eq_true h1.2
          have h4 := ih (x ^^^ (2 ^ j ||| 2 ^ (j + 1))) (by omega) (by omega)
          rw [eq_of_beq h1.1] at h4
          have h5 := allTo_spec (h j (by omega)) x hx
          rw [hb.1, hb.2, show ((false : Bool) == true) = false from rfl, Bool.false_or] at h5
          rw [eq_of_beq h5, h4]
    exact fun x hx => beq_iff_eq.2 (key (x + 1) x (by omega) hx)
  · refine allTo_of fun x hx => ?_
    have h1 := sy1 x (by omega) j (by omega)
    cases hb : (x.testBit j == x.testBit (j + 1)) with
    | true => rfl
    | false =>
      rw [hb, Bool.false_or, Bool.and_eq_true] at h1
      have h2 : 2 ^ j ||| 2 ^ (j + 1) < 2 ^ n := Nat.or_lt_two_pow (Nat.pow_lt_pow_right (by decide) (by omega)) (Nat.pow_lt_pow_right (by decide) (by omega))
      have h3 := h x hx
      have h4 := h _ (Nat.xor_lt_two_pow hx h2)
      rw [eq_of_beq h1.1] at h4
      rw [Bool.false_or, eq_of_beq h3, ← eq_of_beq h4, beq_self_eq_true]
theorem spec_IsSymmetric_n (N : Nat) (hN : 64 < N) (n w : Nat) (hn : n ≤ 5) (hw : w < 2 ^ 2 ^ n) (K : Bool → Option β) : zj66 N (n : Int) (w : Int) K = K (sym w n) := by
  rw [← sym_eq w n hn]
  unfold zj66 zb66
  refine (loop_all (fun F j => zj65 N F ((j + 1 : Nat) : Int) (n : Int) (w : Int) (fun e => K e) fun e0 e1 => zj2 N e0 e1 fun r7 => K r7) (fun j => exch w n j (j + 1)) (n - 1) (K false) (K true) (fun F j hj => ?_) (fun F => ?_) N (by omega)).trans (by cases allTo (fun j => exch w n j (j + 1)) (n - 1) <;> rfl)
  · simp only [zj65, zj64, zb64]
    rw [spec_IsTable_eq, isTn hn hw, cond_true, decide_eq_true (by omega : ((j + 1 : Nat) : Int) < (n : Int)), cond_true, show w64 (((j + 1 : Nat) : Int) - 1) = (j : Int) by rw [w64_id (by omega) (by omega)]; omega, exch_n N hN n w j hn (by omega) hw, w64_succ (j + 1) (by omega)]
    cases exch w n j (j + 1) <;> rfl
  · simp only [zj65, zj64, zb64]
    rw [spec_IsTable_eq, isTn hn hw, cond_true, decide_eq_false (by omega : ¬ ((n - 1 + 1 : Nat) : Int) < (n : Int)), cond_false, spec_IsTable_eq, isTn hn hw]
def prf (w m : Nat) : List Int := (List.range m).map fun k => (bw w (2 ^ k - 1) : Int)
theorem prf_len (w m : Nat) : (prf w m).length = m := by simp [prf]
theorem impl_IsSymmetric_n (N : Nat) (hN : 64 < N) (n w : Nat) (hn : n ≤ 5) (hw : w < 2 ^ 2 ^ n) (K : Bool → Option β) : zj175 N (n : Int) (w : Int) K = K (sym w n) := by
  have hs := size_le hn
  have hz : (0 : Int) ≤ ((2 ^ n : Nat) : Int) := Int.natCast_nonneg _
  have hw' := w_small hn hw
  unfold zj175 zb175 zj174 zb174
  rw [impl_IsTable_eq N _ _ (by omega), isTn hn hw, Bool.not_true, cond_false, w64_succ n (by omega), gd_true (decide_eq_true (by omega)), gd_true (decide_eq_true (by omega)), gd_true (decide_eq_true (by omega)), Int.toNat_natCast, List.length_replicate]
  refine (loop_st (fun F k => zj171 N F ((n + 1 : Nat) : Int) (k : Int) (n : Int) (w : Int) (prf w k ++ List.replicate (n + 1 - k) 0) fun e0 e1 e2 => zj103 N e0 e1 fun r6 => zj173 N N r6 0 e0 e1 e2 (fun e9_0 e9_1 => K e9_0) fun e10_0 => K true) (n + 1) (zj173 N N ((2 ^ n : Nat) : Int) 0 (n : Int) (w : Int) (prf w (n + 1)) (fun e9_0 e9_1 => K e9_0) fun e10_0 => K true) (fun F k hk => ?_) (fun F => ?_) N 0 (by omega) (by omega)).trans ?_
  · have h2 : 2 ^ k ≤ 32 := (Nat.pow_le_pow_right (by decide) (by omega : k ≤ 5) : 2 ^ k ≤ 2 ^ 5)
    have h1 : 1 ≤ 2 ^ k := Nat.one_le_two_pow
    simp only [zj171, zj170, zb170]
    rw [decide_eq_true (by omega : (k : Int) < ((n + 1 : Nat) : Int)), cond_true, gd_true (decide_eq_true (by omega)), shl_one k (by omega), show w64 (((2 ^ k : Nat) : Int) - 1) = ((2 ^ k - 1 : Nat) : Int) by rw [w64_id (by omega) (by omega)]; omega, impl_Table_at_eq N w _ _ hw', gd_true (decide_eq_true (by omega)), gd_true (decide_eq_true (by rw [List.length_append, prf_len, List.length_replicate]; omega)), w64_succ k (by omega)]
    have e := wr_mid (prf w k) 0 (bw w (2 ^ k - 1) : Int) (List.replicate (n + 1 - (k + 1)) 0)
    rw [prf_len] at e
    rw [show n + 1 - k = (n + 1 - (k + 1)) + 1 by omega, List.replicate_succ, e, show prf w (k + 1) = prf w k ++ [(bw w (2 ^ k - 1) : Int)] by simp [prf, List.range_succ], List.append_assoc]
    rfl
  · simp only [zj171, zj170, zb170]
    rw [decide_eq_false (by omega : ¬ ((n + 1 : Nat) : Int) < ((n + 1 : Nat) : Int)), cond_false, impl_Table_size_eq N n _ hn, Nat.sub_self, List.replicate_zero, List.append_nil]
  · unfold sym
    refine (loop_all (fun F x => zj173 N F ((2 ^ n : Nat) : Int) (x : Int) (n : Int) (w : Int) (prf w (n + 1)) (fun e9_0 e9_1 => K e9_0) fun e10_0 => K true) (fun x => w.testBit x == w.testBit (2 ^ ones x - 1)) (2 ^ n) (K false) (K true) (fun F x hx => ?_) (fun F => ?_) N (by omega)).trans (by cases allTo (fun x => w.testBit x == w.testBit (2 ^ ones x - 1)) (2 ^ n) <;> rfl)
    · have ho := ones_small n hn x hx
      have hr : rd 0 (prf w (n + 1)) (ones x : Int) = (bw w (2 ^ ones x - 1) : Int) := by
        rw [rd_nat 0 _ _ (by rw [prf_len]; omega)]
        simp [prf]
      simp only [zj173, zj172, zb172]
      rw [decide_eq_true (by omega : (x : Int) < ((2 ^ n : Nat) : Int)), cond_true, impl_Table_at_eq N w _ _ hw', impl_ones_eq N x (by omega), gd_true (decide_eq_true (by omega)), gd_true (decide_eq_true (by rw [prf_len]; omega)), hr, w64_succ x (by omega)]
      unfold bw
      cases w.testBit x <;> cases w.testBit (2 ^ ones x - 1) <;> rfl
    · simp only [zj173, zj172, zb172]
      rw [decide_eq_false (by omega : ¬ ((2 ^ n : Nat) : Int) < ((2 ^ n : Nat) : Int)), cond_false]
theorem spec_nt (n h : Nat) (hn : n ≤ 5) (hh : h < 2 ^ 2 ^ n) : w64 (((2 ^ 2 ^ n - 1 : Nat) : Int) - (h : Int)) = (nt n h : Int) := by
  have hs := size_le hn
  have hw := w_small hn hh
  have hp2 : 2 ^ 2 ^ n < 9223372036854775808 := pow_le_64 (by omega)
  unfold nt
  rw [w64_id (by omega) (by omega)]
  omega
def sdu (w n : Nat) : Bool := nt n (sh n w (2 ^ n - 1)) == w
theorem top_w (n : Nat) (hn : n ≤ 5) : w64 (((2 ^ n : Nat) : Int) - 1) = ((2 ^ n - 1 : Nat) : Int) := by
  have hs := size_le hn
  have h1 : 1 ≤ 2 ^ n := Nat.one_le_two_pow
  rw [w64_id (by omega) (by omega)]
  omega
theorem spec_IsSelfDual_n (N : Nat) (hN : 64 < N) (n w : Nat) (hn : n ≤ 5) (hw : w < 2 ^ 2 ^ n) (K : Bool → Option β) : zj77 N (n : Int) (w : Int) K = K (sdu w n) := by
  have h1 : 1 ≤ 2 ^ n := Nat.one_le_two_pow
  have hw' := w_small hn hw
  unfold zj77 zb77 zj76 zb76 sdu
  rw [spec_IsTable_eq, isTn hn hw, Bool.not_true, cond_false, gd_true (decide_eq_true (by omega)), shl_one n (by omega), top_w n hn, spec_shift_n N hN hn w _ hw' (by omega), spec_l2Full_eq N n hn, spec_nt n _ hn (sh_lt _ _ _)]
  dsimp only
  rw [cond_true, natb]
theorem impl_IsSelfDual_n (N : Nat) (hN : 64 < N) (n w : Nat) (hn : n ≤ 5) (hw : w < 2 ^ 2 ^ n) (K : Bool → Option β) : zj184 N (n : Int) (w : Int) K = K (sdu w n) := by
  have h1 : 1 ≤ 2 ^ n := Nat.one_le_two_pow
  have hw' := w_small hn hw
  unfold zj184 zb184 zj183 zb183 sdu
  rw [impl_IsTable_eq N _ _ (by omega), isTn hn hw, cond_true, impl_Table_size_eq N n _ hn, top_w n hn, impl_shift_n N hN hn w _ hw' (by omega), impl_not_n N hn _ (sh_lt _ _ _)]
  dsimp only
  rw [beq_self_eq_true, Bool.true_and, natb]
def af (n m c : Nat) : Nat := tabw (fun x => (ones (m &&& x) + c) % 2 == 1) (2 ^ n)
theorem tabw_nx (g : Nat → Bool) (i : Nat) : tabw g (i + 1) = tabw g i ||| cond (g i) (2 ^ i) 0 := by
  refine Nat.eq_of_testBit_eq fun j => ?_
  rw [Nat.testBit_or, tabw_bit, tabw_bit]
  by_cases h : j = i
  · subst h
    rw [decide_eq_true (by omega), decide_eq_false (by omega)]
    cases hg : g j with
    | false => simp
    | true => rw [cond_true, pow_bit]; simp
  · have : (cond (g i) (2 ^ i) 0).testBit j = false := by
      cases g i with
      | false => exact Nat.zero_testBit _
      | true => rw [cond_true, pow_bit]; exact decide_eq_false (fun e => h e.symm)
    rw [this, Bool.or_false]
    congr 1
    rw [decide_eq_decide]
    omega
theorem ones_32 : ∀ x : Nat, x < 32 → ones x ≤ 5 := by decide +kernel
theorem par (a c : Nat) (ha : a ≤ 5) (hc : c < 2) : remI (w64 ((a : Int) + (c : Int))) 2 = ((cond ((a + c) % 2 == 1) 1 0 : Nat) : Int) := by
  have key : ∀ a : Nat, a ≤ 5 → ∀ c : Nat, c < 2 → remI (w64 ((a : Int) + (c : Int))) 2 = ((cond ((a + c) % 2 == 1) 1 0 : Nat) : Int) := by decide +kernel
  exact key a ha c hc
theorem spec_affine_n (N : Nat) (hN : 64 < N) (n m c : Nat) (hn : n ≤ 5) (hm : m < 2 ^ n) (hc : c < 2) (K : Int → Option β) : zj69 N (n : Int) (m : Int) (c : Int) K = K (af n m c : Int) := by
  have hs := size_le hn
  have hz : (0 : Int) ≤ ((2 ^ n : Nat) : Int) := Int.natCast_nonneg _
  unfold zj69 zb69 af
  refine loop_st (fun F x => zj68 N F (n : Int) (m : Int) (c : Int) (tabw (fun x => (ones (m &&& x) + c) % 2 == 1) x : Int) (x : Int) fun e => K e) (2 ^ n) _ (fun F x hx => ?_) (fun F => ?_) N 0 (by omega) (by omega)
  · have ha : m &&& x ≤ x := Nat.and_le_right
    have ho := ones_32 (m &&& x) (by omega)
    have ht := tabw_lt (fun x => (ones (m &&& x) + c) % 2 == 1) x
    have hp : 2 ^ x ≤ 2 ^ 32 := Nat.pow_le_pow_right (by decide) (by omega)
    simp only [zj68, zj67, zb67]
    rw [gd_true (decide_eq_true (by omega)), shl_one n (by omega), decide_eq_true (by omega : (x : Int) < ((2 ^ n : Nat) : Int)), cond_true, bAnd _ _ (by omega) (by omega), spec_l2Count_eq N _ hN (by omega), gd_true (decide_eq_true (by omega)), par _ c ho hc, w64_succ x (by omega), shl_nat _ x (by omega) (by cases ((ones (m &&& x) + c) % 2 == 1) <;> simp <;> omega), bOr _ _ (by omega) (by cases ((ones (m &&& x) + c) % 2 == 1) <;> simp <;> omega), tabw_nx]
    cases ((ones (m &&& x) + c) % 2 == 1) <;> simp only [cond_true, cond_false, Nat.one_mul, Nat.zero_mul]
  · simp only [zj68, zj67, zb67]
    rw [gd_true (decide_eq_true (by omega)), shl_one n (by omega), decide_eq_false (by omega : ¬ ((2 ^ n : Nat) : Int) < ((2 ^ n : Nat) : Int)), cond_false]
theorem impl_affine_n (N : Nat) (hN : 64 < N) (n m c : Nat) (hn : n ≤ 5) (hm : m < 2 ^ n) (hc : c < 2) (K : Int → Int → Option β) : zj176 N (n : Int) (m : Int) (c : Int) K = K (n : Int) (af n m c : Int) := by
  have hs := size_le hn
  unfold zj176 zb176
  rw [makeTable_eq N hN n hn _ (fun x => (ones (m &&& x) + c) % 2 == 1) fun x k hx => ?_]
  · rfl
  · have ha : m &&& x ≤ x := Nat.and_le_right
    have ho := ones_32 (m &&& x) (by omega)
    unfold zj111 zb111
    rw [bAnd _ _ (by omega) (by omega), impl_ones_eq N _ (by omega), par _ c ho hc]
    cases ((ones (m &&& x) + c) % 2 == 1) <;> rfl
def far_ (w n m c : Nat) : Nat := ones (w ^^^ af n m c)
def bst (w n s : Nat) : Nat → Nat
  | 0 => s
  | m + 1 => min (min (bst w n s m) (far_ w n m 0)) (far_ w n m 1)
theorem bst_zero (w n s t : Nat) (hs : 0 < s) (ht : 0 < t) : ∀ m, (bst w n s m = 0 ↔ bst w n t m = 0)
  | 0 => by unfold bst; omega
  | m + 1 => by
    have := bst_zero w n s t hs ht m
    unfold bst
    omega
theorem cmin (b q : Nat) : cond (decide ((q : Int) < (b : Int))) q b = min b q := by
  by_cases h : q < b
  · rw [decide_eq_true (by omega), cond_true, Nat.min_eq_right (by omega)]
  · rw [decide_eq_false (by omega), cond_false, Nat.min_eq_left (by omega)]
theorem af_x {n w m c : Nat} (hn : n ≤ 5) (hw : w < 2 ^ 2 ^ n) : w ^^^ af n m c < 4294967296 := w_small hn (Nat.xor_lt_two_pow hw (tabw_lt _ _))
theorem spec_IsAffine_n (N : Nat) (hN : 64 < N) (n w : Nat) (hn : n ≤ 5) (hw : w < 2 ^ 2 ^ n) (K : Bool → Option β) : zj75 N (n : Int) (w : Int) K = K (bst w n 100 (2 ^ n) == 0) := by
  have hs := size_le hn
  have hz : (0 : Int) ≤ ((2 ^ n : Nat) : Int) := Int.natCast_nonneg _
  have hw' := w_small hn hw
  unfold zj75 zb75 zj74 zb74
  rw [spec_IsTable_eq, isTn hn hw, Bool.not_true, cond_false]
  simp only [cond_true]
  have one : ∀ (H c m : Nat) (v0 v1 : Int) (b : Nat) (k0 : Int → Int → Int → Int → Int → Int → Option β), c < 2 → m < 2 ^ n → ∃ u0 u1 : Int, zj71 N (H + 1) v0 v1 (b : Int) (m : Int) (c : Int) (n : Int) (w : Int) k0 = zj71 N H u0 u1 (min b (far_ w n m c) : Nat) (m : Int) ((c + 1 : Nat) : Int) (n : Int) (w : Int) k0 := by
    intro H c m v0 v1 b k0 hc hm
    have hx := af_x (m := m) (c := c) hn hw
    have ha := w_small hn (tabw_lt (fun x => (ones (m &&& x) + c) % 2 == 1) (2 ^ n))
    simp only [zj71, zj70, zb70]
    rw [decide_eq_true (by omega : (c : Int) < 2), cond_true, spec_affine_n N hN n m c hn hm hc, bXor _ _ (by omega) (by unfold af; omega), spec_l2Count_eq N _ hN hx, w64_succ c (by omega), ← cmin]
    show ∃ u0 u1 : Int, cond (decide ((far_ w n m c : Int) < (b : Int))) (zj71 N H (m : Int) (c : Int) (far_ w n m c : Int) (m : Int) ((c + 1 : Nat) : Int) (n : Int) (w : Int) k0) (zj71 N H v0 v1 (b : Int) (m : Int) ((c + 1 : Nat) : Int) (n : Int) (w : Int) k0) = _
    cases decide ((far_ w n m c : Int) < (b : Int)) with
    | true => exact ⟨m, c, rfl⟩
    | false => exact ⟨v0, v1, rfl⟩
  have key : ∀ (d m F : Nat) (v0 v1 : Int), m + d = 2 ^ n → d < F → zj73 N F v0 v1 (bst w n 100 m : Int) (m : Int) (n : Int) (w : Int) (fun e0 e1 e2 => K (e2 == 0)) = K (bst w n 100 (2 ^ n) == 0) := by
    intro d
    induction d with
    | zero =>
      intro m F v0 v1 hd hF
      obtain ⟨G, rfl⟩ : ∃ G, F = G + 1 := ⟨F - 1, by omega⟩
      have : m = 2 ^ n := by omega
      subst this
      simp only [zj73, zj72, zb72]
      rw [gd_true (decide_eq_true (by omega)), shl_one n (by omega), decide_eq_false (by omega : ¬ ((2 ^ n : Nat) : Int) < ((2 ^ n : Nat) : Int)), cond_false, show ((bst w n 100 (2 ^ n) : Int) == 0) = (bst w n 100 (2 ^ n) == 0) from natb _ 0]
    | succ d ih =>
      intro m F v0 v1 hd hF
      obtain ⟨G, rfl⟩ : ∃ G, F = G + 1 := ⟨F - 1, by omega⟩
      simp only [zj73, zj72, zb72]
      rw [gd_true (decide_eq_true (by omega)), shl_one n (by omega), decide_eq_true (by omega : (m : Int) < ((2 ^ n : Nat) : Int)), cond_true]
      obtain ⟨H, rfl⟩ : ∃ H, N = H + 1 + 1 + 1 := ⟨N - 3, by omega⟩
      obtain ⟨u0, u1, e1⟩ := one (H + 1 + 1) 0 m v0 v1 (bst w n 100 m) (fun e9_0 e9_1 e9_2 e9_3 e9_4 e9_5 => zj73 (H + 1 + 1 + 1) G e9_0 e9_1 e9_2 (w64 (e9_3 + 1)) e9_4 e9_5 fun e0 e1 e2 => K (e2 == 0)) (by omega) (by omega)
      obtain ⟨y0, y1, e2⟩ := one (H + 1) 1 m u0 u1 (min (bst w n 100 m) (far_ w n m 0)) (fun e9_0 e9_1 e9_2 e9_3 e9_4 e9_5 => zj73 (H + 1 + 1 + 1) G e9_0 e9_1 e9_2 (w64 (e9_3 + 1)) e9_4 e9_5 fun e0 e1 e2 => K (e2 == 0)) (by omega) (by omega)
      refine e1.trans (e2.trans ?_)
      refine Eq.trans ?_ (ih (m + 1) G y0 y1 (by omega) (by omega))
      show zj70 _ _ _ _ _ _ _ _ _ _ = _
      unfold zj70 zb70
      rw [decide_eq_false (by omega : ¬ ((1 + 1 : Nat) : Int) < 2), cond_false]
      dsimp only
      rw [w64_succ m (by omega)]
      rfl
  exact key (2 ^ n) 0 N 0 0 (by omega) (by omega)
theorem impl_IsAffine_n (N : Nat) (hN : 64 < N) (n w : Nat) (hn : n ≤ 5) (hw : w < 2 ^ 2 ^ n) (K : Bool → Option β) : zj182 N (n : Int) (w : Int) K = K (bst w n 100 (2 ^ n) == 0) := by
  have hs := size_le hn
  have hz : (0 : Int) ≤ ((2 ^ n : Nat) : Int) := Int.natCast_nonneg _
  have hw' := w_small hn hw
  have hsame : (bst w n 100 (2 ^ n) == 0) = (bst w n (2 ^ n + 1) (2 ^ n) == 0) := by
    rw [Bool.eq_iff_iff, beq_iff_eq, beq_iff_eq]
    exact bst_zero w n 100 (2 ^ n + 1) (by decide) (by omega) _
  rw [hsame]
  unfold zj182 zb182 zj181 zb181
  rw [impl_IsTable_eq N _ _ (by omega), isTn hn hw, Bool.not_true, cond_false, impl_Table_size_eq N n _ hn, impl_Table_size_eq N n _ hn, w64_succ _ (by omega)]
  simp only [cond_true]
  have one : ∀ (H c m : Nat) (v0 v1 v4 v5 : Int) (b : Nat) (k0 : Int → Int → Int → Int → Int → Int → Int → Option β), c < 2 → m < 2 ^ n → ∃ u0 u1 : Int, zj178 N (H + 1) v0 v1 (b : Int) (m : Int) v4 v5 (c : Int) (n : Int) (w : Int) k0 = zj178 N H u0 u1 (min b (far_ w n m c) : Nat) (m : Int) v4 v5 ((c + 1 : Nat) : Int) (n : Int) (w : Int) k0 := by
    intro H c m v0 v1 v4 v5 b k0 hc hm
    have hx := af_x (m := m) (c := c) hn hw
    have ha := w_small hn (tabw_lt (fun x => (ones (m &&& x) + c) % 2 == 1) (2 ^ n))
    simp only [zj178, zj177, zb177]
    rw [decide_eq_true (by omega : (c : Int) < 2), cond_true, impl_affine_n N hN n m c hn hm hc, bXor _ _ (by omega) (by unfold af; omega), impl_ones_eq N _ hx, w64_succ c (by omega), ← cmin]
    show ∃ u0 u1 : Int, cond (decide ((far_ w n m c : Int) < (b : Int))) (zj178 N H (m : Int) (c : Int) (far_ w n m c : Int) (m : Int) v4 v5 ((c + 1 : Nat) : Int) (n : Int) (w : Int) k0) (zj178 N H v0 v1 (b : Int) (m : Int) v4 v5 ((c + 1 : Nat) : Int) (n : Int) (w : Int) k0) = _
    cases decide ((far_ w n m c : Int) < (b : Int)) with
    | true => exact ⟨m, c, rfl⟩
    | false => exact ⟨v0, v1, rfl⟩
  have key : ∀ (d m F : Nat) (v0 v1 : Int), m + d = 2 ^ n → d < F → zj180 N F v0 v1 (bst w n (2 ^ n + 1) m : Int) ((2 ^ n : Nat) : Int) (m : Int) (n : Int) (w : Int) (fun e0 e1 e2 => K (e2 == 0)) = K (bst w n (2 ^ n + 1) (2 ^ n) == 0) := by
    intro d
    induction d with
    | zero =>
      intro m F v0 v1 hd hF
      obtain ⟨G, rfl⟩ : ∃ G, F = G + 1 := ⟨F - 1, by omega⟩
      have : m = 2 ^ n := by omega
      subst this
      simp only [zj180, zj179, zb179]
      rw [decide_eq_false (by omega : ¬ ((2 ^ n : Nat) : Int) < ((2 ^ n : Nat) : Int)), cond_false, show ((bst w n (2 ^ n + 1) (2 ^ n) : Int) == 0) = (bst w n (2 ^ n + 1) (2 ^ n) == 0) from natb _ 0]
    | succ d ih =>
      intro m F v0 v1 hd hF
      obtain ⟨G, rfl⟩ : ∃ G, F = G + 1 := ⟨F - 1, by omega⟩
      simp only [zj180, zj179, zb179]
      rw [decide_eq_true (by omega : (m : Int) < ((2 ^ n : Nat) : Int)), cond_true]
      obtain ⟨H, rfl⟩ : ∃ H, N = H + 1 + 1 + 1 := ⟨N - 3, by omega⟩
      obtain ⟨u0, u1, e1⟩ := one (H + 1 + 1) 0 m v0 v1 ((2 ^ n : Nat) : Int) (m : Int) (bst w n (2 ^ n + 1) m) (fun e9_0 e9_1 e9_2 e9_3 e9_4 e9_5 e9_6 => zj180 (H + 1 + 1 + 1) G e9_0 e9_1 e9_2 e9_3 (w64 (e9_4 + 1)) e9_5 e9_6 fun e0 e1 e2 => K (e2 == 0)) (by omega) (by omega)
      obtain ⟨y0, y1, e2⟩ := one (H + 1) 1 m u0 u1 ((2 ^ n : Nat) : Int) (m : Int) (min (bst w n (2 ^ n + 1) m) (far_ w n m 0)) (fun e9_0 e9_1 e9_2 e9_3 e9_4 e9_5 e9_6 => zj180 (H + 1 + 1 + 1) G e9_0 e9_1 e9_2 e9_3 (w64 (e9_4 + 1)) e9_5 e9_6 fun e0 e1 e2 => K (e2 == 0)) (by omega) (by omega)
      refine e1.trans (e2.trans ?_)
      refine Eq.trans ?_ (ih (m + 1) G y0 y1 (by omega) (by omega))
      show zj177 _ _ _ _ _ _ _ _ _ _ _ _ = _
      unfold zj177 zb177
      rw [decide_eq_false (by omega : ¬ ((1 + 1 : Nat) : Int) < 2), cond_false]
      dsimp only
      rw [w64_succ m (by omega)]
      rfl
  exact key (2 ^ n) 0 N 0 0 (by omega) (by omega)
theorem sq_all : ∀ i : Nat, i < 65 → ∀ j : Nat, j < 65 → (w64 (((i : Int) - 32) * ((i : Int) - 32)) != w64 (((j : Int) - 32) * ((j : Int) - 32))) = (mxI ((i : Int) - 32) (w64 (0 - ((i : Int) - 32))) != mxI ((j : Int) - 32) (w64 (0 - ((j : Int) - 32)))) := by decide +kernel
theorem sq_eq (a b : Int) (ha : -32 ≤ a ∧ a ≤ 32) (hb : -32 ≤ b ∧ b ≤ 32) : (w64 (a * a) != w64 (b * b)) = (mxI a (w64 (0 - a)) != mxI b (w64 (0 - b))) := by
  have h := sq_all (a + 32).toNat (by omega) (b + 32).toNat (by omega)
  rw [show (((a + 32).toNat : Nat) : Int) - 32 = a by omega, show (((b + 32).toNat : Nat) : Int) - 32 = b by omega] at h
  exact h
def spv (w n u : Nat) : Int := sumTo (tm w u) (2 ^ n)
theorem spv_range (w n u : Nat) (hn : n ≤ 5) : -32 ≤ spv w n u ∧ spv w n u ≤ 32 := by
  have hs := size_le hn
  have := sumTo_le (tm w u) (tm_range w u) (2 ^ n)
  unfold spv
  omega
theorem sps_rd (w n i : Nat) (hi : i < 2 ^ n) : rd 0 (sps w n (2 ^ n)) (i : Int) = spv w n i := by
  rw [rd_nat 0 _ _ (by rw [sps_len]; exact hi)]
  simp [sps, spv]
def bent (w n : Nat) : Bool := allTo (fun i => !(mxI (spv w n i) (w64 (0 - spv w n i)) != mxI (spv w n 0) (w64 (0 - spv w n 0)))) (2 ^ n) && (n == 2 || n == 4)
theorem allTo_one (p : Nat → Bool) (h : p 0 = true) : ∀ m, allTo (fun i => p (i + 1)) m = allTo p (m + 1)
  | 0 => by show true = (true && p 0); rw [h]; rfl
  | m + 1 => by
    show (allTo (fun i => p (i + 1)) m && p (m + 1)) = (allTo p (m + 1) && p (m + 1))
    rw [allTo_one p h m]
theorem spec_IsBent_n (N : Nat) (hN : 64 < N) (n w : Nat) (hn : n ≤ 5) (hw : w < 2 ^ 2 ^ n) (K : Bool → Option β) : zj86 N (n : Int) (w : Int) K = K (bent w n) := by
  have hs := size_le hn
  have h1 : 1 ≤ 2 ^ n := Nat.one_le_two_pow
  unfold zj86 zb86 bent
  rw [spec_SpectrumOf_n N n w hN hn hw]
  have h0 : (fun i => !(mxI (spv w n i) (w64 (0 - spv w n i)) != mxI (spv w n 0) (w64 (0 - spv w n 0)))) 0 = true := by
    dsimp only
    rw [bne_self_eq_false]
    rfl
  have hal := allTo_one (fun i => !(mxI (spv w n i) (w64 (0 - spv w n i)) != mxI (spv w n 0) (w64 (0 - spv w n 0)))) h0 (2 ^ n - 1)
  rw [show 2 ^ n - 1 + 1 = 2 ^ n by omega] at hal
  rw [← hal]
  refine (loop_all (fun F j => zj85 N F ((j + 1 : Nat) : Int) (n : Int) (w : Int) (sps w n (2 ^ n)) (fun e => K e) fun e0 e1 => zj2 N e0 e1 fun r6 => cond r6 (cond (e0 == 2) (K true) (K (e0 == 4))) (K false)) (fun i => !(mxI (spv w n (i + 1)) (w64 (0 - spv w n (i + 1))) != mxI (spv w n 0) (w64 (0 - spv w n 0)))) (2 ^ n - 1) (K false) (K (n == 2 || n == 4)) (fun F j hj => ?_) (fun F => ?_) N (by omega)).trans (by cases allTo (fun i => !(mxI (spv w n (i + 1)) (w64 (0 - spv w n (i + 1))) != mxI (spv w n 0) (w64 (0 - spv w n 0)))) (2 ^ n - 1) <;> rfl)
  · have hr0 : rd 0 (sps w n (2 ^ n)) 0 = spv w n 0 := sps_rd w n 0 (by omega)
    simp only [zj85, zj84, zb84, sps_rd w n (j + 1) (by omega), hr0, sps_len]
    simp only [decide_eq_true (by omega : ((j + 1 : Nat) : Int) < ((2 ^ n : Nat) : Int)), decide_eq_true (by omega : (0 : Int) ≤ ((j + 1 : Nat) : Int)), decide_eq_true (by omega : (0 : Int) < ((2 ^ n : Nat) : Int)), gd_true (rfl : true = true), cond_true]
    rw [sq_eq _ _ (spv_range w n _ hn) (spv_range w n _ hn), w64_succ (j + 1) (by omega)]
    cases (mxI (spv w n (j + 1)) (w64 (0 - spv w n (j + 1))) != mxI (spv w n 0) (w64 (0 - spv w n 0))) <;> rfl
  · simp only [zj85, zj84, zb84, sps_len]
    rw [decide_eq_false (by omega : ¬ ((2 ^ n - 1 + 1 : Nat) : Int) < ((2 ^ n : Nat) : Int)), cond_false, spec_IsTable_eq, isTn hn hw, cond_true, show ((n : Int) == 2) = (n == 2) from natb n 2, show ((n : Int) == 4) = (n == 4) from natb n 4]
    cases (n == 2) <;> rfl
theorem any_int (N : Nat) (hN : 64 < N) (w n : Nat) (hn : n ≤ 5) (K : Bool → Option β) : (zj196 N (sps w n (2 ^ n)) (fun x0 k => zj192 N x0 (sps w n (2 ^ n)) k) fun r5 => K (!r5)) = K (allTo (fun i => !(mxI (spv w n i) (w64 (0 - spv w n i)) != mxI (spv w n 0) (w64 (0 - spv w n 0)))) (2 ^ n)) := by
  have hs := size_le hn
  have h1 : 1 ≤ 2 ^ n := Nat.one_le_two_pow
  have hr0 : rd 0 (sps w n (2 ^ n)) 0 = spv w n 0 := sps_rd w n 0 (by omega)
  have hh : ∀ (x : Int) (k : Bool → Option β), (fun (x0 : Int) (k : Bool → Option β) => zj192 N x0 (sps w n (2 ^ n)) k) x k = k (mxI x (w64 (0 - x)) != mxI (spv w n 0) (w64 (0 - spv w n 0))) := fun x k => by
    simp only [zj192, zb192, zj191, zb191, hr0, sps_len]
    rw [gd_true (decide_eq_true (by omega))]
  generalize (fun (x0 : Int) (k : Bool → Option β) => zj192 N x0 (sps w n (2 ^ n)) k) = hf at hh
  unfold zj196 zb196 zj195 zb195
  rw [sps_len]
  have key : ∀ (d i F : Nat), i + d = 2 ^ n → d < F → allTo (fun i => !(mxI (spv w n i) (w64 (0 - spv w n i)) != mxI (spv w n 0) (w64 (0 - spv w n 0)))) i = true → zj194 N hf F (sps w n (2 ^ n)) ((2 ^ n : Nat) : Int) (i : Int) (fun e => K (!decide (e ≥ 0))) (K (!decide ((-1 : Int) ≥ 0))) = K (allTo (fun i => !(mxI (spv w n i) (w64 (0 - spv w n i)) != mxI (spv w n 0) (w64 (0 - spv w n 0)))) (2 ^ n)) := by
    intro d
    induction d with
    | zero =>
      intro i F hd hF ha
      obtain ⟨G, rfl⟩ : ∃ G, F = G + 1 := ⟨F - 1, by omega⟩
      have : i = 2 ^ n := by omega
      subst this
      simp only [zj194, zj193, zb193]
      rw [decide_eq_false (by omega : ¬ ((2 ^ n : Nat) : Int) < ((2 ^ n : Nat) : Int)), cond_false, ha]
      rfl
    | succ d ih =>
      intro i F hd hF ha
      obtain ⟨G, rfl⟩ : ∃ G, F = G + 1 := ⟨F - 1, by omega⟩
      simp only [zj194, zj193, zb193, sps_rd w n i (by omega), hh, sps_len]
      simp only [decide_eq_true (by omega : (i : Int) < ((2 ^ n : Nat) : Int)), decide_eq_true (by omega : (0 : Int) ≤ (i : Int)), gd_true (rfl : true = true), cond_true]
      rw [w64_succ i (by omega)]
      cases hc : (mxI (spv w n i) (w64 (0 - spv w n i)) != mxI (spv w n 0) (w64 (0 - spv w n 0))) with
      | true =>
        have hf : allTo (fun i => !(mxI (spv w n i) (w64 (0 - spv w n i)) != mxI (spv w n 0) (w64 (0 - spv w n 0)))) (2 ^ n) = false := by
          cases hu : allTo (fun i => !(mxI (spv w n i) (w64 (0 - spv w n i)) != mxI (spv w n 0) (w64 (0 - spv w n 0)))) (2 ^ n) with
          | false => rfl
          | true =>
            have := allTo_spec hu i (by omega)
            rw [hc] at this
            cases this
        rw [hf]
        rfl
      | false =>
        rw [cond_false]
        refine ih (i + 1) G (by omega) (by omega) ?_
        show (allTo _ i && !(mxI (spv w n i) (w64 (0 - spv w n i)) != mxI (spv w n 0) (w64 (0 - spv w n 0)))) = true
        rw [ha, hc]
        rfl
  exact key (2 ^ n) 0 N (by omega) (by omega) rfl
theorem impl_IsBent_n (N : Nat) (hN : 64 < N) (n w : Nat) (hn : n ≤ 5) (hw : w < 2 ^ 2 ^ n) (K : Bool → Option β) : zj197 N (n : Int) (w : Int) K = K (bent w n) := by
  have hw' := w_small hn hw
  unfold zj197 zb197 bent
  rw [impl_IsTable_eq N _ _ (by omega), isTn hn hw, Bool.not_true, cond_false, bne, bne, show ((n : Int) == 2) = (n == 2) from natb n 2, show ((n : Int) == 4) = (n == 4) from natb n 4]
  rw [impl_spectrum_n N n w hN hn hw, any_int N hN w n hn]
  cases (n == 2) <;> cases (n == 4) <;> simp
end Go.Proofs.YtemihnclhcobnaaGreatDoor
namespace Go.Proofs.YtemihnclhcobnaaGreatDoor
open Go.Rv
variable {β : Type}
def redf : Nat → Nat → Nat → Nat × Nat
  | 0, n, w => (n, w)
  | i + 1, n, w => cond (dep w n i) (redf i n w) (redf i (n - 1) (R w n i 0))
theorem redf_ok : ∀ (i n w : Nat), i ≤ n → n ≤ 5 → w < 2 ^ 2 ^ n → (redf i n w).1 ≤ 5 ∧ (redf i n w).2 < 2 ^ 2 ^ (redf i n w).1
  | 0, n, w, _, h, hw => ⟨h, hw⟩
  | i + 1, n, w, hi, hn, hw => by
    unfold redf
    cases dep w n i with
    | true => exact redf_ok i n w (by omega) hn hw
    | false => exact redf_ok i (n - 1) (R w n i 0) (by omega) (by omega) (tabw_lt _ _)
theorem red_both (N : Nat) (hN : 64 < N) (K : Int → Int → Int → Int → Option β) : ∀ (i F n w : Nat), i ≤ n → n ≤ 5 → w < 2 ^ 2 ^ n → i < F →
    zj118 N F ((i : Int) - 1) (n : Int) (w : Int) 0 0 K = K ((redf i n w).1 : Int) ((redf i n w).2 : Int) 0 0 ∧ zj9 N F ((i : Int) - 1) (n : Int) (w : Int) 0 0 K = K ((redf i n w).1 : Int) ((redf i n w).2 : Int) 0 0 := by
  intro i
  induction i with
  | zero =>
    intro F n w hi hn hw hF
    obtain ⟨G, rfl⟩ : ∃ G, F = G + 1 := ⟨F - 1, by omega⟩
    constructor <;> rfl
  | succ i ih =>
    intro F n w hi hn hw hF
    obtain ⟨G, rfl⟩ : ∃ G, F = G + 1 := ⟨F - 1, by omega⟩
    have hw' := w_small hn hw
    obtain ⟨e0, -, e1, -⟩ := restr2 (β := β) N hN n w i hn (by omega) hw'
    have hi1 : ((i + 1 : Nat) : Int) - 1 = (i : Int) := by omega
    have hi2 : w64 ((i : Int) - 1) = (i : Int) - 1 := w64_id (by omega) (by omega)
    rw [hi1]
    unfold redf
    constructor
    · simp only [zj118, zj117, zb117]
      rw [decide_eq_true (by omega : (i : Int) ≥ 0), cond_true, impl_deps_eq N hN n w i hn (by omega) hw', e0, hi2]
      cases dep w n i with
      | true => rw [Bool.not_true, cond_false, cond_true]; exact (ih G n w (by omega) hn hw (by omega)).1
      | false => rw [Bool.not_false, cond_true, cond_false]; exact (ih G (n - 1) (R w n i 0) (by omega) (by omega) (tabw_lt _ _) (by omega)).1
    · simp only [zj9, zj8, zb8]
      rw [decide_eq_true (by omega : (i : Int) ≥ 0), cond_true, spec_l3Depends_eq N hN n w i hn (by omega) hw', e1, hi2]
      cases dep w n i with
      | true => rw [Bool.not_true, cond_false, cond_true]; exact (ih G n w (by omega) hn hw (by omega)).2
      | false => rw [Bool.not_false, cond_true, cond_false]; exact (ih G (n - 1) (R w n i 0) (by omega) (by omega) (tabw_lt _ _) (by omega)).2
theorem Reduce_n (N : Nat) (hN : 64 < N) (n w : Nat) (hn : n ≤ 5) (hw : w < 2 ^ 2 ^ n) : (∀ K : Int → Int → Bool → Option β, zj119 N (n : Int) (w : Int) K = K ((redf n n w).1 : Int) ((redf n n w).2 : Int) true) ∧ (∀ K : Int → Int → Bool → Option β, zj10 N (n : Int) (w : Int) K = K ((redf n n w).1 : Int) ((redf n n w).2 : Int) true) := by
  have hw' := w_small hn hw
  have h1 : w64 ((n : Int) - 1) = (n : Int) - 1 := w64_id (by omega) (by omega)
  constructor
  · intro K
    unfold zj119 zb119
    rw [impl_IsTable_eq N _ _ (by omega), isTn hn hw, Bool.not_true, cond_false, h1]
    exact (red_both N hN (fun e0 e1 e2 e3 => K e0 e1 true) n N n w (Nat.le_refl _) hn hw (by omega)).1
  · intro K
    unfold zj10 zb10
    rw [spec_IsTable_eq, isTn hn hw, Bool.not_true, cond_false, h1]
    exact (red_both N hN (fun e0 e1 e2 e3 => K e0 e1 true) n N n w (Nat.le_refl _) hn hw (by omega)).2
theorem impl_VarsT_n (N : Nat) (hN : 64 < N) (n w : Nat) (hn : n ≤ 5) (hw : w < 2 ^ 2 ^ n) (k : List Int → Option β) : zj127 N (n : Int) (w : Int) k = k (vars w n n) := by
  have hw' := w_small hn hw
  unfold zj127 zb127
  rw [impl_IsTable_eq N _ _ (by omega), isTn hn hw, Bool.not_true, cond_false]
  have key : ∀ (F i : Nat), n - i < F → i ≤ n → zj126 N F (n : Int) (i : Int) (n : Int) (w : Int) (vars w n i) k = k (vars w n n) := by
    intro F
    induction F with
    | zero => intro i hF; omega
    | succ F ih =>
      intro i hF hi
      simp only [zj126, zj125, zb125]
      by_cases hlt : i < n
      · rw [decide_eq_true (by omega : (i : Int) < (n : Int))]
        simp only [cond_true, impl_deps_eq N hN n w i hn hlt hw']
        have h1 := ih (i + 1) (by omega) (by omega)
        rw [vars_succ] at h1
        have hl := vars_len w n i
        rw [w64_succ i (by omega), gd_true (decide_eq_true (by simp; omega))]
        cases hd : dep w n i with
        | true => rw [hd, if_pos rfl] at h1; exact h1
        | false => rw [hd, if_neg (by decide)] at h1; exact h1
      · rw [decide_eq_false (by omega : ¬ (i : Int) < (n : Int)), cond_false, show i = n by omega]
  exact key N 0 (by omega) (Nat.zero_le _)
theorem vars_in (w n m : Nat) (hm : m ≤ 5) : ∀ x ∈ vars w n m, in64 x := by
  intro x hx
  unfold vars at hx
  obtain ⟨i, hi, rfl⟩ := List.mem_map.1 hx
  have := List.mem_range.1 (List.mem_filter.1 hi).1
  show -9223372036854775808 ≤ (i : Int) ∧ (i : Int) ≤ 9223372036854775807
  omega
def thrB (w n : Nat) : Bool := cond (decide (n ≤ 4)) (bst_ w n (7 ^ n)).2.2 false
theorem spec_thr (N : Nat) (hN : 1048576 < N) (n w : Nat) (hn : n ≤ 4) (hw : w < 2 ^ 2 ^ n) (K : Bool → Option β) : zj100 N (n : Int) (w : Int) K = K (thrB w n) := by
  unfold zj100 zb100 thrB
  rw [spec_WeightsFor_n N hN n w hn hw, decide_eq_true hn]
  rfl
theorem smallT_n {n w : Nat} (hn : n ≤ 5) (hw : w < 2 ^ 2 ^ n) : smallT (n : Int) (w : Int) 4 = decide (n ≤ 4) := by
  unfold smallT
  rw [isTn hn hw, Bool.true_and, decide_eq_decide]
  omega
theorem impl_thr (N : Nat) (hN : 1048576 < N) (n w : Nat) (hn : n ≤ 5) (hw : w < 2 ^ 2 ^ n) (K : Bool → Option β) : zj212 N (n : Int) (w : Int) K = K (thrB w n) := by
  have hw' := w_small hn hw
  unfold zj212 zb212 thrB
  by_cases h4 : n ≤ 4
  · rw [impl_WeightsFor_n N hN n w h4 hw, decide_eq_true h4]
    rfl
  · unfold zj211 zb211
    rw [impl_isSmall_eq N _ _ 4 (by omega), smallT_n hn hw, decide_eq_false h4]
    rfl
theorem spec_Mono_n (N : Nat) (hN : 64 < N) (n w : Nat) (hn : n ≤ 5) (hw : w < 2 ^ 2 ^ n) (K : Bool → Option β) : zj55 N (n : Int) (w : Int) K = K (allTo (mono w n) n) := by
  unfold zj55 zb55
  rw [spec_IsTable_eq, isTn hn hw, cond_true, spec_mono N n w hN hn hw]
theorem impl_Mono_n (N : Nat) (hN : 64 < N) (n w : Nat) (hn : n ≤ 5) (hw : w < 2 ^ 2 ^ n) (K : Bool → Option β) : zj163 N (n : Int) (w : Int) K = K (allTo (mono w n) n) := by
  have hw' := w_small hn hw
  unfold zj163 zb163
  rw [impl_IsTable_eq N _ _ (by omega), isTn hn hw, cond_true, impl_mono N n w hN hn hw]
theorem impl_Count_n (N : Nat) (n w : Nat) (hn : n ≤ 5) (hw : w < 2 ^ 2 ^ n) (K : Int → Option β) : zj123 N (n : Int) (w : Int) K = K (ones w : Int) := by
  have hw' := w_small hn hw
  unfold zj123 zb123
  rw [impl_IsTable_eq N _ _ (by omega), isTn hn hw, Bool.not_true, cond_false, impl_ones_eq N w hw']
def ss (c : List Int) : List UInt8 := c.map fun n => UInt8.ofNat n.toNat
theorem ss_B (c : List Int) : strOf c = B (ss c) := B_strOf c
theorem ss_len (c : List Int) : (ss c).length = c.length := List.length_map ..
theorem putJ (N : Nat) (b : Bool) (c : List Int) (L : List (List UInt8)) (hL : L.length ≤ 1000) (k : List ByteArray → Option β) : zj214 N b (strOf c) (L.map B) k k = k ((L ++ cond b [ss c] []).map B) := by
  unfold zj214 zb214 zj213 zb213
  cases b with
  | false => rw [cond_false, cond_false, List.append_nil]
  | true =>
    rw [cond_true, cond_true, gd_true (decide_eq_true (by rw [List.length_map, List.length_append]; simp; omega)), List.map_append, ss_B]
    rfl
theorem yesS (N : Nat) (b : Bool) (c : List Int) (k : ByteArray → Option β) : zj56 N b (strOf c) k = k (B (cond b (ss c) [])) := by
  unfold zj56 zb56
  cases b with
  | false => rfl
  | true => rw [cond_true, cond_true, ss_B]
theorem joinB_T (l : List (List UInt8)) (s : List UInt8) : joinB (l.map B) (B s) = B (Lib.join l s) := by
  unfold joinB B
  rw [List.map_map]
  have : ((fun x : ByteArray => x.data.toList) ∘ fun l : List UInt8 => (⟨l.toArray⟩ : ByteArray)) = id := by
    funext l
    simp
  rw [this]
  simp
theorem join_add (L : List (List UInt8)) (hL : L ≠ []) (b : Bool) (w : List UInt8) : Lib.join (L ++ cond b [w] []) [32] = Lib.join L [32] ++ cond b (32 :: w) [] := by
  cases b with
  | false => rw [cond_false, cond_false, List.append_nil, List.append_nil]
  | true =>
    cases L with
    | nil => exact absurd rfl hL
    | cons x r =>
      rw [cond_true, cond_true, List.cons_append, Lib.join_cons, Lib.join_cons]
      simp [Lib.joinTail]
def addW (L : List (List UInt8)) : List (Bool × List Int) → List (List UInt8)
  | [] => L
  | p :: r => addW (L ++ cond p.1 [ss p.2] []) r
def addS (s : List UInt8) : List (Bool × List Int) → List UInt8
  | [] => s
  | p :: r => addS (s ++ cond p.1 (ss (32 :: p.2)) []) r
theorem add_eq : ∀ (r : List (Bool × List Int)) (L : List (List UInt8)), L ≠ [] → Lib.join (addW L r) [32] = addS (Lib.join L [32]) r
  | [], _, _ => rfl
  | p :: r, L, hL => by
    unfold addW addS
    rw [add_eq r _ (by intro e; rw [List.append_eq_nil_iff] at e; exact hL e.1), join_add L hL]
    rfl
def flags (w n : Nat) : List (Bool × List Int) := [(allTo (mono w n) n, [109, 111, 110, 111, 116, 111, 110, 101]), (una w n, [117, 110, 97, 116, 101]), (sym w n, [115, 121, 109, 109, 101, 116, 114, 105, 99]), ((bst w n 100 (2 ^ n) == 0), [97, 102, 102, 105, 110, 101]), (sdu w n, [115, 101, 108, 102, 100, 117, 97, 108]), (bent w n, [98, 101, 110, 116]), (thrB w n, [116, 104, 114, 101, 115, 104, 111, 108, 100])]
section
variable (N : Nat) (hN : 1048576 < N) (n w : Nat) (hn : n ≤ 5) (hw : w < 2 ^ 2 ^ n) (K : ByteArray → Option β)
def F8 (r : List ByteArray) : Option β := zj215 N r fun a _ => K a
def F7 (r : List ByteArray) : Option β := zj212 N (n : Int) (w : Int) fun b => zj214 N b (strOf [116, 104, 114, 101, 115, 104, 111, 108, 100]) r (fun r => F8 N K r) (fun r => F8 N K r)
def F6 (r : List ByteArray) : Option β := zj197 N (n : Int) (w : Int) fun b => zj214 N b (strOf [98, 101, 110, 116]) r (fun r => F7 N n w K r) (fun r => F7 N n w K r)
def F5 (r : List ByteArray) : Option β := zj184 N (n : Int) (w : Int) fun b => zj214 N b (strOf [115, 101, 108, 102, 100, 117, 97, 108]) r (fun r => F6 N n w K r) (fun r => F6 N n w K r)
def F4 (r : List ByteArray) : Option β := zj182 N (n : Int) (w : Int) fun b => zj214 N b (strOf [97, 102, 102, 105, 110, 101]) r (fun r => F5 N n w K r) (fun r => F5 N n w K r)
def F3 (r : List ByteArray) : Option β := zj175 N (n : Int) (w : Int) fun b => zj214 N b (strOf [115, 121, 109, 109, 101, 116, 114, 105, 99]) r (fun r => F4 N n w K r) (fun r => F4 N n w K r)
def F2 (r : List ByteArray) : Option β := zj169 N (n : Int) (w : Int) fun b => zj214 N b (strOf [117, 110, 97, 116, 101]) r (fun r => F3 N n w K r) (fun r => F3 N n w K r)
def F1 (r : List ByteArray) : Option β := zj163 N (n : Int) (w : Int) fun b => zj214 N b (strOf [109, 111, 110, 111, 116, 111, 110, 101]) r (fun r => F2 N n w K r) (fun r => F2 N n w K r)
omit hN hn hw in
theorem F8_n (L : List (List UInt8)) (hL : L.length ≤ 1000) (h : (Lib.join L [32]).length ≤ 100000) : F8 N K (L.map B) = K (B (Lib.join L [32])) := by
  unfold F8 zj215 zb215 strings_Join
  rw [ss_B, show ss [32] = [32] from rfl, joinB_T, gd_true (decide_eq_true (by rw [List.length_map]; omega)), gd_true (decide_eq_true (by rw [B_size]; omega))]
include hN hn hw
theorem F1_n (L : List (List UInt8)) (hL : L.length ≤ 900) (h0 : L ≠ []) (h : (Lib.join L [32]).length ≤ 90000) : F1 N n w K (L.map B) = K (B (addS (Lib.join L [32]) (flags w n))) := by
  rw [← add_eq _ L h0]
  have one : ∀ (b : Bool) (c : List Int), c.length ≤ 20 → ∀ L : List (List UInt8), L ≠ [] → (L ++ cond b [ss c] []) ≠ [] ∧ (L ++ cond b [ss c] []).length ≤ L.length + 1 ∧ (Lib.join (L ++ cond b [ss c] []) [32]).length ≤ (Lib.join L [32]).length + 21 := by
    intro b c hc L h0
    refine ⟨?_, ?_, ?_⟩
    · intro e; rw [List.append_eq_nil_iff] at e; exact h0 e.1
    · rw [List.length_append]; cases b <;> simp
    · rw [join_add L h0, List.length_append]
      have := ss_len c
      cases b <;> simp <;> omega
  unfold flags
  obtain ⟨a1, b1, c1⟩ := one (allTo (mono w n) n) [109, 111, 110, 111, 116, 111, 110, 101] (by decide) L h0
  obtain ⟨a2, b2, c2⟩ := one (una w n) [117, 110, 97, 116, 101] (by decide) (L ++ cond (allTo (mono w n) n) [ss [109, 111, 110, 111, 116, 111, 110, 101]] []) a1
  obtain ⟨a3, b3, c3⟩ := one (sym w n) [115, 121, 109, 109, 101, 116, 114, 105, 99] (by decide) ((L ++ cond (allTo (mono w n) n) [ss [109, 111, 110, 111, 116, 111, 110, 101]] []) ++ cond (una w n) [ss [117, 110, 97, 116, 101]] []) a2
  obtain ⟨a4, b4, c4⟩ := one ((bst w n 100 (2 ^ n) == 0)) [97, 102, 102, 105, 110, 101] (by decide) (((L ++ cond (allTo (mono w n) n) [ss [109, 111, 110, 111, 116, 111, 110, 101]] []) ++ cond (una w n) [ss [117, 110, 97, 116, 101]] []) ++ cond (sym w n) [ss [115, 121, 109, 109, 101, 116, 114, 105, 99]] []) a3
  obtain ⟨a5, b5, c5⟩ := one (sdu w n) [115, 101, 108, 102, 100, 117, 97, 108] (by decide) ((((L ++ cond (allTo (mono w n) n) [ss [109, 111, 110, 111, 116, 111, 110, 101]] []) ++ cond (una w n) [ss [117, 110, 97, 116, 101]] []) ++ cond (sym w n) [ss [115, 121, 109, 109, 101, 116, 114, 105, 99]] []) ++ cond ((bst w n 100 (2 ^ n) == 0)) [ss [97, 102, 102, 105, 110, 101]] []) a4
  obtain ⟨a6, b6, c6⟩ := one (bent w n) [98, 101, 110, 116] (by decide) (((((L ++ cond (allTo (mono w n) n) [ss [109, 111, 110, 111, 116, 111, 110, 101]] []) ++ cond (una w n) [ss [117, 110, 97, 116, 101]] []) ++ cond (sym w n) [ss [115, 121, 109, 109, 101, 116, 114, 105, 99]] []) ++ cond ((bst w n 100 (2 ^ n) == 0)) [ss [97, 102, 102, 105, 110, 101]] []) ++ cond (sdu w n) [ss [115, 101, 108, 102, 100, 117, 97, 108]] []) a5
  obtain ⟨a7, b7, c7⟩ := one (thrB w n) [116, 104, 114, 101, 115, 104, 111, 108, 100] (by decide) ((((((L ++ cond (allTo (mono w n) n) [ss [109, 111, 110, 111, 116, 111, 110, 101]] []) ++ cond (una w n) [ss [117, 110, 97, 116, 101]] []) ++ cond (sym w n) [ss [115, 121, 109, 109, 101, 116, 114, 105, 99]] []) ++ cond ((bst w n 100 (2 ^ n) == 0)) [ss [97, 102, 102, 105, 110, 101]] []) ++ cond (sdu w n) [ss [115, 101, 108, 102, 100, 117, 97, 108]] []) ++ cond (bent w n) [ss [98, 101, 110, 116]] []) a6
  show F1 N n w K (L.map B) = K (B (Lib.join (addW L [(allTo (mono w n) n, [109, 111, 110, 111, 116, 111, 110, 101]), (una w n, [117, 110, 97, 116, 101]), (sym w n, [115, 121, 109, 109, 101, 116, 114, 105, 99]), ((bst w n 100 (2 ^ n) == 0), [97, 102, 102, 105, 110, 101]), (sdu w n, [115, 101, 108, 102, 100, 117, 97, 108]), (bent w n, [98, 101, 110, 116]), (thrB w n, [116, 104, 114, 101, 115, 104, 111, 108, 100])]) [32]))
  unfold addW addW addW addW addW addW addW addW
  unfold F1
  rw [impl_Mono_n N (by omega) n w hn hw, putJ N _ _ _ (by omega)]
  unfold F2
  rw [impl_IsUnate_n N (by omega) n w hn hw, putJ N _ _ _ (by omega)]
  unfold F3
  rw [impl_IsSymmetric_n N (by omega) n w hn hw, putJ N _ _ _ (by omega)]
  unfold F4
  rw [impl_IsAffine_n N (by omega) n w hn hw, putJ N _ _ _ (by omega)]
  unfold F5
  rw [impl_IsSelfDual_n N (by omega) n w hn hw, putJ N _ _ _ (by omega)]
  unfold F6
  rw [impl_IsBent_n N (by omega) n w hn hw, putJ N _ _ _ (by omega)]
  unfold F7
  rw [impl_thr N hN n w hn hw, putJ N _ _ _ (by omega)]
  exact F8_n N K _ (by omega) (by omega)
omit hN hn hw
def H7 (S : ByteArray) : Option β := cond (decide ((n : Int) ≤ 4)) (zj100 N (n : Int) (w : Int) fun b => zj56 N b (strOf [32, 116, 104, 114, 101, 115, 104, 111, 108, 100]) fun s => gd (decide (S.size + s.size ≤ 9223372036854775807)) (K (S ++ s))) (zj56 N false (strOf [32, 116, 104, 114, 101, 115, 104, 111, 108, 100]) fun s => gd (decide (S.size + s.size ≤ 9223372036854775807)) (K (S ++ s)))
def H6 (S : ByteArray) : Option β := zj86 N (n : Int) (w : Int) fun b => zj56 N b (strOf [32, 98, 101, 110, 116]) fun s => gd (decide (S.size + s.size ≤ 9223372036854775807)) (H7 N n w K (S ++ s))
def H5 (S : ByteArray) : Option β := zj77 N (n : Int) (w : Int) fun b => zj56 N b (strOf [32, 115, 101, 108, 102, 100, 117, 97, 108]) fun s => gd (decide (S.size + s.size ≤ 9223372036854775807)) (H6 N n w K (S ++ s))
def H4 (S : ByteArray) : Option β := zj75 N (n : Int) (w : Int) fun b => zj56 N b (strOf [32, 97, 102, 102, 105, 110, 101]) fun s => gd (decide (S.size + s.size ≤ 9223372036854775807)) (H5 N n w K (S ++ s))
def H3 (S : ByteArray) : Option β := zj66 N (n : Int) (w : Int) fun b => zj56 N b (strOf [32, 115, 121, 109, 109, 101, 116, 114, 105, 99]) fun s => gd (decide (S.size + s.size ≤ 9223372036854775807)) (H4 N n w K (S ++ s))
def H2 (S : ByteArray) : Option β := zj60 N (n : Int) (w : Int) fun b => zj56 N b (strOf [32, 117, 110, 97, 116, 101]) fun s => gd (decide (S.size + s.size ≤ 9223372036854775807)) (H3 N n w K (S ++ s))
def H1 (S : ByteArray) : Option β := zj55 N (n : Int) (w : Int) fun b => zj56 N b (strOf [32, 109, 111, 110, 111, 116, 111, 110, 101]) fun s => gd (decide (S.size + s.size ≤ 9223372036854775807)) (H2 N n w K (S ++ s))
include hN hn hw
theorem H1_n (s : List UInt8) (hs : s.length ≤ 90000) : H1 N n w K (B s) = K (B (addS s (flags w n))) := by
  have one : ∀ (b : Bool) (c : List Int), c.length ≤ 20 → ∀ s : List UInt8, (s ++ cond b (ss c) []).length ≤ s.length + 20 := by
    intro b c hc s
    rw [List.length_append]
    have := ss_len c
    cases b <;> simp <;> omega
  have a1 := one (allTo (mono w n) n) [32, 109, 111, 110, 111, 116, 111, 110, 101] (by decide) s
  have a2 := one (una w n) [32, 117, 110, 97, 116, 101] (by decide) (s ++ cond (allTo (mono w n) n) (ss [32, 109, 111, 110, 111, 116, 111, 110, 101]) [])
  have a3 := one (sym w n) [32, 115, 121, 109, 109, 101, 116, 114, 105, 99] (by decide) ((s ++ cond (allTo (mono w n) n) (ss [32, 109, 111, 110, 111, 116, 111, 110, 101]) []) ++ cond (una w n) (ss [32, 117, 110, 97, 116, 101]) [])
  have a4 := one ((bst w n 100 (2 ^ n) == 0)) [32, 97, 102, 102, 105, 110, 101] (by decide) (((s ++ cond (allTo (mono w n) n) (ss [32, 109, 111, 110, 111, 116, 111, 110, 101]) []) ++ cond (una w n) (ss [32, 117, 110, 97, 116, 101]) []) ++ cond (sym w n) (ss [32, 115, 121, 109, 109, 101, 116, 114, 105, 99]) [])
  have a5 := one (sdu w n) [32, 115, 101, 108, 102, 100, 117, 97, 108] (by decide) ((((s ++ cond (allTo (mono w n) n) (ss [32, 109, 111, 110, 111, 116, 111, 110, 101]) []) ++ cond (una w n) (ss [32, 117, 110, 97, 116, 101]) []) ++ cond (sym w n) (ss [32, 115, 121, 109, 109, 101, 116, 114, 105, 99]) []) ++ cond ((bst w n 100 (2 ^ n) == 0)) (ss [32, 97, 102, 102, 105, 110, 101]) [])
  have a6 := one (bent w n) [32, 98, 101, 110, 116] (by decide) (((((s ++ cond (allTo (mono w n) n) (ss [32, 109, 111, 110, 111, 116, 111, 110, 101]) []) ++ cond (una w n) (ss [32, 117, 110, 97, 116, 101]) []) ++ cond (sym w n) (ss [32, 115, 121, 109, 109, 101, 116, 114, 105, 99]) []) ++ cond ((bst w n 100 (2 ^ n) == 0)) (ss [32, 97, 102, 102, 105, 110, 101]) []) ++ cond (sdu w n) (ss [32, 115, 101, 108, 102, 100, 117, 97, 108]) [])
  have a7 := one (thrB w n) [32, 116, 104, 114, 101, 115, 104, 111, 108, 100] (by decide) ((((((s ++ cond (allTo (mono w n) n) (ss [32, 109, 111, 110, 111, 116, 111, 110, 101]) []) ++ cond (una w n) (ss [32, 117, 110, 97, 116, 101]) []) ++ cond (sym w n) (ss [32, 115, 121, 109, 109, 101, 116, 114, 105, 99]) []) ++ cond ((bst w n 100 (2 ^ n) == 0)) (ss [32, 97, 102, 102, 105, 110, 101]) []) ++ cond (sdu w n) (ss [32, 115, 101, 108, 102, 100, 117, 97, 108]) []) ++ cond (bent w n) (ss [32, 98, 101, 110, 116]) [])
  unfold flags
  show H1 N n w K (B s) = K (B ((((((((s ++ cond (allTo (mono w n) n) (ss [32, 109, 111, 110, 111, 116, 111, 110, 101]) []) ++ cond (una w n) (ss [32, 117, 110, 97, 116, 101]) []) ++ cond (sym w n) (ss [32, 115, 121, 109, 109, 101, 116, 114, 105, 99]) []) ++ cond ((bst w n 100 (2 ^ n) == 0)) (ss [32, 97, 102, 102, 105, 110, 101]) []) ++ cond (sdu w n) (ss [32, 115, 101, 108, 102, 100, 117, 97, 108]) []) ++ cond (bent w n) (ss [32, 98, 101, 110, 116]) []) ++ cond (thrB w n) (ss [32, 116, 104, 114, 101, 115, 104, 111, 108, 100]) [])))
  unfold H1
  rw [spec_Mono_n N (by omega) n w hn hw, yesS, gd_true (decide_eq_true (by rw [B_size, B_size, ← List.length_append]; omega)), B_app]
  unfold H2
  rw [spec_IsUnate_n N (by omega) n w hn hw, yesS, gd_true (decide_eq_true (by rw [B_size, B_size, ← List.length_append]; omega)), B_app]
  unfold H3
  rw [spec_IsSymmetric_n N (by omega) n w hn hw, yesS, gd_true (decide_eq_true (by rw [B_size, B_size, ← List.length_append]; omega)), B_app]
  unfold H4
  rw [spec_IsAffine_n N (by omega) n w hn hw, yesS, gd_true (decide_eq_true (by rw [B_size, B_size, ← List.length_append]; omega)), B_app]
  unfold H5
  rw [spec_IsSelfDual_n N (by omega) n w hn hw, yesS, gd_true (decide_eq_true (by rw [B_size, B_size, ← List.length_append]; omega)), B_app]
  unfold H6
  rw [spec_IsBent_n N (by omega) n w hn hw, yesS, gd_true (decide_eq_true (by rw [B_size, B_size, ← List.length_append]; omega)), B_app]
  unfold H7
  by_cases h4 : n ≤ 4
  · rw [decide_eq_true (by omega : (n : Int) ≤ 4), cond_true, spec_thr N hN n w h4 hw, yesS, gd_true (decide_eq_true (by rw [B_size, B_size, ← List.length_append]; omega)), B_app]
  · have ht : thrB w n = false := by unfold thrB; rw [decide_eq_false h4]; rfl
    rw [ht] at a7 ⊢
    rw [decide_eq_false (by omega : ¬ (n : Int) ≤ 4), cond_false, yesS, gd_true (decide_eq_true (by rw [B_size, B_size, ← List.length_append]; omega)), B_app]
end
end Go.Proofs.YtemihnclhcobnaaGreatDoor
namespace Go.Proofs.YtemihnclhcobnaaGreatDoor
open Go.Rv
set_option linter.unusedSimpArgs false
variable {β : Type}
theorem spec_Canonical_n (N : Nat) (hN : 1048576 < N) {n : Nat} (hn : n ≤ 4) (w : Nat) (hw : w < 2 ^ 2 ^ n) (K : Int → Int → Bool → Option β) : zj47 N (n : Int) (w : Int) K = K (n : Int) (mn w (imgs n w) : Int) true := by
  unfold zj47 zb47
  rw [spec_IsTable_eq, isTn (by omega) hw, Bool.not_true, cond_false, decide_eq_false (by omega : ¬ (n : Int) > 4), cond_false, spec_l4Least_n N hN hn w hw]
theorem gd2 (s t : List UInt8) (h : s.length + t.length ≤ 1000000) (X : Option β) : gd (decide ((B s).size + (B t).size ≤ 9223372036854775807)) X = X := gd_true (decide_eq_true (by rw [B_size, B_size]; omega))
def L0 (w n : Nat) : List (List UInt8) := [ss [116, 97, 98, 108, 101], tbits w (2 ^ n), ss [111, 110, 101, 115], Lib.itoa (ones w : Int), ss [118, 97, 114, 105, 97, 98, 108, 101, 115], textL (vars w n n), ss [114, 101, 100, 117, 99, 101, 100], tbits (redf n n w).2 (2 ^ (redf n n w).1)]
def L1 (w n : Nat) : List (List UInt8) := L0 w n ++ [ss [99, 97, 110, 111, 110, 105, 99, 97, 108], tbits (mn w (imgs n w)) (2 ^ n), ss [99, 108, 97, 115, 115], Lib.itoa ((ded (imgs n w)).length : Int)]
def s0 (w n : Nat) : List UInt8 := ss [116, 97, 98, 108, 101, 32] ++ tbits w (2 ^ n) ++ ss [32, 111, 110, 101, 115, 32] ++ Lib.itoa (ones w : Int) ++ ss [32, 118, 97, 114, 105, 97, 98, 108, 101, 115, 32] ++ textL (vars w n n) ++ ss [32, 114, 101, 100, 117, 99, 101, 100, 32] ++ tbits (redf n n w).2 (2 ^ (redf n n w).1)
def s1 (w n : Nat) : List UInt8 := s0 w n ++ ss [32, 99, 97, 110, 111, 110, 105, 99, 97, 108, 32] ++ tbits (mn w (imgs n w)) (2 ^ n) ++ ss [32, 99, 108, 97, 115, 115, 32] ++ Lib.itoa ((ded (imgs n w)).length : Int)
theorem s0_eq (w n : Nat) : Lib.join (L0 w n) [32] = s0 w n := by
  unfold L0 s0
  rw [show ss [116, 97, 98, 108, 101, 32] = ss [116, 97, 98, 108, 101] ++ [32] from rfl, show ss [32, 111, 110, 101, 115, 32] = [32] ++ (ss [111, 110, 101, 115] ++ [32]) from rfl, show ss [32, 118, 97, 114, 105, 97, 98, 108, 101, 115, 32] = [32] ++ (ss [118, 97, 114, 105, 97, 98, 108, 101, 115] ++ [32]) from rfl, show ss [32, 114, 101, 100, 117, 99, 101, 100, 32] = [32] ++ (ss [114, 101, 100, 117, 99, 101, 100] ++ [32]) from rfl, Lib.join_cons]
  simp [Lib.joinTail]
theorem s1_eq (w n : Nat) : Lib.join (L1 w n) [32] = s1 w n := by
  have h := s0_eq w n
  unfold L0 at h
  rw [Lib.join_cons] at h
  unfold L1 s1
  rw [← h, show ss [32, 99, 97, 110, 111, 110, 105, 99, 97, 108, 32] = [32] ++ (ss [99, 97, 110, 111, 110, 105, 99, 97, 108] ++ [32]) from rfl, show ss [32, 99, 108, 97, 115, 115, 32] = [32] ++ (ss [99, 108, 97, 115, 115] ++ [32]) from rfl]
  unfold L0
  rw [List.cons_append, Lib.join_cons]
  simp [Lib.joinTail]
def lineT (w n : Nat) : List UInt8 := addS (cond (decide (n ≤ 4)) (s1 w n) (s0 w n)) (flags w n)
theorem ded_le (n w : Nat) (hn : n ≤ 4) (hw : w < 2 ^ 2 ^ n) : (ded (imgs n w)).length ≤ 768 := by
  obtain ⟨o1, o2⟩ := orbit hn hw
  have h := alN_sm n hn
  rw [alN_eq n hn, ← o1] at h
  exact Nat.le_trans (Nat.le_mul_of_pos_right _ o2) h
theorem ones_in (w : Nat) : in64 (ones w : Int) := by
  have := ones_le w
  unfold in64
  omega
theorem s0_len (w n : Nat) (hn : n ≤ 5) (hw : w < 2 ^ 2 ^ n) : (s0 w n).length ≤ 400 := by
  have h1 := size_le hn
  have h2 := (redf_ok n n w (Nat.le_refl _) hn hw).1
  have h3 := size_le h2
  have h4 := (itoa_len _ (ones_in w)).1
  have h5 := textL_len _ (vars_in w n n hn)
  have h6 := vars_len w n n
  unfold s0
  simp only [List.length_append, tbits_len, ss_len, List.length_cons, List.length_nil]
  omega
theorem s1_len (w n : Nat) (hn : n ≤ 4) (hw : w < 2 ^ 2 ^ n) : (s1 w n).length ≤ 600 := by
  have h0 := s0_len w n (by omega) hw
  have h1 := size_le (by omega : n ≤ 5)
  have h2 := ded_le n w hn hw
  have h4 := (itoa_len ((ded (imgs n w)).length : Int) (by unfold in64; omega)).1
  unfold s1
  simp only [List.length_append, tbits_len, ss_len, List.length_cons, List.length_nil]
  omega
theorem impl_TableLine_n (N : Nat) (hN : 1048576 < N) (n w : Nat) (hn : n ≤ 5) (hw : w < 2 ^ 2 ^ n) (K : ByteArray → Option β) : zj216 N (n : Int) (w : Int) K = K (B (lineT w n)) := by
  have hw' := w_small hn hw
  have hr := redf_ok n n w (Nat.le_refl _) hn hw
  have hv := vars_len w n n
  unfold zj216 zb216 lineT
  rw [impl_IsTable_eq N _ _ (by omega), isTn hn hw, Bool.not_true, cond_false, (Reduce_n N (by omega) n w hn hw).1, impl_FormatTable_n N n w (by omega) hn hw, impl_Count_n N n w hn hw, impl_FormatInt_eq N _ (ones_in w), impl_VarsT_n N (by omega) n w hn hw, impl_listText_eq N hN _ (by omega) (vars_in w n n hn), impl_FormatTable_n N _ _ (by omega) hr.1 hr.2]
  unfold zj213 zb213
  rw [gd_true (decide_eq_true (by simp))]
  dsimp only
  rw [impl_isSmall_eq N _ _ 4 (by omega), smallT_n hn hw]
  by_cases h4 : n ≤ 4
  · have hd := ded_le n w h4 hw
    have hm : mn w (imgs n w) < 2 ^ 2 ^ n := Nat.lt_of_le_of_lt (mn_le w _) hw
    rw [decide_eq_true h4, cond_true, cond_true, impl_canonical_n N hN h4 w hw, impl_FormatTable_n N n _ (by omega) hn hm, impl_ClassSize_n N hN h4 w hw, impl_FormatInt_eq N _ (by unfold in64; omega), gd_true (decide_eq_true (by simp))]
    rw [← s1_eq]
    exact Eq.trans (show _ = F1 N n w K ((L1 w n).map B) from rfl) (F1_n N hN n w hn hw K (L1 w n) (by unfold L1 L0; simp) (by unfold L1 L0; simp) (by rw [s1_eq]; have := s1_len w n h4 hw; omega))
  · rw [decide_eq_false h4, cond_false, cond_false]
    rw [← s0_eq]
    exact Eq.trans (show _ = F1 N n w K ((L0 w n).map B) from rfl) (F1_n N hN n w hn hw K (L0 w n) (by unfold L0; simp) (by unfold L0; simp) (by rw [s0_eq]; have := s0_len w n hn hw; omega))
theorem spec_TableLine_n (N : Nat) (hN : 1048576 < N) (n w : Nat) (hn : n ≤ 5) (hw : w < 2 ^ 2 ^ n) (K : ByteArray → Option β) : zj101 N (n : Int) (w : Int) K = K (B (lineT w n)) := by
  have hw' := w_small hn hw
  have hr := redf_ok n n w (Nat.le_refl _) hn hw
  have hv := vars_len w n n
  have h1 := size_le hn
  have h3 := size_le hr.1
  have h4 := (itoa_len _ (ones_in w)).1
  have h5 := textL_len _ (vars_in w n n hn)
  have hl0 := s0_len w n hn hw
  unfold zj101 zb101 lineT
  have sz : ∀ s t : List UInt8, s.length ≤ 700 → t.length ≤ 300 → s.length + t.length ≤ 1000000 := fun s t h1 h2 => by omega
  rw [spec_IsTable_eq, isTn hn hw, Bool.not_true, cond_false, (Reduce_n N (by omega) n w hn hw).2, spec_FormatTable_n N n w (by omega) hn hw, ss_B [116, 97, 98, 108, 101, 32], gd2 _ _ (by simp only [List.length_append, tbits_len, ss_len, List.length_cons, List.length_nil]; omega), B_app, ss_B [32, 111, 110, 101, 115, 32], gd2 _ _ (by simp only [List.length_append, tbits_len, ss_len, List.length_cons, List.length_nil]; omega), B_app, spec_l2Count_eq N w (by omega) hw', spec_FormatInt_eq N (by omega) _ (ones_in w), gd2 _ _ (by simp only [List.length_append, tbits_len, ss_len, List.length_cons, List.length_nil]; omega), B_app, ss_B [32, 118, 97, 114, 105, 97, 98, 108, 101, 115, 32], gd2 _ _ (by simp only [List.length_append, tbits_len, ss_len, List.length_cons, List.length_nil]; omega), B_app, spec_VariablesOf_eq N (by omega) n w hn hw, spec_l34Numbers_eq N hN _ (by omega) (vars_in w n n hn), gd2 _ _ (by simp only [List.length_append, tbits_len, ss_len, List.length_cons, List.length_nil]; omega), B_app, ss_B [32, 114, 101, 100, 117, 99, 101, 100, 32], gd2 _ _ (by simp only [List.length_append, tbits_len, ss_len, List.length_cons, List.length_nil]; omega), B_app, spec_FormatTable_n N _ _ (by omega) hr.1 hr.2, gd2 _ _ (by simp only [List.length_append, tbits_len, ss_len, List.length_cons, List.length_nil]; omega), B_app]
  rw [show ss [116, 97, 98, 108, 101, 32] ++ tbits w (2 ^ n) ++ ss [32, 111, 110, 101, 115, 32] ++ Lib.itoa (ones w : Int) ++ ss [32, 118, 97, 114, 105, 97, 98, 108, 101, 115, 32] ++ textL (vars w n n) ++ ss [32, 114, 101, 100, 117, 99, 101, 100, 32] ++ tbits (redf n n w).2 (2 ^ (redf n n w).1) = s0 w n from rfl]
  by_cases h4 : n ≤ 4
  · have hd := ded_le n w h4 hw
    have hm : mn w (imgs n w) < 2 ^ 2 ^ n := Nat.lt_of_le_of_lt (mn_le w _) hw
    have hl1 := s1_len w n h4 hw
    have h6 := (itoa_len ((ded (imgs n w)).length : Int) (by unfold in64; omega)).1
    rw [decide_eq_true (by omega : (n : Int) ≤ 4), cond_true, decide_eq_true h4, cond_true, spec_Canonical_n N hN h4 w hw, ss_B [32, 99, 97, 110, 111, 110, 105, 99, 97, 108, 32], gd2 _ _ (by simp only [List.length_append, tbits_len, ss_len, List.length_cons, List.length_nil]; omega), B_app, spec_FormatTable_n N n _ (by omega) hn hm, gd2 _ _ (by simp only [List.length_append, tbits_len, ss_len, List.length_cons, List.length_nil]; omega), B_app, ss_B [32, 99, 108, 97, 115, 115, 32], gd2 _ _ (by simp only [List.length_append, tbits_len, ss_len, List.length_cons, List.length_nil]; omega), B_app, spec_ClassSize_n N hN h4 w hw, spec_FormatInt_eq N (by omega) _ (by unfold in64; omega), gd2 _ _ (by simp only [List.length_append, tbits_len, ss_len, List.length_cons, List.length_nil]; omega), B_app]
    have e := H1_n N hN n w hn hw K (s1 w n) (by omega)
    unfold H1 H2 H3 H4 H5 H6 H7 at e
    rw [decide_eq_true (by omega : (n : Int) ≤ 4)] at e
    exact e
  · rw [decide_eq_false (by omega : ¬ (n : Int) ≤ 4), cond_false, decide_eq_false h4, cond_false]
    have e := H1_n N hN n w hn hw K (s0 w n) (by omega)
    unfold H1 H2 H3 H4 H5 H6 H7 at e
    rw [decide_eq_false (by omega : ¬ (n : Int) ≤ 4)] at e
    exact e
theorem law_TableLine (N : Nat) (hN : 1048576 < N) (a0 a1 : Int) (_ : -9223372036854775808 ≤ a0 ∧ a0 ≤ 9223372036854775807) (h1 : -9223372036854775808 ≤ a1 ∧ a1 ≤ 9223372036854775807) (k : Bool → Option β) : laws_FnExactTableLine N a0 a1 k = k true := by
  unfold laws_FnExactTableLine BV_laws_FnExactTableLine zj0 zb0
  have fin : ∀ s : ByteArray, cond (!(s.toList == s.toList)) (k false) (k true) = k true := fun s => by rw [beq_self_eq_true]; rfl
  dsimp only
  cases hS : isT a0 a1 with
  | false =>
    have e1 : ∀ K : ByteArray → Option β, zj101 N a0 a1 K = K ByteArray.empty := fun K => by unfold zj101 zb101; rw [spec_IsTable_eq, hS]; rfl
    have e2 : ∀ K : ByteArray → Option β, zj216 N a0 a1 K = K ByteArray.empty := fun K => by unfold zj216 zb216; rw [impl_IsTable_eq N a0 a1 (by omega), hS]; rfl
    rw [e1, e2]
    exact fin _
  | true =>
    obtain ⟨n, w, rfl, rfl, hn, hw, -⟩ := isT_nat hS
    rw [spec_TableLine_n N hN n w hn hw, impl_TableLine_n N hN n w hn hw]
    exact fin _
end Go.Proofs.YtemihnclhcobnaaGreatDoor
