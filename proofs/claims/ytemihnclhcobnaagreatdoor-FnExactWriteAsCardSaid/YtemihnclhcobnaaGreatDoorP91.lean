/- Plain laws of the texts. -/
import Derived.Test.YtemihnclhcobnaaGreatDoorT0
import Derived.Test.YtemihnclhcobnaaGreatDoorRvNum
import Derived.Test.YtemihnclhcobnaaGreatDoorSizW
import Derived.Lib.Join
import Derived.Lib.IndexBytes
namespace Go.Proofs.YtemihnclhcobnaaGreatDoor
open Go.Rv

variable {β : Type}
end Go.Proofs.YtemihnclhcobnaaGreatDoor
namespace Go.Proofs.YtemihnclhcobnaaGreatDoor
open Go.Rv
variable {β : Type}

end Go.Proofs.YtemihnclhcobnaaGreatDoor
namespace Go.Proofs.YtemihnclhcobnaaGreatDoor
open Go.Rv
set_option linter.unusedVariables false
variable {β : Type}
def tabw (g : Nat → Bool) : Nat → Nat
  | 0 => 0
  | i + 1 => tabw g i ||| (if g i then 2 ^ i else 0)
theorem tabw_lt (g : Nat → Bool) : ∀ i, tabw g i < 2 ^ i
  | 0 => by simp [tabw]
  | i + 1 => by
    have := tabw_lt g i
    unfold tabw
    have h2 : 2 ^ (i + 1) = 2 ^ i + 2 ^ i := by rw [Nat.pow_succ]; omega
    refine Nat.or_lt_two_pow (by omega) ?_
    split
    · have := Nat.two_pow_pos i; omega
    · exact Nat.two_pow_pos _
theorem tabw_congr {g h : Nat → Bool} : ∀ {n : Nat}, (∀ i, i < n → g i = h i) → tabw g n = tabw h n
  | 0, _ => rfl
  | n + 1, e => by
    unfold tabw
    rw [tabw_congr (n := n) fun i hi => e i (by omega), e n (by omega)]

theorem pow_le_64 {n : Nat} (h : n ≤ 62) : 2 ^ n < 9223372036854775808 := Nat.lt_of_le_of_lt (Nat.pow_le_pow_right (by decide) h) (by decide)
theorem size_le {n : Nat} (h : n ≤ 5) : 2 ^ n ≤ 32 := Nat.le_trans (Nat.pow_le_pow_right (by decide) h) (by decide)

theorem shl_one (n : Nat) (h : n ≤ 62) : shlI .i64 1 (n : Int) = ((2 ^ n : Nat) : Int) := by
  have := shl_nat 1 n (by omega) (by rw [Nat.one_mul]; exact pow_le_64 h)
  rw [Nat.one_mul] at this
  exact this

theorem makeTable_loop (N : Nat) (h : Int → (Bool → Option β) → Option β) (g : Nat → Bool) (m : Nat) (hm : m ≤ 32) (hh : ∀ (x : Nat) k, x < m → h (x : Int) k = k (g x)) (k0 : Int → Int → Int → Int → Option β) (a b n : Int) :
    ∀ (F i : Nat), m - i < F → i ≤ m → zj14 N h F (m : Int) (i : Int) a b n (tabw g i : Int) k0 = k0 a b n (tabw g m : Int) := by
  intro F
  induction F with
  | zero => intro i hF; omega
  | succ F ih =>
    intro i hF hi
    simp only [zj14, zj13, zb13]
    by_cases hlt : i < m
    · rw [decide_eq_true (by omega : (i : Int) < (m : Int))]
      simp only [cond_true, hh i _ hlt]
      have h1 := ih (i + 1) (by omega) (by omega)
      rw [w64_succ i (by omega)]
      have hw : tabw g i < 2 ^ 63 := Nat.lt_of_lt_of_le (tabw_lt g i) (Nat.pow_le_pow_right (by decide) (by omega))
      cases hg : g i with
      | true =>
        have e : tabw g (i + 1) = tabw g i ||| 2 ^ i := by simp [tabw, hg]
        rw [e] at h1
        simp only [cond_true, gd_true (decide_eq_true (by omega : 0 ≤ (i : Int)))]
        rw [shl_one i (by omega), bOr _ _ hw (Nat.pow_lt_pow_right (by decide) (by omega))]
        exact h1
      | false =>
        have e : tabw g (i + 1) = tabw g i := by simp [tabw, hg]
        rw [e] at h1
        exact h1
    · have : i = m := by omega
      subst this
      rw [decide_eq_false (by omega : ¬ (i : Int) < (i : Int))]
      rfl

theorem makeTable_eq (N : Nat) (hN : 64 < N) (n : Nat) (hn : n ≤ 5) (h : Int → (Bool → Option β) → Option β) (g : Nat → Bool) (hh : ∀ (x : Nat) k, x < 2 ^ n → h (x : Int) k = k (g x)) (k : Int → Int → Option β) :
    zj15 N (n : Int) h k = k n (tabw g (2 ^ n) : Int) := by
  unfold zj15 zb15
  rw [gd_true (decide_eq_true (by omega)), shl_one n (by omega)]
  have := size_le hn
  exact makeTable_loop N h g (2 ^ n) this hh (fun _ _ e2 e3 => k e2 e3) 0 0 n N 0 (by omega) (Nat.zero_le _)

def ys (x i b : Nat) : Nat := x - (x &&& 2 ^ i) + b * 2 ^ i
theorem bit_at (w y : Nat) (hw : w < 9223372036854775808) : bits .and .i64 (shrI .i64 (w : Int) (y : Int)) 1 = ((if w.testBit y then 1 else 0 : Nat) : Int) := by
  rw [shr_nat w y hw]
  have h1 : w / 2 ^ y < 2 ^ 63 := Nat.lt_of_le_of_lt (Nat.div_le_self _ _) hw
  have := bAnd (w / 2 ^ y) 1 h1 (by decide)
  rw [show ((1 : Nat) : Int) = 1 from rfl] at this
  rw [this, Nat.and_one_is_mod]
  congr 1
  rw [Nat.testBit, Nat.shiftRight_eq_div_pow, Nat.and_comm, Nat.and_one_is_mod]
  have := Nat.mod_two_eq_zero_or_one (w / 2 ^ y)
  rcases this with h | h <;> simp [h]

def isT (a0 a1 : Int) : Bool := decide (0 ≤ a0) && decide (a0 ≤ 5) && decide (0 ≤ a1) && decide (a1 < 2 ^ 2 ^ a0.toNat)

theorem isT_nat {a0 a1 : Int} (h : isT a0 a1 = true) : ∃ n w : Nat, a0 = n ∧ a1 = w ∧ n ≤ 5 ∧ w < 2 ^ 2 ^ n ∧ w < 4294967296 := by
  simp only [isT, Bool.and_eq_true, decide_eq_true_eq] at h
  obtain ⟨⟨⟨h1, h2⟩, h3⟩, h4⟩ := h
  obtain ⟨n, rfl⟩ := Int.eq_ofNat_of_zero_le h1
  obtain ⟨w, rfl⟩ := Int.eq_ofNat_of_zero_le h3
  simp only [Int.toNat_natCast] at h4
  have h5 : w < 2 ^ 2 ^ n := by exact_mod_cast h4
  have h6 : 2 ^ 2 ^ n ≤ 2 ^ 32 := Nat.pow_le_pow_right (by decide) (size_le (by omega))
  exact ⟨n, w, rfl, rfl, by omega, h5, by omega⟩

theorem shl_u64 : ∀ n : Nat, n ≤ 5 → shlI .u64 1 (n : Int) = ((2 ^ n : Nat) : Int) := by decide +kernel

theorem spec_IsTable_eq (N : Nat) (a0 a1 : Int) (k : Bool → Option β) : zj26 N a0 a1 k = k (isT a0 a1) := by
  unfold zj26 zb26 zj25 zb25
  by_cases h0 : 0 ≤ a0
  · rw [decide_eq_true (by omega : a0 ≥ 0)]
    simp only [cond_true]
    by_cases h5 : a0 ≤ 5
    · rw [decide_eq_true h5]
      obtain ⟨n, rfl⟩ := Int.eq_ofNat_of_zero_le h0
      have hn : n ≤ 5 := by omega
      have hs := size_le hn
      have hp := pow_le_64 (n := 2 ^ n) (by omega)
      have hpos := Nat.two_pow_pos (2 ^ n)
      simp only [cond_true]
      rw [gd_true rfl, shl_u64 n hn, gd_true (decide_eq_true (Int.natCast_nonneg _)), shl_one (2 ^ n) (by omega), w64_id (by omega) (by omega)]
      have e : isT (n : Int) a1 = (decide (0 ≤ a1) && decide (a1 < ((2 ^ 2 ^ n : Nat) : Int))) := by
        simp only [isT, Int.toNat_natCast, decide_eq_true (by omega : 0 ≤ (n : Int)), decide_eq_true (by omega : (n : Int) ≤ 5), Bool.true_and]
        push_cast
        rfl
      rw [e]
      by_cases h1 : 0 ≤ a1
      · rw [decide_eq_true (by omega : a1 ≥ 0)]
        simp only [cond_true, Bool.true_and]
        congr 1
        exact decide_eq_decide.2 (by omega)
      · rw [decide_eq_false (by omega : ¬ a1 ≥ 0)]; rfl
    · rw [decide_eq_false h5]
      simp [isT, h5]
  · rw [decide_eq_false (by omega : ¬ a0 ≥ 0)]
    simp [isT, h0]

theorem impl_IsTable_eq (N : Nat) (a0 a1 : Int) (h : a1 < 9223372036854775808) (k : Bool → Option β) : zj97 N a0 a1 k = k (isT a0 a1) := by
  unfold zj97 zb97 zj96 zb96 zj1 zb1
  by_cases h0 : 0 ≤ a0
  · rw [decide_eq_true (by omega : a0 ≥ 0)]
    simp only [cond_true]
    by_cases h5 : a0 ≤ 5
    · rw [decide_eq_true h5]
      obtain ⟨n, rfl⟩ := Int.eq_ofNat_of_zero_le h0
      have hn : n ≤ 5 := by omega
      have hs := size_le hn
      have hpos := Nat.two_pow_pos (2 ^ n)
      simp only [cond_true]
      rw [gd_true rfl]
      have e : isT (n : Int) a1 = (decide (0 ≤ a1) && decide (a1 < ((2 ^ 2 ^ n : Nat) : Int))) := by
        simp only [isT, Int.toNat_natCast, decide_eq_true (by omega : 0 ≤ (n : Int)), decide_eq_true (by omega : (n : Int) ≤ 5), Bool.true_and]
        push_cast
        rfl
      rw [e]
      by_cases h1 : 0 ≤ a1
      · obtain ⟨w, rfl⟩ := Int.eq_ofNat_of_zero_le h1
        rw [decide_eq_true (by omega : (w : Int) ≥ 0), shl_one n (by omega)]
        simp only [cond_true, Bool.true_and]
        rw [gd_true (decide_eq_true (Int.natCast_nonneg _)), shr_nat w (2 ^ n) (by omega)]
        congr 1
        have : w / 2 ^ 2 ^ n = 0 ↔ w < 2 ^ 2 ^ n := by
          rw [Nat.div_eq_zero_iff]
          omega
        by_cases hw : w < 2 ^ 2 ^ n
        · rw [this.2 hw, decide_eq_true (by omega)]; rfl
        · rw [decide_eq_false (by omega)]
          have : ¬ w / 2 ^ 2 ^ n = 0 := fun h => hw (this.1 h)
          simp only [beq_eq_false_iff_ne, ne_eq]
          omega
      · rw [decide_eq_false (by omega : ¬ a1 ≥ 0)]; rfl
    · rw [decide_eq_false h5]
      simp [isT, h5]
  · rw [decide_eq_false (by omega : ¬ a0 ≥ 0)]
    simp [isT, h0]
end Go.Proofs.YtemihnclhcobnaaGreatDoor
namespace Go.Proofs.YtemihnclhcobnaaGreatDoor
open Go.Rv
set_option linter.unusedVariables false
variable {β : Type}
theorem tabw_bit (g : Nat → Bool) : ∀ (n x : Nat), (tabw g n).testBit x = (decide (x < n) && g x)
  | 0, x => by simp [tabw]
  | n + 1, x => by
    unfold tabw
    rw [Nat.testBit_or, tabw_bit g n x]
    by_cases hx : x = n
    · subst hx
      cases hg : g x <;> simp [Nat.testBit_two_pow_self]
    · have h1 : (if g n then 2 ^ n else 0 : Nat).testBit x = false := by
        split
        · exact Nat.testBit_two_pow_of_ne (Ne.symm hx)
        · exact Nat.zero_testBit _
      rw [h1, Bool.or_false]
      congr 1
      exact decide_eq_decide.2 (by omega)

theorem tabw_eq_iff (g h : Nat → Bool) (n : Nat) : tabw g n = tabw h n ↔ ∀ x, x < n → g x = h x := by
  refine ⟨fun e x hx => ?_, fun e => tabw_congr e⟩
  have := congrArg (fun t => t.testBit x) e
  simpa [tabw_bit, hx] using this

theorem tabw_self (w n : Nat) (h : w < 2 ^ n) : tabw w.testBit n = w := by
  apply Nat.eq_of_testBit_eq
  intro x
  rw [tabw_bit]
  by_cases hx : x < n
  · simp [hx]
  · have : w.testBit x = false := Nat.testBit_lt_two_pow (Nat.lt_of_lt_of_le h (Nat.pow_le_pow_right (by decide) (by omega)))
    simp [hx, this]

def ins (x i b : Nat) : Nat := (x / 2 ^ i) * 2 ^ (i + 1) ||| b * 2 ^ i ||| (x &&& (2 ^ i - 1))
def del (x i : Nat) : Nat := (x / 2 ^ (i + 1)) * 2 ^ i ||| (x &&& (2 ^ i - 1))
theorem del_ins : ∀ n, n ≤ 5 → ∀ i, i < n → ∀ x, x < 2 ^ n → del x i < 2 ^ (n - 1) ∧ ins (del x i) i (x / 2 ^ i % 2) = x ∧ ∀ b, b < 2 → ys x i b = ins (del x i) i b := by decide +kernel
theorem ins_lt1 : ∀ n, n ≤ 5 → ∀ i, i < n → ∀ x, x < 2 ^ (n - 1) → ins x i 0 < 2 ^ n ∧ ins x i 1 < 2 ^ n := by decide +kernel
theorem ins_ys : ∀ n, n ≤ 5 → ∀ i, i < n → ∀ x, x < 2 ^ (n - 1) → ys (ins x i 0) i 0 = ins x i 0 ∧ ys (ins x i 0) i 1 = ins x i 1 ∧ ys (ins x i 1) i 0 = ins x i 0 ∧ ys (ins x i 1) i 1 = ins x i 1 := by decide +kernel
theorem ins_lt (n : Nat) (hn : n ≤ 5) (i : Nat) (hi : i < n) (x : Nat) (hx : x < 2 ^ (n - 1)) (b : Nat) (hb : b < 2) : ins x i b < 2 ^ n ∧ ∀ c, c < 2 → ys (ins x i c) i b = ins x i b := by
  obtain ⟨h1, h2⟩ := ins_lt1 n hn i hi x hx
  obtain ⟨h3, h4, h5, h6⟩ := ins_ys n hn i hi x hx
  have hb' : b = 0 ∨ b = 1 := by omega
  rcases hb' with rfl | rfl
  · exact ⟨h1, fun c hc => by have hc' : c = 0 ∨ c = 1 := by omega
                              rcases hc' with rfl | rfl <;> assumption⟩
  · exact ⟨h2, fun c hc => by have hc' : c = 0 ∨ c = 1 := by omega
                              rcases hc' with rfl | rfl <;> assumption⟩

def dep (w n i : Nat) : Bool := tabw (fun x => w.testBit (ins x i 0)) (2 ^ (n - 1)) != tabw (fun x => w.testBit (ins x i 1)) (2 ^ (n - 1))

theorem stuck_same (w n i b : Nat) (hn : n ≤ 5) (hi : i < n) (hb : b < 2) (hw : w < 2 ^ 2 ^ n) : (tabw (fun x => w.testBit (ys x i b)) (2 ^ n) == w) = !dep w n i := by
  have key : tabw (fun x => w.testBit (ys x i b)) (2 ^ n) = w ↔ tabw (fun x => w.testBit (ins x i 0)) (2 ^ (n - 1)) = tabw (fun x => w.testBit (ins x i 1)) (2 ^ (n - 1)) := by
    conv => lhs; rhs; rw [← tabw_self w (2 ^ n) hw]
    rw [tabw_eq_iff, tabw_eq_iff]
    constructor
    · intro h x hx
      obtain ⟨a1, a2⟩ := ins_lt n hn i hi x hx 0 (by omega)
      obtain ⟨b1, b2⟩ := ins_lt n hn i hi x hx 1 (by omega)
      have e0 := h _ a1
      have e1 := h _ b1
      have c0 := (ins_lt n hn i hi x hx b hb).2 0 (by omega)
      have c1 := (ins_lt n hn i hi x hx b hb).2 1 (by omega)
      rw [c0] at e0
      rw [c1] at e1
      rw [← e0, ← e1]
    · intro h x hx
      obtain ⟨h1, h2, h3⟩ := del_ins n hn i hi x hx
      have e := h _ h1
      rw [h3 b hb]
      conv => rhs; rw [← h2]
      have hc : x / 2 ^ i % 2 = 0 ∨ x / 2 ^ i % 2 = 1 := by omega
      have hb' : b = 0 ∨ b = 1 := by omega
      rcases hc with hc | hc <;> rcases hb' with rfl | rfl <;> rw [hc] <;> simp only [e]
  unfold dep
  by_cases h : tabw (fun x => w.testBit (ys x i b)) (2 ^ n) = w
  · rw [beq_iff_eq.2 h]
    simp [key.1 h]
  · rw [beq_eq_false_iff_ne.2 h]
    rw [bne_iff_ne.2 fun e => h (key.2 e)]
    rfl

def vars (w n m : Nat) : List Int := ((List.range m).filter fun i => dep w n i).map Int.ofNat
end Go.Proofs.YtemihnclhcobnaaGreatDoor
namespace Go.Proofs.YtemihnclhcobnaaGreatDoor
open Go.Rv
set_option linter.unusedVariables false
variable {β : Type}
theorem detects (w n i b : Nat) (hn : n ≤ 5) (hi : i < n) (hb : b < 2) (hw : w < 2 ^ 2 ^ n) : (((w ^^^ tabw (fun x => w.testBit (ys x i b)) (2 ^ n) : Nat) : Int) != 0) = dep w n i := by
  have h := stuck_same w n i b hn hi hb hw
  cases hd : dep w n i with
  | true =>
    rw [hd] at h
    have h1 : ¬ tabw (fun x => w.testBit (ys x i b)) (2 ^ n) = w := by simpa using h
    rw [bne_iff_ne]
    intro e
    have : w ^^^ tabw (fun x => w.testBit (ys x i b)) (2 ^ n) = 0 := by exact_mod_cast e
    refine h1 (Nat.eq_of_testBit_eq fun j => ?_)
    have := congrArg (fun t => t.testBit j) this
    simp only [Nat.testBit_xor, Nat.zero_testBit] at this
    revert this
    cases w.testBit j <;> cases (tabw (fun x => w.testBit (ys x i b)) (2 ^ n)).testBit j <;> simp
  | false =>
    rw [hd] at h
    have h1 : tabw (fun x => w.testBit (ys x i b)) (2 ^ n) = w := by simpa using h
    rw [h1, Nat.xor_self]
    rfl
end Go.Proofs.YtemihnclhcobnaaGreatDoor
namespace Go.Proofs.YtemihnclhcobnaaGreatDoor
open Go.Rv
set_option linter.unusedVariables false
variable {β : Type}
end Go.Proofs.YtemihnclhcobnaaGreatDoor
namespace Go.Proofs.YtemihnclhcobnaaGreatDoor
open Go.Rv
set_option linter.unusedVariables false
variable {β : Type}
def sees (w n x i b : Nat) : Bool := (w ^^^ tabw (fun x => w.testBit (ys x i b)) (2 ^ n)).testBit x
def addIf (c : Bool) (l : List Int) (v : Int) : List Int := if c then l ++ [v] else l
def seen (w n x : Nat) : Nat → List Int
  | 0 => []
  | i + 1 => addIf (sees w n x i 1) (addIf (sees w n x i 0) (seen w n x i) ((2 * i : Nat) : Int)) ((2 * i + 1 : Nat) : Int)
end Go.Proofs.YtemihnclhcobnaaGreatDoor
namespace Go.Proofs.YtemihnclhcobnaaGreatDoor
open Go.Rv
set_option linter.unusedVariables false
variable {β : Type}
theorem spec_l1In_eq (N : Nat) (a b c : Int) (k : Bool → Option β) : zj25 N a b c k = k (decide (b ≤ a) && decide (a ≤ c)) := by
  unfold zj25 zb25
  by_cases h : b ≤ a
  · rw [decide_eq_true (by omega : a ≥ b)]; rfl
  · rw [decide_eq_false (by omega : ¬ a ≥ b)]; rfl
theorem two32 {n w : Nat} (hn : n ≤ 5) (hw : w < 2 ^ 2 ^ n) : w < 4294967296 := Nat.lt_of_lt_of_le hw (Nat.pow_le_pow_right (by decide) (size_le hn) : 2 ^ 2 ^ n ≤ 2 ^ 32)

def addAll (s : Nat) (l : List Int) : Nat := l.foldl (fun s x => s ||| 2 ^ x.toNat) s

end Go.Proofs.YtemihnclhcobnaaGreatDoor
namespace Go.Proofs.YtemihnclhcobnaaGreatDoor
open Go.Rv
set_option linter.unusedVariables false
variable {β : Type}
def pc : Nat → Nat → Nat
  | 0, _ => 0
  | f + 1, w => w % 2 + pc f (w / 2)
def ones (w : Nat) : Nat := pc 32 w
def q1 (c : Nat) : Nat := (c / 2 &&& 85) + (c &&& 85)
def q2 (c : Nat) : Nat := (c / 4 &&& 51) + (c &&& 51)
def q3 (c : Nat) : Nat := (c / 16 + c) &&& 15
def g1 (a : Int) : Int := wu64 (bits .and .u64 (shrI .u64 a 1) 6148914691236517205 + bits .and .u64 a 6148914691236517205)
def g2 (a : Int) : Int := wu64 (bits .and .u64 (shrI .u64 a 2) 3689348814741910323 + bits .and .u64 a 3689348814741910323)
def g3 (a : Int) : Int := bits .and .u64 (wu64 (shrI .u64 a 4 + a)) 1085102592571150095
def g4 (a : Int) : Int := wu64 (a + shrI .u64 a 8)
end Go.Proofs.YtemihnclhcobnaaGreatDoor
namespace Go.Proofs.YtemihnclhcobnaaGreatDoor
open Go.Rv
set_option linter.unusedVariables false
variable {β : Type}
def cnt (g : Nat → Bool) : Nat → Nat
  | 0 => 0
  | m + 1 => cnt g m + (if g m then 1 else 0)
theorem cnt_le (g : Nat → Bool) : ∀ m, cnt g m ≤ m
  | 0 => Nat.le_refl _
  | m + 1 => by have := cnt_le g m; simp only [cnt]; split <;> omega
def edge (w i x : Nat) : Bool := w.testBit x != w.testBit (x ^^^ 2 ^ i)
end Go.Proofs.YtemihnclhcobnaaGreatDoor
namespace Go.Proofs.YtemihnclhcobnaaGreatDoor
open Go.Rv
set_option linter.unusedVariables false
set_option maxRecDepth 100000
variable {β : Type}
def flips (w : Nat) (l : List Int) : Nat := l.foldl (fun w x => w ^^^ 2 ^ x.toNat) w
end Go.Proofs.YtemihnclhcobnaaGreatDoor
namespace Go.Proofs.YtemihnclhcobnaaGreatDoor
open Go.Rv
set_option linter.unusedVariables false
variable {β : Type}
theorem spec_l2Full_eq (N n : Nat) (hn : n ≤ 5) (k : Int → Option β) : zj82 N (n : Int) k = k ((2 ^ 2 ^ n - 1 : Nat) : Int) := by
  have hs := size_le hn
  have hp : 2 ^ 2 ^ n < 9223372036854775808 := pow_le_64 (by omega)
  have h1 := Nat.two_pow_pos (2 ^ n)
  unfold zj82 zb82
  rw [shl_u64 n hn, shl_one (2 ^ n) (by omega), decide_eq_true (by omega : (0 : Int) ≤ (n : Int)), decide_eq_true (Int.natCast_nonneg (2 ^ n)), gd_true rfl, gd_true rfl, w64_id (by omega) (by omega)]
  congr 1
  omega

def smallT (a0 a1 m : Int) : Bool := isT a0 a1 && decide (a0 ≤ m)
theorem impl_isSmall_eq (N : Nat) (a0 a1 m : Int) (h1 : a1 < 9223372036854775808) (k : Bool → Option β) : zj98 N a0 a1 m k = k (smallT a0 a1 m) := by
  unfold zj98 zb98 smallT
  rw [impl_IsTable_eq N a0 a1 h1]
  cases isT a0 a1 <;> rfl
end Go.Proofs.YtemihnclhcobnaaGreatDoor
namespace Go.Proofs.YtemihnclhcobnaaGreatDoor
open Go.Rv
set_option linter.unusedVariables false
variable {β : Type}
end Go.Proofs.YtemihnclhcobnaaGreatDoor
namespace Go.Proofs.YtemihnclhcobnaaGreatDoor
open Go.Rv
variable {β : Type}
def B (l : List UInt8) : ByteArray := ⟨l.toArray⟩
theorem B_data (s : ByteArray) : B s.data.toList = s := by cases s; simp [B]
theorem B_size (l : List UInt8) : (B l).size = l.length := by simp [B, ByteArray.size]
theorem B_inj {a b : ByteArray} (h : a.data.toList = b.data.toList) : a = b := by rw [← B_data a, ← B_data b, h]
theorem B_toList (l : List UInt8) : (B l).toList = l := Go.ByteArray.toList_mk l
theorem B_app (l m : List UInt8) : B l ++ B m = B (l ++ m) := by
  apply B_inj
  rw [ByteArray.toList_data_append]
  simp [B]
theorem B_nil : ByteArray.empty = B [] := rfl
theorem B_one (n : Int) : strOf (([] : List Int) ++ [n]) = B [UInt8.ofNat n.toNat] := by
  simp [strOf, B]
theorem B_strOf (l : List Int) : strOf l = B (l.map fun n => UInt8.ofNat n.toNat) := by simp [strOf, B]
end Go.Proofs.YtemihnclhcobnaaGreatDoor
namespace Go.Proofs.YtemihnclhcobnaaGreatDoor
open Go.Rv
variable {β : Type}
def lf (n : Nat) : Bool := (decide (97 ≤ n) && decide (n < 102)) || (n == 48 || n == 49)
def bn (n : Nat) : Bool := n == 38 || (n == 124 || n == 94)
def wf : Tr → Prop
  | .nil => False
  | .node a b l r => b = 0 ∧ ∃ n : Nat, a = n ∧ n < 256 ∧ ((lf n = true ∧ l = .nil ∧ r = .nil) ∨ (n = 33 ∧ wf l ∧ r = .nil) ∨ (bn n = true ∧ wf l ∧ wf r))

theorem natb (n m : Nat) : ((n : Int) == (m : Int)) = (n == m) := by
  by_cases h : n = m
  · subst h; simp
  · rw [beq_eq_false_iff_ne.2 h, beq_eq_false_iff_ne.2 (by omega)]
end Go.Proofs.YtemihnclhcobnaaGreatDoor
namespace Go.Proofs.YtemihnclhcobnaaGreatDoor
open Go.Rv
variable {β : Type}
end Go.Proofs.YtemihnclhcobnaaGreatDoor
namespace Go.Proofs.YtemihnclhcobnaaGreatDoor
open Go.Rv
variable {β : Type}
theorem loop_st (g : Nat → Nat → Option β) (m : Nat) (r : Option β) (hs : ∀ F i, i < m → g (F + 1) i = g F (i + 1)) (he : ∀ F, g (F + 1) m = r) :
    ∀ (F i : Nat), i ≤ m → m - i < F → g F i = r := by
  intro F
  induction F with
  | zero => intro i _ h; omega
  | succ F ih =>
    intro i hi hF
    rcases Nat.lt_or_ge i m with h | h
    · rw [hs F i h]; exact ih (i + 1) h (by omega)
    · have : i = m := by omega
      subst this; exact he F

def sg (m : Nat) : Int := if m % 2 = 1 then -1 else 1
def bw (w x : Nat) : Nat := if w.testBit x then 1 else 0
theorem bw_le (w x : Nat) : bw w x ≤ 1 := by unfold bw; split <;> omega

def tm (w u x : Nat) : Int := sg (bw w x) * sg (ones (u &&& x))
theorem isTn {n w : Nat} (hn : n ≤ 5) (hw : w < 2 ^ 2 ^ n) : isT (n : Int) (w : Int) = true := by
  have h4 : ((w : Nat) : Int) < 2 ^ 2 ^ n := by exact_mod_cast hw
  simp only [isT, Bool.and_eq_true, decide_eq_true_eq, Int.toNat_natCast]
  exact ⟨⟨⟨by omega, by omega⟩, by omega⟩, h4⟩
theorem w_small {n w : Nat} (hn : n ≤ 5) (hw : w < 2 ^ 2 ^ n) : w < 4294967296 :=
  Nat.lt_of_lt_of_le hw (Nat.le_trans (Nat.pow_le_pow_right (by decide) (size_le hn)) (by decide))

theorem wr_mid {α : Type} (p : List α) (y z : α) (r : List α) : wr (p ++ y :: r) (p.length : Int) z = p ++ z :: r := by
  simp [wr]

theorem impl_Table_size_eq (N n : Nat) (w : Int) (hn : n ≤ 5) (k : Int → Option β) : zj1 N (n : Int) w k = k ((2 ^ n : Nat) : Int) := by
  unfold zj1 zb1
  rw [gd_true (decide_eq_true (by omega)), shl_one n (by omega)]
theorem impl_Table_at_eq (N w x : Nat) (n : Int) (hw : w < 4294967296) (k : Int → Option β) : zj2 N n (w : Int) (x : Int) k = k (bw w x : Int) := by
  unfold zj2 zb2
  rw [gd_true (decide_eq_true (by omega)), bit_at w x (by omega)]
  rfl

def en (l z : List Int) : Nat → List Int
  | 0 => z
  | i + 1 => wr (en l z i) (ones i : Int) (w64 (rd 0 (en l z i) (ones i : Int) + w64 (rd 0 l (i : Int) * rd 0 l (i : Int))))
end Go.Proofs.YtemihnclhcobnaaGreatDoor
namespace Go.Proofs.YtemihnclhcobnaaGreatDoor
open Go.Rv
variable {β : Type}
def in64 (n : Int) : Prop := -9223372036854775808 ≤ n ∧ n ≤ 9223372036854775807
theorem w8_small (n : Nat) (h : n < 256) : w8 (n : Int) = n := by
  have := IntKind.wrap_u8 (n : Int)
  show IntKind.wrap .u8 (n : Int) = n
  rw [this]
  omega

theorem impl_FormatInt_eq (N : Nat) (n : Int) (h : in64 n) (k : ByteArray → Option β) : zj141 N n k = k (B (Lib.itoa n)) := by
  unfold zj141 zb141 strconv_Itoa
  rw [gd_true (decide_eq_true h.1), gd_true (decide_eq_true h.2)]
  rfl

end Go.Proofs.YtemihnclhcobnaaGreatDoor
namespace Go.Proofs.YtemihnclhcobnaaGreatDoor
open Go.Rv
variable {β : Type}
theorem zeros_in (n : Nat) : ∀ y ∈ List.replicate n (0 : Int), in64 y := by
  intro y hy
  have := (List.mem_replicate.1 hy).2
  subst this
  unfold in64; omega
end Go.Proofs.YtemihnclhcobnaaGreatDoor
namespace Go.Proofs.YtemihnclhcobnaaGreatDoor
open Go.Rv
variable {β : Type}
theorem bw_eq0 (w x : Nat) : ((bw w x : Int) == 0) = !w.testBit x := by unfold bw; cases w.testBit x <;> rfl
theorem bw_eq1 (w x : Nat) : ((bw w x : Int) == 1) = w.testBit x := by unfold bw; cases w.testBit x <;> rfl
theorem bit_w (w x : Nat) (hw : w < 9223372036854775808) : bits .and .i64 (shrI .i64 (w : Int) (x : Int)) 1 = (bw w x : Int) := bit_at w x hw

def allTo (p : Nat → Bool) : Nat → Bool
  | 0 => true
  | m + 1 => allTo p m && p m
def R (w n i b : Nat) : Nat := tabw (fun x => w.testBit (ins x i b)) (2 ^ (n - 1))
def mono (w n i : Nat) : Bool := (R w n i 0 &&& R w n i 1) == R w n i 0
def game (w n : Nat) : Bool := allTo (mono w n) n && (!w.testBit 0 && w.testBit (2 ^ n - 1))
end Go.Proofs.YtemihnclhcobnaaGreatDoor
namespace Go.Proofs.YtemihnclhcobnaaGreatDoor
open Go.Rv
variable {β : Type}
def turn (w i x : Nat) : Bool := !x.testBit i && edge w i x
theorem l2Variable_eq (N n i : Nat) (hN : 64 < N) (hn : n ≤ 5) (k : Int → Option β) : zj19 N (n : Int) (i : Int) k = k (tabw (fun x => x.testBit i) (2 ^ n) : Int) := by
  have hs := size_le hn
  have hz : (0 : Int) ≤ ((2 ^ n : Nat) : Int) := Int.natCast_nonneg _
  refine loop_st (fun F x => zj18 N F (n : Int) (i : Int) (tabw (fun x => x.testBit i) x : Int) (x : Int) fun e => k e) (2 ^ n) _ (fun F x hx => ?_) (fun F => ?_) N 0 (by omega) (by omega)
  · simp only [zj18, zj17, zb17]
    have ht : tabw (fun x => x.testBit i) x < 2 ^ 63 := Nat.lt_of_lt_of_le (tabw_lt _ x) (Nat.pow_le_pow_right (by decide) (by omega))
    have hp : 2 ^ x < 2 ^ 63 := Nat.pow_lt_pow_right (by decide) (by omega)
    rw [gd_true (decide_eq_true (by omega)), shl_one n (by omega), decide_eq_true (by omega), cond_true, gd_true (decide_eq_true (by omega)), bit_w x i (by omega), bw_eq1, w64_succ x (by omega)]
    cases hxb : x.testBit i with
    | true =>
      have e : tabw (fun x => x.testBit i) (x + 1) = tabw (fun x => x.testBit i) x ||| 2 ^ x := by simp [tabw, hxb]
      rw [cond_true, gd_true (decide_eq_true (by omega)), shl_one x (by omega), bOr _ _ ht hp, e]
    | false =>
      have e : tabw (fun x => x.testBit i) (x + 1) = tabw (fun x => x.testBit i) x := by simp [tabw, hxb]
      rw [cond_false, e]
  · simp only [zj18, zj17, zb17]
    rw [gd_true (decide_eq_true (by omega)), shl_one n (by omega), decide_eq_false (by omega), cond_false]
def veto (w n i : Nat) : Bool := R w n i 0 == 0
end Go.Proofs.YtemihnclhcobnaaGreatDoor
namespace Go.Proofs.YtemihnclhcobnaaGreatDoor
open Go.Rv
set_option linter.unusedSimpArgs false
set_option linter.unusedSectionVars false
variable {β : Type}
def letR (n w : Nat) : Nat → Nat → Option (List UInt8)
  | 0, _ => none
  | d + 1, i => cond (w == vw n i) (some [UInt8.ofNat (97 + i)]) (cond (w == full n - vw n i) (some [33, UInt8.ofNat (97 + i)]) (letR n w d (i + 1)))
def pairB (T : List Int) (o : Bool) (w a : Nat) : Nat → Nat → Option Nat
  | 0, _ => none
  | d + 1, b => cond (decide (1 ≤ gt T b) && decide (gt T a + gt T b = gt T w) && (cond o (a &&& b) (a ||| b) == w)) (some b) (pairB T o w a d (b + 1))
def pairA (T : List Int) (o : Bool) (w L : Nat) : Nat → Nat → Option (Nat × Nat)
  | 0, _ => none
  | d + 1, a => cond (decide (1 ≤ gt T a) && decide (gt T a < gt T w)) (match pairB T o w a L 0 with | some b => some (a, b) | none => pairA T o w L d (a + 1)) (pairA T o w L d (a + 1))
def fmF (T : List Int) (n : Nat) : Nat → Nat → List UInt8
  | 0, _ => []
  | F + 1, w => cond (w == 0) [48] (cond (w == full n) [49] (match cond (decide (gt T w = 1)) (letR n w n 0) none with
    | some s => s
    | none => match pairA T true w (2 ^ 2 ^ n) (2 ^ 2 ^ n) 0 with
      | some (a, b) => 38 :: fmF T n F a ++ fmF T n F b
      | none => match pairA T false w (2 ^ 2 ^ n) (2 ^ 2 ^ n) 0 with
        | some (a, b) => 124 :: fmF T n F a ++ fmF T n F b
        | none => []))
theorem pairB_ok {T : List Int} {o : Bool} {w a b : Nat} : ∀ (d i : Nat), pairB T o w a d i = some b → 1 ≤ gt T b ∧ gt T a + gt T b = gt T w ∧ cond o (a &&& b) (a ||| b) = w ∧ i ≤ b ∧ b < i + d
  | 0, _, h => by cases h
  | d + 1, i, h => by
    unfold pairB at h
    cases hb : (decide (1 ≤ gt T i) && decide (gt T a + gt T i = gt T w) && (cond o (a &&& i) (a ||| i) == w)) with
    | true =>
      rw [hb, cond_true, Option.some.injEq] at h
      subst h
      simp only [Bool.and_eq_true, decide_eq_true_eq, beq_iff_eq] at hb
      exact ⟨hb.1.1, hb.1.2, hb.2, Nat.le_refl _, by omega⟩
    | false =>
      rw [hb, cond_false] at h
      obtain ⟨h1, h2, h3, h4, h5⟩ := pairB_ok d (i + 1) h
      exact ⟨h1, h2, h3, by omega, by omega⟩
theorem pairA_ok {T : List Int} {o : Bool} {w L a b : Nat} : ∀ (d i : Nat), pairA T o w L d i = some (a, b) → 1 ≤ gt T a ∧ gt T a < gt T w ∧ a < i + d ∧ 1 ≤ gt T b ∧ gt T a + gt T b = gt T w ∧ b < L
  | 0, _, h => by cases h
  | d + 1, i, h => by
    unfold pairA at h
    cases hb : (decide (1 ≤ gt T i) && decide (gt T i < gt T w)) with
    | true =>
      rw [hb, cond_true] at h
      cases hp : pairB T o w i L 0 with
      | some b' =>
        rw [hp] at h
        simp only [Option.some.injEq, Prod.mk.injEq] at h
        obtain ⟨rfl, rfl⟩ := h
        simp only [Bool.and_eq_true, decide_eq_true_eq] at hb
        obtain ⟨h1, h2, _, _, h5⟩ := pairB_ok L 0 hp
        exact ⟨hb.1, hb.2, by omega, h1, h2, by omega⟩
      | none =>
        rw [hp] at h
        obtain ⟨h1, h2, h3, h4⟩ := pairA_ok d (i + 1) h
        exact ⟨h1, h2, by omega, h4⟩
    | false =>
      rw [hb, cond_false] at h
      obtain ⟨h1, h2, h3, h4⟩ := pairA_ok d (i + 1) h
      exact ⟨h1, h2, by omega, h4⟩
theorem rd_gt (T : List Int) (i : Nat) : rd 0 T (i : Int) = gt T i := by unfold rd gt; rw [Int.toNat_natCast]
theorem gs2 (s t : List UInt8) (h : s.length + t.length ≤ 1000000) (X : Option β) : gd (decide ((B s).size + (B t).size ≤ 9223372036854775807)) X = X := gd_true (decide_eq_true (by rw [B_size, B_size]; omega))
theorem pairB_zero {T : List Int} {o : Bool} {w a d : Nat} (h : gt T 0 = 0) : pairB T o w a (d + 1) 0 = pairB T o w a d 1 := by
  show cond (decide (1 ≤ gt T 0) && _ && _) _ _ = _
  rw [h, show decide ((1 : Int) ≤ 0) = false from rfl, Bool.false_and, Bool.false_and, cond_false]
theorem pairB_last {T : List Int} {o : Bool} {w a i : Nat} (h : gt T i = 0) : pairB T o w a 1 i = none := by
  show cond (decide (1 ≤ gt T i) && _ && _) _ _ = _
  rw [h, show decide ((1 : Int) ≤ 0) = false from rfl, Bool.false_and, Bool.false_and, cond_false]
  rfl
section
variable (N : Nat) (hN : 1048576 < N) {n : Nat} (hn : n ≤ 3) {T : List Int} (hT : SzOK n T) {w a : Nat} (hw : w < 2 ^ 2 ^ n) (ha : a < 2 ^ 2 ^ n) (g : Nat → List UInt8)
  (hg : ∀ x, (g x).length ≤ 1000) (ha1 : 1 ≤ gt T a) (ha2 : gt T a < gt T w)
include hN hn hT hw ha hg ha1 ha2
theorem spec_b_loop (o : Bool) (self : List Int → Int → Int → (ByteArray → Option β) → Option β) (hs : ∀ x, x < 2 ^ 2 ^ n → 1 ≤ gt T x → gt T x < gt T w → ∀ K, self T (n : Int) (x : Int) K = K (B (g x))) (k0 : ByteArray → Option β) (k1 : List Int → Int → Int → Int → Int → Option β) :
    ∀ (d F i : Nat), i + d = 2 ^ 2 ^ n - 1 → d < F → zj86 N self F T (n : Int) (w : Int) (cond o 0 1) (a : Int) (i : Int) k0 k1 =
      match pairB T o w a (d + 1) i with
      | some b => k0 (B (cond o 38 124 :: g a ++ g b))
      | none => k1 T (n : Int) (w : Int) (cond o 0 1) (a : Int)
  | d, 0, _, _, h => absurd h (Nat.not_lt_zero _)
  | 0, F + 1, i, hi, _ => by
    obtain rfl : i = 2 ^ 2 ^ n - 1 := by omega
    rw [pairB_last hT.full]
    show zj85 N self T (n : Int) (w : Int) (cond o 0 1) (a : Int) _ _ k0 k1 = _
    unfold zj85 zb85
    rw [spec_l2Full_eq N n (by omega), decide_eq_false (by omega)]
    rfl
  | d + 1, F + 1, i, hi, hF => by
    have hL := hT.len
    have ih := spec_b_loop o self hs k0 k1 d F (i + 1) (by omega) (by omega)
    have hla := hT.le a
    have hlb := hT.le i
    have hlw := hT.le w
    have hL2 : 2 ^ 2 ^ n ≤ 256 := by
      obtain rfl | rfl | rfl | rfl : n = 0 ∨ n = 1 ∨ n = 2 ∨ n = 3 := by omega
      all_goals decide
    show zj85 N self T (n : Int) (w : Int) (cond o 0 1) (a : Int) (i : Int) _ k0 k1 = _
    unfold zj85 zb85
    rw [spec_l2Full_eq N n (by omega), decide_eq_true (by omega : (i : Int) < ((2 ^ 2 ^ n - 1 : Nat) : Int)), cond_true, gd_true (decide_eq_true (by omega)), gd_true (decide_eq_true (by omega)), gd_true (decide_eq_true (by omega)), gd_true (decide_eq_true (by omega)), gd_true (decide_eq_true (by omega)), gd_true (decide_eq_true (by omega))]
    rw [rd_gt, rd_gt, rd_gt, w64_id (by omega) (by omega), w64_succ i (by omega), bAnd a i (by omega) (by omega), bOr a i (by omega) (by omega)]
    dsimp only
    have hp : pairB T o w a (d + 1 + 1) i = cond (decide (1 ≤ gt T i) && decide (gt T a + gt T i = gt T w) && (cond o (a &&& i) (a ||| i) == w)) (some i) (pairB T o w a (d + 1) (i + 1)) := rfl
    rw [hp]
    by_cases e1 : gt T a + gt T i = gt T w
    · have hi1 : 1 ≤ gt T i := by omega
      have hilt : gt T i < gt T w := by omega
      have b1 : ((gt T a + gt T i) != gt T w) = false := by simp [e1]
      rw [b1, cond_false, decide_eq_true hi1, decide_eq_true e1, Bool.true_and, Bool.true_and]
      have ga := hg a
      have gi := hg i
      cases o with
      | true =>
        rw [cond_true, cond_true, cond_true, show ((0 : Int) == 0) = true from rfl, cond_true]
        by_cases e2 : a &&& i = w
        · rw [show (((a &&& i : Nat) : Int) == (w : Int)) = true by simp [e2], show (a &&& i == w) = true by simp [e2], cond_true, cond_true, hs a ha ha1 ha2, show strOf [38] = B [38] from rfl, gs2 _ _ (by simp only [List.length_cons, List.length_nil]; omega), hs i (by omega) hi1 hilt, B_app, gs2 _ _ (by simp only [List.length_append, List.length_cons, List.length_nil]; omega), B_app]
          rfl
        · rw [show (((a &&& i : Nat) : Int) == (w : Int)) = false by rw [beq_eq_false_iff_ne]; omega, show (a &&& i == w) = false by simp [e2], cond_false, cond_false, show ((0 : Int) == 1) = false from rfl, cond_false]
          exact ih
      | false =>
        rw [cond_false, cond_false, cond_false, show ((1 : Int) == 0) = false from rfl, cond_false, show ((1 : Int) == 1) = true from rfl, cond_true]
        by_cases e2 : a ||| i = w
        · rw [show (((a ||| i : Nat) : Int) == (w : Int)) = true by simp [e2], show (a ||| i == w) = true by simp [e2], cond_true, cond_true, hs a ha ha1 ha2, show strOf [124] = B [124] from rfl, gs2 _ _ (by simp only [List.length_cons, List.length_nil]; omega), hs i (by omega) hi1 hilt, B_app, gs2 _ _ (by simp only [List.length_append, List.length_cons, List.length_nil]; omega), B_app]
          rfl
        · rw [show (((a ||| i : Nat) : Int) == (w : Int)) = false by rw [beq_eq_false_iff_ne]; omega, show (a ||| i == w) = false by simp [e2], cond_false, cond_false]
          exact ih
    · rw [show ((gt T a + gt T i) != gt T w) = true by simp [e1], cond_true, decide_eq_false e1, Bool.and_false, Bool.false_and, cond_false]
      exact ih
end
theorem pairA_last {T : List Int} {o : Bool} {w L i : Nat} (h : gt T i = 0) : pairA T o w L 1 i = none := by
  show cond (decide (1 ≤ gt T i) && _) _ _ = _
  rw [h, show decide ((1 : Int) ≤ 0) = false from rfl, Bool.false_and, cond_false]
  rfl
theorem pairA_zero {T : List Int} {o : Bool} {w L d : Nat} (h : gt T 0 = 0) : pairA T o w L (d + 1) 0 = pairA T o w L d 1 := by
  show cond (decide (1 ≤ gt T 0) && _) _ _ = _
  rw [h, show decide ((1 : Int) ≤ 0) = false from rfl, Bool.false_and, cond_false]
section
variable (N : Nat) (hN : 1048576 < N) {n : Nat} (hn : n ≤ 3) {T : List Int} (hT : SzOK n T) {w : Nat} (hw : w < 2 ^ 2 ^ n) (g : Nat → List UInt8) (hg : ∀ x, (g x).length ≤ 1000)
include hN hn hT hw hg
theorem spec_a_loop (o : Bool) (self : List Int → Int → Int → (ByteArray → Option β) → Option β) (hs : ∀ x, x < 2 ^ 2 ^ n → 1 ≤ gt T x → gt T x < gt T w → ∀ K, self T (n : Int) (x : Int) K = K (B (g x))) (k0 : ByteArray → Option β) (k1 : List Int → Int → Int → Int → Option β) :
    ∀ (d F i : Nat), i + d = 2 ^ 2 ^ n - 1 → 1 ≤ i → d < F → zj88 N self F T (n : Int) (w : Int) (cond o 0 1) (i : Int) k0 k1 =
      match pairA T o w (2 ^ 2 ^ n) (d + 1) i with
      | some (a, b) => k0 (B (cond o 38 124 :: g a ++ g b))
      | none => k1 T (n : Int) (w : Int) (cond o 0 1)
  | d, 0, _, _, _, h => absurd h (Nat.not_lt_zero _)
  | 0, F + 1, i, hi, _, _ => by
    obtain rfl : i = 2 ^ 2 ^ n - 1 := by omega
    rw [pairA_last hT.full]
    show zj87 N self T (n : Int) (w : Int) (cond o 0 1) _ _ k0 k1 = _
    unfold zj87 zb87
    rw [spec_l2Full_eq N n (by omega), decide_eq_false (by omega)]
    rfl
  | d + 1, F + 1, i, hi, h1, hF => by
    have hL := hT.len
    have hlw := hT.le w
    have hL2 : 2 ^ 2 ^ n ≤ 256 := by
      obtain rfl | rfl | rfl | rfl : n = 0 ∨ n = 1 ∨ n = 2 ∨ n = 3 := by omega
      all_goals decide
    have hmid := hT.mid i (by omega) (by omega)
    have ih := spec_a_loop o self hs k0 k1 d F (i + 1) (by omega) (by omega) (by omega)
    show zj87 N self T (n : Int) (w : Int) (cond o 0 1) (i : Int) _ k0 k1 = _
    unfold zj87 zb87
    rw [spec_l2Full_eq N n (by omega), decide_eq_true (by omega : (i : Int) < ((2 ^ 2 ^ n - 1 : Nat) : Int)), cond_true, gd_true (decide_eq_true (by omega)), gd_true (decide_eq_true (by omega)), gd_true (decide_eq_true (by omega)), gd_true (decide_eq_true (by omega)), rd_gt, rd_gt, w64_succ i (by omega)]
    have hp : pairA T o w (2 ^ 2 ^ n) (d + 1 + 1) i = cond (decide (1 ≤ gt T i) && decide (gt T i < gt T w)) (match pairB T o w i (2 ^ 2 ^ n) 0 with | some b => some (i, b) | none => pairA T o w (2 ^ 2 ^ n) (d + 1) (i + 1)) (pairA T o w (2 ^ 2 ^ n) (d + 1) (i + 1)) := rfl
    rw [hp, decide_eq_true hmid, Bool.true_and]
    by_cases e1 : gt T i < gt T w
    · have hz : pairB T o w i (2 ^ 2 ^ n) 0 = pairB T o w i (2 ^ 2 ^ n - 2 + 1) 1 := by
        rw [show 2 ^ 2 ^ n = 2 ^ 2 ^ n - 2 + 1 + 1 by omega]
        exact pairB_zero hT.zero
      rw [decide_eq_false (by omega : ¬ gt T i ≥ gt T w), cond_false, decide_eq_true e1, cond_true, hz]
      have hb := spec_b_loop N hN hn hT hw (by omega : i < 2 ^ 2 ^ n) g hg hmid e1 o self hs k0 (fun x1 x2 x3 x4 x5 => zj88 N self F x1 x2 x3 x4 (w64 (x5 + 1)) k0 k1) (2 ^ 2 ^ n - 2) N 1 (by omega) (by omega)
      refine Eq.trans hb ?_
      cases pairB T o w i (2 ^ 2 ^ n - 2 + 1) 1 with
      | some b => rfl
      | none =>
        show zj88 N self F T (n : Int) (w : Int) (cond o 0 1) (w64 ((i : Int) + 1)) k0 k1 = _
        rw [w64_succ i (by omega)]
        exact ih
    · rw [decide_eq_true (by omega : gt T i ≥ gt T w), cond_true, decide_eq_false e1, cond_false]
      exact ih
theorem spec_o_loop (self : List Int → Int → Int → (ByteArray → Option β) → Option β) (hs : ∀ x, x < 2 ^ 2 ^ n → 1 ≤ gt T x → gt T x < gt T w → ∀ K, self T (n : Int) (x : Int) K = K (B (g x))) (hL4 : 2 ≤ 2 ^ 2 ^ n) (k0 : ByteArray → Option β) (k1 : Option β) :
    zj90 N self N T (n : Int) (w : Int) 0 k0 k1 =
      match pairA T true w (2 ^ 2 ^ n) (2 ^ 2 ^ n) 0 with
      | some (a, b) => k0 (B (38 :: g a ++ g b))
      | none => match pairA T false w (2 ^ 2 ^ n) (2 ^ 2 ^ n) 0 with
        | some (a, b) => k0 (B (124 :: g a ++ g b))
        | none => k1 := by
  obtain ⟨M, rfl⟩ : ∃ M, N = M + 3 := ⟨N - 3, by omega⟩
  have hL2 : 2 ^ 2 ^ n ≤ 256 := by
    obtain rfl | rfl | rfl | rfl : n = 0 ∨ n = 1 ∨ n = 2 ∨ n = 3 := by omega
    all_goals decide
  have hz : ∀ o, pairA T o w (2 ^ 2 ^ n) (2 ^ 2 ^ n) 0 = pairA T o w (2 ^ 2 ^ n) (2 ^ 2 ^ n - 2 + 1) 1 := fun o => by
    have h := pairA_zero (T := T) (o := o) (w := w) (L := 2 ^ 2 ^ n) (d := 2 ^ 2 ^ n - 2 + 1) hT.zero
    rw [show 2 ^ 2 ^ n - 2 + 1 + 1 = 2 ^ 2 ^ n by omega] at h
    exact h
  rw [hz true, hz false]
  have ha := fun o k0 (k1 : List Int → Int → Int → Int → Option β) => spec_a_loop (M + 3) hN hn hT hw g hg o self hs k0 k1 (2 ^ 2 ^ n - 2) (M + 3) 1 (by omega) (Nat.le_refl _) (by omega)
  show zj89 (M + 3) self T (n : Int) (w : Int) 0 (fun v0 v1 v2 v3 => zj90 (M + 3) self (M + 2) v0 v1 v2 v3 k0 k1) k0 k1 = _
  unfold zj89 zb89
  refine Eq.trans (ha true _ _) ?_
  cases pairA T true w (2 ^ 2 ^ n) (2 ^ 2 ^ n - 2 + 1) 1 with
  | some p => rfl
  | none =>
    show zj89 (M + 3) self T (n : Int) (w : Int) 1 (fun v0 v1 v2 v3 => zj90 (M + 3) self (M + 1) v0 v1 v2 v3 k0 k1) k0 k1 = _
    unfold zj89 zb89
    refine Eq.trans (ha false _ _) ?_
    cases pairA T false w (2 ^ 2 ^ n) (2 ^ 2 ^ n - 2 + 1) 1 with
    | some p => rfl
    | none => rfl
end
theorem vw_tab : ∀ n, n ≤ 3 → ∀ i, i < n → tabw (fun x => x.testBit i) (2 ^ n) = vw n i := by decide +kernel
theorem let_str (i : Nat) (hi : i < 3) : (strOf [97, 98, 99, 100, 101]).extract (Int.toNat (i : Int)) (Int.toNat ((i + 1 : Nat) : Int)) = B [UInt8.ofNat (97 + i)] := by
  obtain rfl | rfl | rfl : i = 0 ∨ i = 1 ∨ i = 2 := by omega
  all_goals rfl
theorem spec_let (N : Nat) (hN : 1048576 < N) {n : Nat} (hn : n ≤ 3) {T : List Int} (hT : SzOK n T) {w : Nat} (hw : w < 2 ^ 2 ^ n) (k0 : ByteArray → Option β) (k1 : List Int → Int → Int → Option β) :
    ∀ (d F i : Nat), i + d = n → d < F → zj84 N F T (n : Int) (w : Int) (i : Int) k0 k1 = match cond (decide (gt T w = 1)) (letR n w d i) none with
      | some s => k0 (B s)
      | none => k1 T (n : Int) (w : Int)
  | d, 0, _, _, h => absurd h (Nat.not_lt_zero _)
  | 0, F + 1, i, hi, _ => by
    obtain rfl : i = n := by omega
    show zj83 N T (i : Int) (w : Int) (i : Int) _ k0 k1 = _
    unfold zj83 zb83
    rw [decide_eq_false (by omega)]
    cases decide (gt T w = 1) <;> rfl
  | d + 1, F + 1, i, hi, hF => by
    have hL := hT.len
    have ih := spec_let N hN hn hT hw k0 k1 d F (i + 1) (by omega) (by omega)
    have hv := vw_lt n hn i (by omega)
    have hv2 := vz_lt n hn i (by omega)
    have hfu : full n = 2 ^ 2 ^ n - 1 := rfl
    have hL2 : 2 ^ 2 ^ n ≤ 256 := by
      obtain rfl | rfl | rfl | rfl : n = 0 ∨ n = 1 ∨ n = 2 ∨ n = 3 := by omega
      all_goals decide
    show zj83 N T (n : Int) (w : Int) (i : Int) _ k0 k1 = _
    unfold zj83 zb83
    rw [decide_eq_true (by omega : (i : Int) < (n : Int)), cond_true, gd_true (decide_eq_true (by omega)), gd_true (decide_eq_true (by omega)), rd_gt]
    by_cases e1 : gt T w = 1
    · rw [show (gt T w == 1) = true by simp [e1], cond_true, decide_eq_true e1, cond_true, l2Variable_eq N n i (by omega) (by omega), vw_tab n hn i (by omega), spec_l2Full_eq N n (by omega), l2Variable_eq N n i (by omega) (by omega), vw_tab n hn i (by omega)]
      dsimp only
      have hsub : w64 (((2 ^ 2 ^ n - 1 : Nat) : Int) - ((vw n i : Nat) : Int)) = ((full n - vw n i : Nat) : Int) := by rw [w64_id (by omega) (by omega)]; omega
      rw [hsub, w64_succ i (by omega)]
      have hl : letR n w (d + 1) i = cond (w == vw n i) (some [UInt8.ofNat (97 + i)]) (cond (w == full n - vw n i) (some [33, UInt8.ofNat (97 + i)]) (letR n w d (i + 1))) := rfl
      rw [hl]
      have hsz : (strOf [97, 98, 99, 100, 101]).size = 5 := rfl
      by_cases e2 : w = vw n i
      · rw [show ((w : Int) == ((vw n i : Nat) : Int)) = true by simp [e2], show (w == vw n i) = true by simp [e2], cond_true, cond_true, gd_true (decide_eq_true (by omega)), gd_true (decide_eq_true (by rw [hsz]; omega)), gd_true (decide_eq_true (by omega)), gd_true (decide_eq_true (by omega)), let_str i (by omega)]
      · rw [show ((w : Int) == ((vw n i : Nat) : Int)) = false by rw [beq_eq_false_iff_ne]; omega, show (w == vw n i) = false by simp [e2], cond_false, cond_false]
        by_cases e3 : w = full n - vw n i
        · rw [show ((w : Int) == ((full n - vw n i : Nat) : Int)) = true by simp [e3], show (w == full n - vw n i) = true by simp [e3], cond_true, cond_true, gd_true (decide_eq_true (by omega)), gd_true (decide_eq_true (by rw [hsz]; omega)), gd_true (decide_eq_true (by omega)), gd_true (decide_eq_true (by omega)), let_str i (by omega), show strOf [33] = B [33] from rfl, gs2 _ _ (by simp), B_app]
          rfl
        · rw [show ((w : Int) == ((full n - vw n i : Nat) : Int)) = false by rw [beq_eq_false_iff_ne]; omega, show (w == full n - vw n i) = false by simp [e3], cond_false, cond_false]
          rw [decide_eq_true e1, cond_true] at ih
          exact ih
    · rw [show (gt T w == 1) = false by simp [e1], cond_false, decide_eq_false e1, cond_false]
theorem letR_len {n w : Nat} {s : List UInt8} : ∀ (d i : Nat), letR n w d i = some s → s.length ≤ 2
  | 0, _, h => by cases h
  | d + 1, i, h => by
    unfold letR at h
    cases h1 : w == vw n i with
    | true => rw [h1, cond_true, Option.some.injEq] at h; subst h; simp
    | false =>
      rw [h1, cond_false] at h
      cases h2 : w == full n - vw n i with
      | true => rw [h2, cond_true, Option.some.injEq] at h; subst h; simp
      | false => rw [h2, cond_false] at h; exact letR_len d (i + 1) h
theorem fm_len {n : Nat} {T : List Int} (hT : SzOK n T) : ∀ (F w : Nat), ((fmF T n F w).length : Int) ≤ if 1 ≤ gt T w then 3 * gt T w - 1 else 1
  | 0, w => by
    show ((0 : Nat) : Int) ≤ _
    split <;> omega
  | F + 1, w => by
    have ih := fm_len hT F
    have two : ∀ a b, 1 ≤ gt T a → 1 ≤ gt T b → gt T a + gt T b = gt T w → ∀ c : UInt8, ((c :: fmF T n F a ++ fmF T n F b).length : Int) ≤ if 1 ≤ gt T w then 3 * gt T w - 1 else 1 := fun a b h1 h2 h3 c => by
      have ha := ih a
      have hb := ih b
      rw [if_pos h1] at ha
      rw [if_pos h2] at hb
      rw [if_pos (by omega)]
      simp only [List.cons_append, List.length_cons, List.length_append]
      omega
    unfold fmF
    cases h0 : w == 0 with
    | true =>
      rw [cond_true]
      have : w = 0 := by simpa using h0
      subst this
      rw [hT.zero]; simp
    | false =>
      rw [cond_false]
      cases h1 : w == full n with
      | true =>
        rw [cond_true]
        have : w = full n := by simpa using h1
        subst this
        rw [show full n = 2 ^ 2 ^ n - 1 from rfl, hT.full]; simp
      | false =>
        rw [cond_false]
        cases hl : cond (decide (gt T w = 1)) (letR n w n 0) none with
        | some s =>
          dsimp only
          cases h2 : decide (gt T w = 1) with
          | false => rw [h2] at hl; cases hl
          | true =>
            rw [h2, cond_true] at hl
            have := letR_len n 0 hl
            rw [of_decide_eq_true h2]
            simp only [Int.le_refl, if_true]
            omega
        | none =>
          dsimp only
          cases hp : pairA T true w (2 ^ 2 ^ n) (2 ^ 2 ^ n) 0 with
          | some p =>
            obtain ⟨a, b⟩ := p
            obtain ⟨p1, _, _, p4, p5, _⟩ := pairA_ok _ _ hp
            exact two a b p1 p4 p5 38
          | none =>
            dsimp only
            cases hq : pairA T false w (2 ^ 2 ^ n) (2 ^ 2 ^ n) 0 with
            | some p =>
              obtain ⟨a, b⟩ := p
              obtain ⟨p1, _, _, p4, p5, _⟩ := pairA_ok _ _ hq
              exact two a b p1 p4 p5 124
            | none =>
              show ((0 : Nat) : Int) ≤ _
              split <;> omega
theorem fm_1000 {n : Nat} {T : List Int} (hT : SzOK n T) (F w : Nat) : (fmF T n F w).length ≤ 1000 := by
  have h := fm_len hT F w
  have hl := hT.le w
  split at h <;> omega
theorem spec_write {N : Nat} (hN : 1048576 < N) {n : Nat} (hn : n ≤ 3) {T : List Int} (hT : SzOK n T) : ∀ (F w : Nat), w < 2 ^ 2 ^ n → gt T w < F → ∀ K : ByteArray → Option β, zj92 N F T (n : Int) (w : Int) K = K (B (fmF T n F w))
  | 0, w, _, h, _ => by have := hT.le w; omega
  | F + 1, w, hw, hF, K => by
    have hs : ∀ x, x < 2 ^ 2 ^ n → 1 ≤ gt T x → gt T x < gt T w → ∀ K : ByteArray → Option β, zj92 N F T (n : Int) (x : Int) K = K (B (fmF T n F x)) := fun x hx _ h2 K => spec_write hN hn hT F x hx (by omega) K
    have hL2 : 2 ≤ 2 ^ 2 ^ n := by
      obtain rfl | rfl | rfl | rfl : n = 0 ∨ n = 1 ∨ n = 2 ∨ n = 3 := by omega
      all_goals decide
    show zj91 N (zj92 N F) T (n : Int) (w : Int) K = _
    unfold zj91 zb91 fmF
    cases h0 : w == 0 with
    | true =>
      have : w = 0 := by simpa using h0
      subst this
      rfl
    | false =>
      have h0' : w ≠ 0 := by simpa using h0
      rw [show ((w : Int) == 0) = false by rw [beq_eq_false_iff_ne]; omega, cond_false, cond_false, spec_l2Full_eq N n (by omega)]
      cases h1 : w == full n with
      | true =>
        have : w = full n := by simpa using h1
        subst this
        rw [show ((full n : Nat) : Int) = ((2 ^ 2 ^ n - 1 : Nat) : Int) from rfl, beq_self_eq_true]
        rfl
      | false =>
        have h1' : w ≠ 2 ^ 2 ^ n - 1 := by
          have : w ≠ full n := by simpa using h1
          exact this
        rw [show ((w : Int) == ((2 ^ 2 ^ n - 1 : Nat) : Int)) = false by rw [beq_eq_false_iff_ne]; omega, cond_false, cond_false]
        refine Eq.trans (spec_let N hN hn hT hw _ _ n N 0 (by omega) (by omega)) ?_
        cases cond (decide (gt T w = 1)) (letR n w n 0) none with
        | some s => rfl
        | none =>
          dsimp only
          refine Eq.trans (spec_o_loop N hN hn hT hw (fmF T n F) (fm_1000 hT F) _ hs hL2 _ _) ?_
          cases pairA T true w (2 ^ 2 ^ n) (2 ^ 2 ^ n) 0 with
          | some p => rfl
          | none =>
            cases pairA T false w (2 ^ 2 ^ n) (2 ^ 2 ^ n) 0 with
            | some p => rfl
            | none => rfl
end Go.Proofs.YtemihnclhcobnaaGreatDoor
namespace Go.Proofs.YtemihnclhcobnaaGreatDoor
open Go.Rv
set_option linter.unusedSimpArgs false
set_option linter.unusedSectionVars false
variable {β : Type}
theorem gd_tt (X : Option β) : gd true X = X := rfl
section
variable (N : Nat) (hN : 1048576 < N) {n : Nat} (hn : n ≤ 3) {T : List Int} (hT : SzOK n T) {w a : Nat} (hw : w < 2 ^ 2 ^ n) (ha : a < 2 ^ 2 ^ n) (g : Nat → List UInt8)
  (hg : ∀ x, (g x).length ≤ 1000) (ha1 : 1 ≤ gt T a) (ha2 : gt T a < gt T w)
include hN hn hT hw ha hg ha1 ha2
theorem impl_b_loop (o : Bool) (self : Int → Int → List Int → (ByteArray → Option β) → Option β) (hs : ∀ x, x < 2 ^ 2 ^ n → 1 ≤ gt T x → gt T x < gt T w → ∀ K, self (n : Int) (x : Int) T K = K (B (g x))) (x4 x5 : Int) (x6 : List Int) (x7 x8 : Int) (x14 : List Int) (k0 : ByteArray → Option β) (k1 : List Int → Int → Int → Int → List Int → Int → Int → Int → Int → List Int → Option β) :
    ∀ (d F i : Nat), i + d = 2 ^ 2 ^ n → d < F → zj161 N self F T (cond o 38 124) (a : Int) (gt T a) x4 x5 x6 x7 x8 T (T.length : Int) (i : Int) (n : Int) (w : Int) x14 k0 k1 =
      match pairB T o w a d i with
      | some b => k0 (B (cond o 38 124 :: g a ++ g b))
      | none => k1 T (cond o 38 124) x4 x5 x6 x7 x8 (n : Int) (w : Int) x14
  | d, 0, _, _, h => absurd h (Nat.not_lt_zero _)
  | 0, F + 1, i, hi, _ => by
    have hL := hT.len
    obtain rfl : i = 2 ^ 2 ^ n := by omega
    show zj160 N self T (cond o 38 124) (a : Int) (gt T a) x4 x5 x6 x7 x8 T (T.length : Int) _ (n : Int) (w : Int) x14 _ k0 k1 = _
    unfold zj160 zb160
    rw [decide_eq_false (by omega)]
    rfl
  | d + 1, F + 1, i, hi, hF => by
    have hL := hT.len
    have ih := impl_b_loop o self hs x4 x5 x6 x7 x8 x14 k0 k1 d F (i + 1) (by omega) (by omega)
    have hla := hT.le a
    have hlb := hT.le i
    have hlw := hT.le w
    have hL2 : 2 ^ 2 ^ n ≤ 256 := by
      obtain rfl | rfl | rfl | rfl : n = 0 ∨ n = 1 ∨ n = 2 ∨ n = 3 := by omega
      all_goals decide
    show zj160 N self T (cond o 38 124) (a : Int) (gt T a) x4 x5 x6 x7 x8 T (T.length : Int) (i : Int) (n : Int) (w : Int) x14 _ k0 k1 = _
    unfold zj160 zb160
    rw [decide_eq_true (by omega : (i : Int) < (T.length : Int)), cond_true, gd_true (decide_eq_true (by omega)), rd_gt, rd_gt, w64_succ i (by omega), w64_id (by omega) (by omega), bAnd a i (by omega) (by omega), bOr a i (by omega) (by omega)]
    dsimp only
    have hp : pairB T o w a (d + 1) i = cond (decide (1 ≤ gt T i) && decide (gt T a + gt T i = gt T w) && (cond o (a &&& i) (a ||| i) == w)) (some i) (pairB T o w a d (i + 1)) := rfl
    rw [hp]
    have g0 : ∀ X : Option β, gd (decide ((0 : Int) ≤ (w : Int))) X = X := fun X => gd_true (decide_eq_true (by omega))
    have g1 : ∀ X : Option β, gd (decide ((w : Int) < (T.length : Int))) X = X := fun X => gd_true (decide_eq_true (by omega))
    simp only [g0, g1, gd_tt]
    have ga := hg a
    have gi := hg i
    cases o with
    | true =>
      simp only [cond_true] at ih ⊢
      rw [show ((38 : Int) == 124) = false from rfl, cond_false]
      by_cases e0 : 1 ≤ gt T i
      · rw [decide_eq_true e0, Bool.true_and, cond_true]
        by_cases e1 : gt T a + gt T i = gt T w
        · have hilt : gt T i < gt T w := by omega
          rw [show (gt T a + gt T i == gt T w) = true by simp [e1], cond_true, decide_eq_true e1, Bool.true_and]
          by_cases e2 : a &&& i = w
          · rw [show (((a &&& i : Nat) : Int) == (w : Int)) = true by simp [e2], show (a &&& i == w) = true by simp [e2], cond_true, cond_true, hs a ha ha1 ha2, hs i (by omega) e0 hilt]
            show gd (decide ((B [38]).size + (B (g a)).size ≤ 9223372036854775807)) (gd (decide ((B [38] ++ B (g a)).size + (B (g i)).size ≤ 9223372036854775807)) (k0 (B [38] ++ B (g a) ++ B (g i)))) = _
            rw [gs2 _ _ (by simp only [List.length_cons, List.length_nil]; omega), B_app, gs2 _ _ (by simp only [List.length_append, List.length_cons, List.length_nil]; omega), B_app]
            rfl
          · rw [show (((a &&& i : Nat) : Int) == (w : Int)) = false by rw [beq_eq_false_iff_ne]; omega, show (a &&& i == w) = false by simp [e2], cond_false, cond_false]
            exact ih
        · rw [show (gt T a + gt T i == gt T w) = false by rw [beq_eq_false_iff_ne]; exact e1, cond_false, decide_eq_false e1, Bool.false_and, cond_false]
          exact ih
      · rw [decide_eq_false e0, Bool.false_and, Bool.false_and, cond_false, cond_false]
        exact ih
    | false =>
      simp only [cond_false] at ih ⊢
      rw [show ((124 : Int) == 124) = true from rfl, cond_true]
      by_cases e0 : 1 ≤ gt T i
      · rw [decide_eq_true e0, Bool.true_and, cond_true]
        by_cases e1 : gt T a + gt T i = gt T w
        · have hilt : gt T i < gt T w := by omega
          rw [show (gt T a + gt T i == gt T w) = true by simp [e1], cond_true, decide_eq_true e1, Bool.true_and]
          by_cases e2 : a ||| i = w
          · rw [show (((a ||| i : Nat) : Int) == (w : Int)) = true by simp [e2], show (a ||| i == w) = true by simp [e2], cond_true, cond_true, hs a ha ha1 ha2, hs i (by omega) e0 hilt]
            show gd (decide ((B [124]).size + (B (g a)).size ≤ 9223372036854775807)) (gd (decide ((B [124] ++ B (g a)).size + (B (g i)).size ≤ 9223372036854775807)) (k0 (B [124] ++ B (g a) ++ B (g i)))) = _
            rw [gs2 _ _ (by simp only [List.length_cons, List.length_nil]; omega), B_app, gs2 _ _ (by simp only [List.length_append, List.length_cons, List.length_nil]; omega), B_app]
            rfl
          · rw [show (((a ||| i : Nat) : Int) == (w : Int)) = false by rw [beq_eq_false_iff_ne]; omega, show (a ||| i == w) = false by simp [e2], cond_false, cond_false]
            exact ih
        · rw [show (gt T a + gt T i == gt T w) = false by rw [beq_eq_false_iff_ne]; exact e1, cond_false, decide_eq_false e1, Bool.false_and, cond_false]
          exact ih
      · rw [decide_eq_false e0, Bool.false_and, Bool.false_and, cond_false, cond_false]
        exact ih
end
end Go.Proofs.YtemihnclhcobnaaGreatDoor
namespace Go.Proofs.YtemihnclhcobnaaGreatDoor
open Go.Rv
set_option linter.unusedVariables false
set_option linter.unusedSimpArgs false
variable {β : Type}
def okT (n m v : Nat) : Bool := decide (m < 2 ^ n) && (v &&& m == v)
def GoodT (n : Nat) (t : Nat × Nat) : Prop := okT n t.1 t.2 = true ∧ t.1 < 32 ∧ t.2 < 32
def Ts (n : Nat) (o : List (Nat × Nat)) : Prop := ∀ t ∈ o, GoodT n t
def ft (m v : Nat) : Nat → List UInt8
  | 0 => []
  | i + 1 => ft m v i ++ cond (m.testBit i) (cond (v.testBit i) [UInt8.ofNat (97 + i)] [33, UInt8.ofNat (97 + i)]) []
def ftb (n m v : Nat) : List UInt8 := cond (okT n m v) (cond (ft m v n == []) [49] (ft m v n)) []
def wordsT (n : Nat) (o : List (Nat × Nat)) : List (List UInt8) := o.map fun t => ftb n t.1 t.2
def fsum (n : Nat) (o : List (Nat × Nat)) : List UInt8 := cond (o.length == 0) [48] (Lib.join (wordsT n o) [124])
theorem join_len_le (c : UInt8) (b : Nat) : ∀ l : List (List UInt8), (∀ x ∈ l, x.length ≤ b) → (Lib.join l [c]).length ≤ (b + 1) * l.length
  | [], _ => by simp [Lib.join]
  | x :: l, h => by
    rw [Lib.join_cons, List.length_append, Lib.joinTail_length]
    have h1 := h x (by simp)
    have h2 : ∀ l : List (List UInt8), (∀ x ∈ l, x.length ≤ b) → Lib.lens l ≤ b * l.length := by
      intro l
      induction l with
      | nil => intro _; simp [Lib.lens]
      | cons y l ih =>
        intro h
        have e1 := h y (by simp)
        have e2 := ih fun z hz => h z (by simp [hz])
        simp only [Lib.lens, List.map_cons, List.sum_cons, List.length_cons] at e2 ⊢
        rw [Nat.mul_add, Nat.mul_one]
        omega
    have h3 := h2 l fun z hz => h z (by simp [hz])
    simp only [List.length_cons, List.length_nil]
    have e3 : (b + 1) * (l.length + 1) = b * l.length + l.length + b + 1 := by rw [Nat.add_mul, Nat.one_mul, Nat.mul_add, Nat.mul_one]; omega
    rw [e3]
    omega
def scn : List UInt8 → Bool → Nat → Nat → Nat × Nat
  | [], _, m, v => (m, v)
  | b :: l, f, m, v =>
    if b.toNat = 33 then scn l true m v
    else if 97 ≤ b.toNat ∧ b.toNat < 102 then scn l false (m ||| 2 ^ (b.toNat - 97)) (cond f v (v ||| 2 ^ (b.toNat - 97)))
    else scn l f m v
def ptm (n : Nat) (l : List UInt8) : Option (Nat × Nat) :=
  if l = [49] then some (0, 0) else if l = [] then none else if ftb n (scn l false 0 0).1 (scn l false 0 0).2 = l then some (scn l false 0 0) else none
theorem ftb_all : ∀ n : Nat, n ≤ 4 → ∀ m : Nat, m < 2 ^ n → ∀ v : Nat, v < 2 ^ n → (!(v &&& m == v) || (decide (0 < (ftb n m v).length) && decide ((ftb n m v).length ≤ 10) && !(ftb n m v).contains 124 && !(ftb n m v).contains 48 && (ptm n (ftb n m v) == some (m, v)))) = true := by decide +kernel
theorem ftb_good {n : Nat} (hn : n ≤ 4) {t : Nat × Nat} (h : GoodT n t) : 0 < (ftb n t.1 t.2).length ∧ (ftb n t.1 t.2).length ≤ 10 ∧ (124 : UInt8) ∉ ftb n t.1 t.2 ∧ (48 : UInt8) ∉ ftb n t.1 t.2 ∧ ptm n (ftb n t.1 t.2) = some t := by
  obtain ⟨h1, -, -⟩ := h
  unfold okT at h1
  rw [Bool.and_eq_true, decide_eq_true_eq] at h1
  have hle : t.2 ≤ t.1 := by rw [← eq_of_beq h1.2]; exact Nat.and_le_right
  have h2 := ftb_all n hn t.1 h1.1 t.2 (by omega)
  rw [h1.2, Bool.not_true, Bool.false_or] at h2
  simp only [Bool.and_eq_true, decide_eq_true_eq, Bool.not_eq_true'] at h2
  obtain ⟨⟨⟨⟨a1, a2⟩, a3⟩, a4⟩, a5⟩ := h2
  refine ⟨a1, a2, fun h => ?_, fun h => ?_, eq_of_beq a5⟩
  · rw [List.contains_iff_mem.2 h] at a3; cases a3
  · rw [List.contains_iff_mem.2 h] at a4; cases a4
theorem words_le {n : Nat} (hn : n ≤ 4) {o : List (Nat × Nat)} (hg : Ts n o) : ∀ x ∈ wordsT n o, 0 < x.length ∧ x.length ≤ 10 ∧ (124 : UInt8) ∉ x ∧ (48 : UInt8) ∉ x := by
  intro x hx
  obtain ⟨t, ht, rfl⟩ := List.mem_map.1 hx
  obtain ⟨a1, a2, a3, a4, -⟩ := ftb_good hn (hg t ht)
  exact ⟨a1, a2, a3, a4⟩
theorem wordsT_len (n : Nat) (o : List (Nat × Nat)) : (wordsT n o).length = o.length := by simp [wordsT]
theorem joinT_len {n : Nat} (hn : n ≤ 4) {o : List (Nat × Nat)} (hg : Ts n o) : (Lib.join (wordsT n o) [124]).length ≤ 11 * o.length := by
  have h := join_len_le 124 10 (wordsT n o) fun x hx => (words_le hn hg x hx).2.1
  rw [wordsT_len] at h
  exact h
def tl (l : List (Nat × Nat)) : List (Int × Int) := l.map fun p => ((p.1 : Int), (p.2 : Int))
theorem tl_len (l : List (Nat × Nat)) : (tl l).length = l.length := by simp [tl]
theorem rd_tl (o : List (Nat × Nat)) (i : Nat) (h : i < o.length) : rd (0, 0) (tl o) (i : Int) = ((o[i].1 : Int), (o[i].2 : Int)) := by
  simp [rd, tl, List.getD_eq_getElem?_getD, List.getElem?_eq_getElem h]
theorem sz5 : ∀ n : Nat, n ≤ 5 → 1 ≤ 2 ^ n ∧ 2 ^ n ≤ 32 := by decide +kernel
theorem and_sm : ∀ v : Nat, v < 32 → ∀ m : Nat, m < 32 → (bits .and .i64 (v : Int) (m : Int) == (v : Int)) = (v &&& m == v) := by decide +kernel
theorem spec_IsTerm_n (N n m v : Nat) (hn : n ≤ 5) (hm : m < 32) (hv : v < 32) (K : Bool → Option β) : zj35 N (n : Int) (m : Int) (v : Int) K = K (okT n m v) := by
  have hs := sz5 n hn
  unfold zj35 zb35 okT
  rw [spec_l1In_eq, decide_eq_true (by omega : (0 : Int) ≤ (n : Int)), decide_eq_true (by omega : (n : Int) ≤ 5), Bool.and_self, cond_true, gd_true rfl, shl_one n (by omega), w64_id (by omega) (by omega), spec_l1In_eq, decide_eq_true (by omega : (0 : Int) ≤ (m : Int)), Bool.true_and]
  by_cases h : m < 2 ^ n
  · rw [decide_eq_true (by omega), decide_eq_true h, cond_true, spec_l1In_eq, decide_eq_true (by omega : (0 : Int) ≤ (v : Int)), Bool.true_and, and_sm v hv m hm, Bool.true_and]
    cases hvm : (v &&& m == v) with
    | true =>
      have : v ≤ m := by rw [← eq_of_beq hvm]; exact Nat.and_le_right
      rw [decide_eq_true (by omega)]; rfl
    | false => cases decide ((v : Int) ≤ (m : Int)) <;> rfl
  · rw [decide_eq_false (by omega), decide_eq_false h]; rfl
theorem spec_valid (N : Nat) (hN : 1048576 < N) (n : Nat) (hn : n ≤ 5) (o : List (Nat × Nat)) (ho : o.length ≤ 1000) (hg : ∀ t ∈ o, GoodT n t) (K : Bool → Option β) : zj64 N (n : Int) (tl o) K = K (decide ((o.length : Int) ≤ 40)) := by
  unfold zj64 zb64
  refine loop_st (fun F i => zj63 N F (n : Int) (tl o) (i : Int) (fun e => K e) fun e0 e1 => zj25 N e0 0 5 fun r6 => cond r6 (K (decide ((e1.length : Int) ≤ 40))) (K false)) o.length _ (fun F i hi => ?_) (fun F => ?_) N 0 (by omega) (by omega)
  · obtain ⟨h1, h2, h3⟩ := hg o[i] (List.getElem_mem hi)
    simp only [zj63, zj62, zb62, tl_len, rd_tl o i hi]
    rw [decide_eq_true (by omega : (i : Int) < (o.length : Int)), cond_true, gd_true (decide_eq_true (by omega)), gd_true rfl, spec_IsTerm_n N n _ _ hn h2 h3, h1, Bool.not_true, cond_false, w64_succ i (by omega)]
  · simp only [zj63, zj62, zb62, tl_len]
    rw [decide_eq_false (by omega), cond_false, spec_l1In_eq, decide_eq_true (by omega : (0 : Int) ≤ (n : Int)), decide_eq_true (by omega : (n : Int) ≤ 5)]
    rfl
theorem join_snoc (sep y : List UInt8) : ∀ l : List (List UInt8), Lib.join (l ++ [y]) sep = if l = [] then y else Lib.join l sep ++ sep ++ y
  | [] => by rw [if_pos rfl, List.nil_append, Lib.join_cons]; simp [Lib.joinTail]
  | x :: l => by
    rw [if_neg (by simp), List.cons_append, Lib.join_cons, Lib.join_cons]
    simp [Lib.joinTail]
theorem ft_len (m v : Nat) : ∀ i, (ft m v i).length ≤ 2 * i
  | 0 => Nat.le_refl _
  | i + 1 => by
    have := ft_len m v i
    simp only [ft, List.length_append]
    cases m.testBit i <;> cases v.testBit i <;> simp <;> omega
theorem bit0 (w y : Nat) (hw : w < 32) : (bits .and .i64 (shrI .i64 (w : Int) (y : Int)) 1 == 0) = !w.testBit y := by
  rw [bit_at w y (by omega)]
  cases w.testBit y <;> rfl
theorem letters_size : (((strOf [97, 98, 99, 100, 101]).size : Nat) : Int) = 5 := by decide +kernel
theorem letter_ext : ∀ i, i < 5 → (strOf [97, 98, 99, 100, 101]).extract i (i + 1) = B [UInt8.ofNat (97 + i)] := by decide +kernel
theorem spec_FormatTerm_n (N : Nat) (hN : 1048576 < N) (n m v : Nat) (hn : n ≤ 5) (hm : m < 32) (hv : v < 32) (K : ByteArray → Option β) : zj38 N (n : Int) (m : Int) (v : Int) K = K (B (ftb n m v)) := by
  unfold zj38 zb38 ftb
  have he : (B ([] : List UInt8)).toList = [] := B_toList _
  cases hok : okT n m v with
  | false =>
    obtain ⟨G, rfl⟩ : ∃ G, N = G + 1 := ⟨N - 1, by omega⟩
    simp only [zj37, zj36, zb36]
    rw [spec_IsTerm_n _ n m v hn hm hv, hok, cond_false, beq_self_eq_true, cond_true, spec_IsTerm_n _ n m v hn hm hv, hok]
    rfl
  | true =>
    have main := loop_st (fun F i => zj37 N F (n : Int) (B (ft m v i)) (i : Int) (m : Int) (v : Int) fun e0 e1 e2 e3 => cond (e1.toList == ByteArray.empty.toList) (zj35 N e0 e2 e3 fun r6 => cond r6 (K (strOf [49])) (K e1)) (K e1)) n
      (K (B (cond (ft m v n == []) [49] (ft m v n)))) (fun F i hi => ?_) (fun F => ?_) N 0 (by omega) (by omega)
    · exact main
    · have hl := ft_len m v i
      simp only [zj37, zj36, zb36]
      rw [spec_IsTerm_n N n m v hn hm hv, hok, cond_true, decide_eq_true (by omega : (i : Int) < (n : Int)), cond_true, gd_true (decide_eq_true (by omega)), bit0 m i hm, bit0 v i hv, w64_succ i (by omega), letters_size, Int.toNat_natCast, Int.toNat_natCast, letter_ext i (by omega)]
      simp only [B_strOf, B_app, B_size, List.map_cons, List.map_nil, ft]
      cases m.testBit i with
      | false => rw [Bool.not_false, cond_true, cond_false, List.append_nil]
      | true =>
        rw [Bool.not_true, cond_false, gd_true (decide_eq_true (by omega)), cond_true]
        cases v.testBit i with
        | false =>
          rw [Bool.not_false, cond_true, gd_true (decide_eq_true (by simp; omega)), gd_true (decide_eq_true (by omega)), gd_true (decide_eq_true (by omega)), gd_true (decide_eq_true (by omega)), gd_true (decide_eq_true (by omega)), gd_true (decide_eq_true (by simp; omega)), cond_false]
          simp only [List.append_assoc]
          rfl
        | true =>
          rw [Bool.not_true, cond_false, gd_true (decide_eq_true (by omega)), gd_true (decide_eq_true (by omega)), gd_true (decide_eq_true (by omega)), gd_true (decide_eq_true (by omega)), gd_true (decide_eq_true (by simp; omega)), cond_true]
    · simp only [zj37, zj36, zb36]
      rw [spec_IsTerm_n N n m v hn hm hv, hok, cond_true, decide_eq_false (by omega), cond_false, B_toList, show ByteArray.empty.toList = [] from he, spec_IsTerm_n N n m v hn hm hv, hok, cond_true]
      cases ft m v n == [] <;> rfl
theorem join_pos {n : Nat} (hn : n ≤ 4) : ∀ {o : List (Nat × Nat)}, Ts n o → (Lib.join (wordsT n o) [124] = [] ↔ o = []) := by
  intro o
  cases o with
  | nil => exact fun _ => ⟨fun _ => rfl, fun _ => rfl⟩
  | cons t o =>
    intro hg
    have h := (ftb_good hn (hg t List.mem_cons_self)).1
    constructor
    · intro e
      unfold wordsT at e
      rw [List.map_cons, Lib.join_cons] at e
      rw [List.append_eq_nil_iff] at e
      rw [e.1] at h
      cases h
    · intro e; cases e
theorem spec_FormatSum_n (N : Nat) (hN : 1048576 < N) (n : Nat) (hn : n ≤ 4) (o : List (Nat × Nat)) (ho : o.length ≤ 8) (hg : Ts n o) (K : ByteArray → Option β) : zj67 N (n : Int) (tl o) K = K (B (fsum n o)) := by
  unfold zj67 zb67
  have hv := fun K => spec_valid (β := β) N hN n (by omega) o (by omega) hg K
  rw [decide_eq_true (by omega : (o.length : Int) ≤ 40)] at hv
  refine loop_st (fun F i => zj66 N F (n : Int) (tl o) (B (Lib.join (wordsT n (o.take i)) [124])) (i : Int) fun e0 e1 e2 => cond (e2.toList == ByteArray.empty.toList) (zj64 N e0 e1 fun r7 => cond r7 (K (strOf [48])) (K e2)) (K e2)) o.length _ (fun F i hi => ?_) (fun F => ?_) N 0 (by omega) (by omega)
  · obtain ⟨g1, g2, g3⟩ := hg o[i] (List.getElem_mem hi)
    have hT : Ts n (o.take i) := fun t ht => hg t (List.mem_of_mem_take ht)
    have hl := joinT_len hn hT
    rw [List.length_take] at hl
    obtain ⟨a1, a2, -⟩ := ftb_good hn (hg o[i] (List.getElem_mem hi))
    have e : Lib.join (wordsT n (o.take (i + 1))) [124] = if wordsT n (o.take i) = [] then ftb n o[i].1 o[i].2 else Lib.join (wordsT n (o.take i)) [124] ++ [124] ++ ftb n o[i].1 o[i].2 := by
      rw [← join_snoc]
      congr 1
      unfold wordsT
      rw [List.take_add_one, List.getElem?_eq_getElem hi, List.map_append]
      rfl
    have hwl : (wordsT n (o.take i)).length = i := by rw [wordsT_len, List.length_take]; omega
    simp only [zj66, zj65, zb65, tl_len, rd_tl o i hi]
    rw [decide_eq_true (by omega : (i : Int) < (o.length : Int)), cond_true, hv, cond_true, w64_succ i (by omega), e]
    by_cases h0 : i = 0
    · subst h0
      rw [if_pos (by exact List.length_eq_zero_iff.1 hwl), decide_eq_false (by omega : ¬ ((0 : Nat) : Int) > 0), cond_false, gd_true (decide_eq_true (by omega)), gd_true rfl, spec_FormatTerm_n N hN n _ _ (by omega) g2 g3, List.take_zero, show Lib.join (wordsT n []) [124] = [] from rfl, gd_true (decide_eq_true (by rw [B_size, B_size, List.length_nil]; omega)), B_app, List.nil_append]
    · rw [if_neg (by intro e; rw [e] at hwl; exact h0 hwl.symm), decide_eq_true (by omega : (i : Int) > 0), cond_true, show strOf [124] = B [124] from B_strOf _, gd_true (decide_eq_true (by rw [B_size, B_size]; simp; omega)), gd_true (decide_eq_true (by omega)), gd_true rfl, spec_FormatTerm_n N hN n _ _ (by omega) g2 g3, B_app, gd_true (decide_eq_true (by rw [B_size, B_size, List.length_append]; simp; omega)), B_app]
  · simp only [zj66, zj65, zb65, tl_len]
    rw [decide_eq_false (by omega : ¬ (o.length : Int) < (o.length : Int)), cond_false, List.take_length, B_nil, B_toList, B_toList, hv, cond_true]
    unfold fsum
    have h := join_pos hn hg
    cases o with
    | nil => rw [B_strOf]; rfl
    | cons t o =>
      have hne : Lib.join (wordsT n (t :: o)) [124] ≠ [] := fun e => by cases h.1 e
      rw [beq_eq_false_iff_ne.2 hne]
      rfl
def anyTo (p : Nat → Bool) : Nat → Bool
  | 0 => false
  | m + 1 => anyTo p m || p m
def imp (n w m v : Nat) : Bool := !anyTo (fun x => (x &&& m == v) && !w.testBit x) (2 ^ n) && anyTo (fun x => (x &&& m == v) && w.testBit x) (2 ^ n)
def off (m i : Nat) : Nat := m ^^^ (m &&& 2 ^ i)
def prm (n w m v : Nat) : Bool := imp n w m v && !anyTo (fun i => m.testBit i && imp n w (off m i) (off v i)) n
theorem and_smT : ∀ x : Nat, x < 32 → ∀ m : Nat, m < 32 → bits .and .i64 (x : Int) (m : Int) = ((x &&& m : Nat) : Int) := by decide +kernel
theorem isImplicant_n (N : Nat) (hN : 1048576 < N) (n w m v : Nat) (hn : n ≤ 4) (hw : w < 2 ^ 63) (hm : m < 32) (K : Bool → Option β) : zj117 N (n : Int) (w : Int) (m : Int) (v : Int) K = K (imp n w m v) := by
  have hs : 2 ^ n ≤ 16 := (Nat.pow_le_pow_right (by decide) hn : 2 ^ n ≤ 2 ^ 4)
  have hz0 : (0 : Int) ≤ ((2 ^ n : Nat) : Int) := Int.natCast_nonneg _
  unfold zj117 zb117 zj116 zb116 zj1 zb1
  rw [gd_true (decide_eq_true (by omega)), shl_one n (by omega)]
  refine loop_st (fun F x => zj115 N F (m : Int) (v : Int) ((2 ^ n : Nat) : Int) (x : Int) (n : Int) (w : Int) (anyTo (fun x => (x &&& m == v) && !w.testBit x) x) (anyTo (fun x => (x &&& m == v) && w.testBit x) x) fun e7_0 e7_1 => cond e7_0 (cond e7_1 (K ((2 : Int) == 1)) (cond e7_1 (K ((1 : Int) == 1)) (K ((0 : Int) == 1)))) (cond e7_1 (K ((1 : Int) == 1)) (K ((0 : Int) == 1)))) (2 ^ n) _ (fun F x hx => ?_) (fun F => ?_) N 0 (by omega) (by omega)
  · simp only [zj115, zj114, zb114, zj2, zb2]
    rw [decide_eq_true (by omega : (x : Int) < ((2 ^ n : Nat) : Int)), cond_true, and_smT x (by omega) m hm, natb, gd_true (decide_eq_true (by omega)), bit_at w x (by omega), w64_succ x (by omega)]
    simp only [anyTo]
    cases hc : (x &&& m == v) with
    | false => simp only [cond_false, Bool.false_and, Bool.or_false]
    | true =>
      cases hb : w.testBit x with
      | true => simp only [cond_true, if_true, Bool.true_and, Bool.not_true, Bool.or_false, Bool.or_true]; rfl
      | false => simp only [cond_true, Bool.false_eq_true, if_false, Bool.true_and, Bool.not_false, Bool.or_false, Bool.or_true]; rfl
  · simp only [zj115, zj114, zb114]
    rw [decide_eq_false (by omega : ¬ ((2 ^ n : Nat) : Int) < ((2 ^ n : Nat) : Int)), cond_false]
    unfold imp
    cases anyTo (fun x => (x &&& m == v) && !w.testBit x) (2 ^ n) <;> cases anyTo (fun x => (x &&& m == v) && w.testBit x) (2 ^ n) <;> rfl
theorem off_in : ∀ m : Nat, m < 32 → ∀ i : Nat, i < 5 → bits .andNot .i64 (m : Int) (shlI .i64 1 (i : Int)) = (off m i : Int) ∧ off m i < 32 ∧ (bits .and .i64 (m : Int) (shlI .i64 1 (i : Int)) != 0) = m.testBit i := by decide +kernel
theorem anyTo_iff {p : Nat → Bool} : ∀ {m : Nat}, anyTo p m = true ↔ ∃ i, i < m ∧ p i = true
  | 0 => ⟨(fun h => by cases h), (fun ⟨j, h, _⟩ => by omega)⟩
  | m + 1 => by
    rw [anyTo, Bool.or_eq_true, anyTo_iff (m := m)]
    constructor
    · rintro (⟨i, h1, h2⟩ | h)
      · exact ⟨i, by omega, h2⟩
      · exact ⟨m, by omega, h⟩
    · rintro ⟨i, h1, h2⟩
      rcases Nat.lt_or_ge i m with h | h
      · exact Or.inl ⟨i, h, h2⟩
      · have : i = m := by omega
        subst this
        exact Or.inr h2
theorem isPrime_n (N : Nat) (hN : 1048576 < N) (n w m v : Nat) (hn : n ≤ 4) (hw : w < 2 ^ 63) (hm : m < 32) (hv : v < 32) (K : Bool → Option β) : zj120 N (n : Int) (w : Int) (m : Int) (v : Int) K = K (prm n w m v) := by
  unfold zj120 zb120 prm
  rw [isImplicant_n N hN n w m v hn hw hm]
  cases imp n w m v with
  | false => rfl
  | true =>
    rw [Bool.not_true, cond_false, Bool.true_and]
    have key : ∀ (d i F : Nat), n - i = d → i ≤ n → d < F → anyTo (fun i => m.testBit i && imp n w (off m i) (off v i)) i = false → zj119 N F (n : Int) (i : Int) (n : Int) (w : Int) (m : Int) (v : Int) (fun e => K e) (K true) = K (!anyTo (fun i => m.testBit i && imp n w (off m i) (off v i)) n) := by
      intro d
      induction d with
      | zero =>
        intro i F hd hi hF ha
        obtain ⟨G, rfl⟩ : ∃ G, F = G + 1 := ⟨F - 1, by omega⟩
        simp only [zj119, zj118, zb118]
        rw [decide_eq_false (by omega), cond_false]
        have e : i = n := by omega
        subst e
        rw [ha]
        rfl
      | succ d ih =>
        intro i F hd hi hF ha
        obtain ⟨G, rfl⟩ : ∃ G, F = G + 1 := ⟨F - 1, by omega⟩
        obtain ⟨c1, c2, c3⟩ := off_in m hm i (by omega)
        obtain ⟨c4, c5, -⟩ := off_in v hv i (by omega)
        simp only [zj119, zj118, zb118]
        rw [decide_eq_true (by omega : (i : Int) < (n : Int)), cond_true, gd_true (decide_eq_true (by omega)), c3, c1, c4, isImplicant_n N hN n w _ _ hn hw c2, w64_succ i (by omega)]
        have next := ih (i + 1) G (by omega) (by omega) (by omega)
        cases hb : m.testBit i with
        | false => exact next (by rw [anyTo, ha, hb]; rfl)
        | true =>
          cases hp : imp n w (off m i) (off v i) with
          | false => exact next (by rw [anyTo, ha, hb, hp]; rfl)
          | true =>
            have : anyTo (fun i => m.testBit i && imp n w (off m i) (off v i)) n = true := anyTo_iff.2 ⟨i, by omega, by rw [hb, hp]; rfl⟩
            rw [this]
            rfl
    exact key n 0 N (by omega) (by omega) (by omega) rfl
def prr (n w m : Nat) : Nat → List (Nat × Nat)
  | 0 => []
  | v + 1 => prr n w m v ++ cond ((v &&& m == v) && prm n w m v) [(m, v)] []
def prl (n w : Nat) : Nat → List (Nat × Nat)
  | 0 => []
  | m + 1 => prl n w m ++ prr n w m (m + 1)
theorem prr_mem (n w m : Nat) (t : Nat × Nat) : ∀ k, t ∈ prr n w m k ↔ ∃ v, v < k ∧ (v &&& m == v) = true ∧ prm n w m v = true ∧ t = (m, v)
  | 0 => ⟨(fun h => by cases h), (fun ⟨j, h, _⟩ => by omega)⟩
  | k + 1 => by
    rw [prr, List.mem_append, prr_mem n w m t k]
    constructor
    · rintro (⟨v, h1, h2⟩ | h)
      · exact ⟨v, by omega, h2⟩
      · cases hc : ((k &&& m == k) && prm n w m k) with
        | false => rw [hc] at h; cases h
        | true =>
          rw [hc] at h
          rw [Bool.and_eq_true] at hc
          exact ⟨k, by omega, hc.1, hc.2, List.mem_singleton.1 h⟩
    · rintro ⟨v, h1, h2, h3, h4⟩
      rcases Nat.lt_or_ge v k with h | h
      · exact Or.inl ⟨v, h, h2, h3, h4⟩
      · have : v = k := by omega
        subst this
        refine Or.inr ?_
        rw [h2, h3]
        exact List.mem_singleton.2 h4
theorem prl_mem (n w : Nat) (t : Nat × Nat) : ∀ k, t ∈ prl n w k ↔ ∃ m, m < k ∧ ∃ v, v < m + 1 ∧ (v &&& m == v) = true ∧ prm n w m v = true ∧ t = (m, v)
  | 0 => ⟨(fun h => by cases h), (fun ⟨j, h, _⟩ => by omega)⟩
  | k + 1 => by
    rw [prl, List.mem_append, prl_mem n w t k, prr_mem]
    constructor
    · rintro (⟨v, h1, h2⟩ | h)
      · exact ⟨v, by omega, h2⟩
      · exact ⟨k, by omega, h⟩
    · rintro ⟨v, h1, h2⟩
      rcases Nat.lt_or_ge v k with h | h
      · exact Or.inl ⟨v, h, h2⟩
      · have : v = k := by omega
        subst this
        exact Or.inr h2
theorem prl_good (n w : Nat) (hn : n ≤ 4) : Ts n (prl n w (2 ^ n)) := by
  have hs : 2 ^ n ≤ 16 := (Nat.pow_le_pow_right (by decide) hn : 2 ^ n ≤ 2 ^ 4)
  intro t ht
  obtain ⟨m, h1, v, h2, h3, h4, rfl⟩ := (prl_mem n w t _).1 ht
  refine ⟨?_, by dsimp only; omega, by dsimp only; omega⟩
  unfold okT
  dsimp only
  rw [decide_eq_true h1, h3]
  rfl
theorem prr_len (n w m : Nat) : ∀ v, (prr n w m v).length ≤ v
  | 0 => Nat.le_refl _
  | v + 1 => by
    have := prr_len n w m v
    rw [prr, List.length_append]
    cases ((v &&& m == v) && prm n w m v) <;> simp <;> omega
theorem prl_len (n w : Nat) : ∀ m, m ≤ 16 → (prl n w m).length ≤ 17 * m
  | 0, _ => Nat.le_refl _
  | m + 1, h => by
    have h1 := prl_len n w m (by omega)
    have h2 := prr_len n w m (m + 1)
    rw [prl, List.length_append]
    omega
theorem off_lt : ∀ m : Nat, m < 32 → ∀ i : Nat, i < 5 → m.testBit i = true → off m i < m := by decide +kernel
theorem off_ok : ∀ i : Nat, i < 5 → ∀ m : Nat, m < 32 → ∀ v : Nat, v < 32 → (!(v &&& m == v) || (off v i &&& off m i == off v i)) = true := by decide +kernel
theorem off_and : ∀ i : Nat, i < 5 → ∀ m : Nat, m < 32 → ∀ x : Nat, x < 32 → x &&& off m i = off (x &&& m) i := by decide +kernel
theorem extend (n w : Nat) (hn : n ≤ 4) : ∀ (k m v : Nat), m < k → m < 2 ^ n → (v &&& m == v) = true → imp n w m v = true → ∃ m' v', m' < 2 ^ n ∧ (v' &&& m' == v') = true ∧ prm n w m' v' = true ∧ ∀ x, x < 32 → x &&& m = v → x &&& m' = v' := by
  have hs : 2 ^ n ≤ 16 := (Nat.pow_le_pow_right (by decide) hn : 2 ^ n ≤ 2 ^ 4)
  intro k
  induction k with
  | zero => intro m v h; omega
  | succ k ih =>
    intro m v hk hm hv hi
    cases ha : anyTo (fun i => m.testBit i && imp n w (off m i) (off v i)) n with
    | false => exact ⟨m, v, hm, hv, by unfold prm; rw [hi, ha]; rfl, fun x _ h => h⟩
    | true =>
      obtain ⟨i, h1, h2⟩ := anyTo_iff.1 ha
      rw [Bool.and_eq_true] at h2
      have h3 := off_lt m (by omega) i (by omega) h2.1
      have hvm : v ≤ m := by rw [← eq_of_beq hv]; exact Nat.and_le_right
      have h4 := off_ok i (by omega) m (by omega) v (by omega)
      rw [hv, Bool.not_true, Bool.false_or] at h4
      obtain ⟨m', v', g1, g2, g3, g4⟩ := ih (off m i) (off v i) (by omega) (by omega) h4 h2.2
      exact ⟨m', v', g1, g2, g3, fun x hx h => g4 x hx (by rw [off_and i (by omega) m (by omega) x hx, h])⟩
theorem tabw_step (g : Nat → Bool) (i : Nat) (hi : i < 32) : bits .or .i64 (tabw g i : Int) (shlI .i64 1 (i : Int)) = ((tabw g i ||| 2 ^ i : Nat) : Int) := by
  have hw : tabw g i < 2 ^ 63 := Nat.lt_of_lt_of_le (tabw_lt g i) (Nat.pow_le_pow_right (by decide) (by omega))
  rw [shl_one i (by omega), bOr _ _ hw (Nat.pow_lt_pow_right (by decide) (by omega))]
theorem tabw_yes {g : Nat → Bool} {i : Nat} (h : g i = true) : tabw g (i + 1) = tabw g i ||| 2 ^ i := by simp [tabw, h]
theorem tabw_no {g : Nat → Bool} {i : Nat} (h : g i = false) : tabw g (i + 1) = tabw g i := by simp [tabw, h]
theorem spec_l6Word_n (N : Nat) (hN : 1048576 < N) (n m v : Nat) (hn : n ≤ 5) (hm : m < 32) (K : Int → Option β) : zj44 N (n : Int) (m : Int) (v : Int) K = K (tabw (fun x => x &&& m == v) (2 ^ n) : Int) := by
  have hs := size_le hn
  have hz : (0 : Int) ≤ ((2 ^ n : Nat) : Int) := Int.natCast_nonneg _
  unfold zj44 zb44
  refine loop_st (fun F x => zj43 N F (n : Int) (tabw (fun x => x &&& m == v) x : Int) (x : Int) (m : Int) (v : Int) fun e => K e) (2 ^ n) _ (fun F x hx => ?_) (fun F => ?_) N 0 (by omega) (by omega)
  · simp only [zj43, zj42, zb42]
    rw [gd_true (decide_eq_true (by omega)), shl_one n (by omega), decide_eq_true (by omega : (x : Int) < ((2 ^ n : Nat) : Int)), cond_true, and_smT x (by omega) m hm, natb, gd_true (decide_eq_true (by omega)), w64_succ x (by omega), tabw_step _ x (by omega)]
    cases h : x &&& m == v with
    | true => rw [cond_true, tabw_yes (g := fun x => x &&& m == v) h]
    | false => rw [cond_false, tabw_no (g := fun x => x &&& m == v) h]
  · simp only [zj43, zj42, zb42]
    rw [gd_true (decide_eq_true (by omega)), shl_one n (by omega), decide_eq_false (by omega : ¬ ((2 ^ n : Nat) : Int) < ((2 ^ n : Nat) : Int)), cond_false]
theorem andNot_sm : ∀ v : Nat, v < 32 → ∀ m : Nat, m < 32 → (bits .andNot .i64 (v : Int) (m : Int) == 0) = (v &&& m == v) := by decide +kernel
theorem impl_IsTerm_n (N n m v : Nat) (hn : n ≤ 5) (hm : m < 32) (hv : v < 32) (K : Bool → Option β) : zj104 N (n : Int) (m : Int) (v : Int) K = K (okT n m v) := by
  have hs := sz5 n hn
  unfold zj104 zb104 zj96 zb96 zj103 zb103 okT
  rw [decide_eq_true (by omega : (n : Int) ≥ 0), decide_eq_true (by omega : (n : Int) ≤ 5), cond_true]
  dsimp only
  rw [cond_true, decide_eq_true (by omega : (m : Int) ≥ 0), cond_true, gd_true rfl, shl_one n (by omega)]
  rw [decide_eq_true (by omega : (v : Int) ≥ 0), cond_true, andNot_sm v hv m hm]
  by_cases h : m < 2 ^ n
  · rw [decide_eq_true (by omega), decide_eq_true h, cond_true, Bool.true_and]
  · rw [decide_eq_false (by omega), decide_eq_false h]; rfl
theorem impl_FormatTerm_n (N : Nat) (hN : 1048576 < N) (n m v : Nat) (hn : n ≤ 5) (hm : m < 32) (hv : v < 32) (K : ByteArray → Option β) : zj107 N (n : Int) (m : Int) (v : Int) K = K (B (ftb n m v)) := by
  unfold zj107 zb107 ftb
  rw [impl_IsTerm_n N n m v hn hm hv]
  cases hok : okT n m v with
  | false => rfl
  | true =>
    rw [Bool.not_true, cond_false]
    have main := loop_st (fun F i => zj106 N F (n : Int) (i : Int) (m : Int) (v : Int) ((ft m v i).map fun b => (b.toNat : Int)) fun e => cond ((e.length : Int) == 0) (K (strOf [49])) (K (strOf e))) n
      (K (B (cond (ft m v n == []) [49] (ft m v n)))) (fun F i hi => ?_) (fun F => ?_) N 0 (by omega) (by omega)
    · exact main
    · have hl := ft_len m v i
      have hw : w8 (97 + w8 (i : Int)) = ((97 + i : Nat) : Int) := by
        rw [w8_small i (by omega), show (97 : Int) + (i : Int) = ((97 + i : Nat) : Int) by omega, w8_small _ (by omega)]
      have hu : ((UInt8.ofNat (97 + i)).toNat : Int) = ((97 + i : Nat) : Int) := by
        rw [UInt8.toNat_ofNat']
        omega
      simp only [zj106, zj105, zb105]
      rw [decide_eq_true (by omega : (i : Int) < (n : Int)), cond_true, gd_true (decide_eq_true (by omega)), bit0 m i hm, bit0 v i hv, w64_succ i (by omega), hw]
      simp only [ft, List.map_append]
      cases m.testBit i with
      | false => rw [Bool.not_false, cond_true, cond_false, List.map_nil, List.append_nil]
      | true =>
        rw [Bool.not_true, cond_false, gd_true (decide_eq_true (by omega)), cond_true]
        cases v.testBit i with
        | false =>
          rw [Bool.not_false, cond_true, gd_true (decide_eq_true (by simp; omega)), gd_true (decide_eq_true (by simp; omega)), cond_false]
          simp only [List.map_cons, List.map_nil, hu, List.nil_append, List.append_assoc]
          rfl
        | true =>
          rw [Bool.not_true, cond_false, gd_true (decide_eq_true (by simp; omega)), cond_true]
          simp only [List.map_cons, List.map_nil, hu, List.nil_append]
    · simp only [zj106, zj105, zb105]
      rw [decide_eq_false (by omega), cond_false, B_strOf (List.map _ _), List.map_map]
      have : ((fun x : Int => UInt8.ofNat x.toNat) ∘ fun b : UInt8 => (b.toNat : Int)) = id := by
        funext b
        simp
      rw [this, List.map_id]
      cases hft : ft m v n with
      | nil => rfl
      | cons b l => rfl
theorem joinB_B_x (l : List (List UInt8)) (s : List UInt8) : joinB (l.map B) (B s) = B (Lib.join l s) := by
  unfold joinB B
  rw [List.map_map]
  have : ((fun x : ByteArray => x.data.toList) ∘ fun l : List UInt8 => (⟨l.toArray⟩ : ByteArray)) = id := by
    funext l
    simp
  rw [this]
  simp
theorem impl_joinTerms_n (N : Nat) (hN : 1048576 < N) (n : Nat) (hn : n ≤ 5) (o : List (Nat × Nat)) (ho : o.length ≤ 1000) (hg : ∀ t ∈ o, t.1 < 32 ∧ t.2 < 32 ∧ (ftb n t.1 t.2).length ≤ 10) (c : UInt8) (K : ByteArray → Option β) : zj110 N (n : Int) (tl o) (B [c]) K = K (B (Lib.join (wordsT n o) [c])) := by
  unfold zj110 zb110
  rw [gd_true (decide_eq_true (by omega)), gd_true (decide_eq_true (by omega)), tl_len, gd_true (decide_eq_true (by omega)), Int.toNat_natCast]
  have key := loop_st (fun F i => zj109 N F (n : Int) (B [c]) (tl o) (o.length : Int) (i : Int) (((wordsT n o).map B).take i ++ List.replicate (o.length - i) ByteArray.empty) fun e0 e1 => strings_Join N e1 e0 fun r6 => K r6) o.length (K (B (Lib.join (wordsT n o) [c]))) (fun F i hi => ?_) (fun F => ?_) N 0 (by omega) (by omega)
  · simpa using key
  · simp only [zj109, zj108, zb108]
    obtain ⟨h1, h2, h3⟩ := hg o[i] (List.getElem_mem hi)
    have htk : (((wordsT n o).map B).take i).length = i := by rw [List.length_take, List.length_map, wordsT_len]; omega
    rw [decide_eq_true (by omega : (i : Int) < (o.length : Int)), cond_true, gd_true (decide_eq_true (by omega)), tl_len, gd_true (decide_eq_true (by omega)), rd_tl o i hi, impl_FormatTerm_n N hN n _ _ hn h1 h2, gd_true (decide_eq_true (by omega)), gd_true (decide_eq_true (by rw [List.length_append, htk, List.length_replicate]; omega)), w64_succ i (by omega), show o.length - i = (o.length - (i + 1)) + 1 by omega, List.replicate_succ]
    have e := wr_mid (((wordsT n o).map B).take i) ByteArray.empty (B (ftb n o[i].1 o[i].2)) (List.replicate (o.length - (i + 1)) ByteArray.empty)
    rw [htk] at e
    rw [e]
    have e2 : ((wordsT n o).map B).take (i + 1) = ((wordsT n o).map B).take i ++ [B (ftb n o[i].1 o[i].2)] := by
      rw [List.take_add_one, List.getElem?_map]
      simp [wordsT, List.getElem?_eq_getElem hi]
    rw [e2]
    simp
  · simp only [zj109, zj108, zb108]
    rw [decide_eq_false (by omega : ¬ (o.length : Int) < (o.length : Int)), cond_false, Nat.sub_self, List.replicate_zero, List.append_nil, List.take_of_length_le (by rw [List.length_map, wordsT_len]; exact Nat.le_refl _)]
    unfold strings_Join
    have hb : ∀ x ∈ wordsT n o, x.length ≤ 10 := fun x hx => by
      obtain ⟨t, ht, rfl⟩ := List.mem_map.1 hx
      exact (hg t ht).2.2
    have hj := join_len_le c 10 _ hb
    rw [wordsT_len] at hj
    rw [joinB_B_x, gd_true (decide_eq_true (by rw [List.length_map, wordsT_len]; omega)), gd_true (decide_eq_true (by rw [B_size]; omega))]
def msl (p : Nat → Bool) : Nat → List (Nat × Nat)
  | 0 => []
  | m + 1 => msl p m ++ (if p m then [(m, m)] else [])
def anfT (n : Nat) (p : Nat → Bool) (m : Nat) : List UInt8 := Lib.join (wordsT n (msl p m)) [43]
def par (w m : Nat) : Nat → Bool
  | 0 => false
  | x + 1 => xor (par w m x) ((x &&& m == x) && w.testBit x)
def anfw (w n : Nat) : Nat := tabw (fun m => par w m (2 ^ n)) (2 ^ n)
def fanf (w n : Nat) : List UInt8 := cond (anfT n (anfw w n).testBit (2 ^ n) == []) [48] (anfT n (anfw w n).testBit (2 ^ n))
theorem andNot_smI (x m : Nat) (hx : x < 32) (hm : m < 32) : (bits .andNot .i64 (x : Int) (m : Int) == 0) = (x &&& m == x) := andNot_sm x hx m hm
theorem xor_bits : ∀ a b : Bool, bits .xor .i64 (a.toNat : Int) (b.toNat : Int) = ((xor a b).toNat : Int) := by decide
theorem impl_anf_n (N : Nat) (hN : 1048576 < N) (n w : Nat) (hn : n ≤ 5) (hw : w < 4294967296) (K : Int → Int → Option β) : zj102 N (n : Int) (w : Int) K = K (n : Int) (anfw w n : Int) := by
  have hs := size_le hn
  have hz : (0 : Int) ≤ ((2 ^ n : Nat) : Int) := Int.natCast_nonneg _
  unfold zj102 zb102
  rw [makeTable_eq N (by omega) n hn _ (fun m => par w m (2 ^ n)) (fun m k hm => ?_)]
  · rfl
  · unfold zj5 zb5
    rw [impl_Table_size_eq N n _ hn]
    have main := loop_st (fun F x => zj4 N F (m : Int) (n : Int) (w : Int) ((par w m x).toNat : Int) ((2 ^ n : Nat) : Int) (x : Int) fun e => k (e == 1)) (2 ^ n) (k (par w m (2 ^ n))) (fun F x hx => by
      simp only [zj4, zj3, zb3]
      rw [decide_eq_true (by omega : (x : Int) < ((2 ^ n : Nat) : Int)), cond_true, andNot_smI x m (by omega) (by omega), impl_Table_at_eq N w x _ hw, w64_succ x (by omega)]
      have e : (bw w x : Int) = ((w.testBit x).toNat : Int) := by unfold bw; cases w.testBit x <;> rfl
      rw [e, xor_bits]
      simp only [par]
      cases x &&& m == x <;> simp) (fun F => by
      simp only [zj4, zj3, zb3]
      rw [decide_eq_false (by omega), cond_false]
      cases par w m (2 ^ n) <;> rfl) N 0 (by omega) (by omega)
    exact main
theorem msl_len (p : Nat → Bool) : ∀ m, (msl p m).length ≤ m
  | 0 => Nat.le_refl _
  | m + 1 => by
    have := msl_len p m
    simp only [msl, List.length_append]
    split <;> simp <;> omega
theorem tl_snoc (l : List (Nat × Nat)) (p : Nat × Nat) : tl (l ++ [p]) = tl l ++ [((p.1 : Int), (p.2 : Int))] := by simp [tl]
theorem ftb_pos : ∀ n, n ≤ 5 → ∀ m, m < 2 ^ n → (ftb n m m).length ≠ 0 ∧ (ftb n m m).length ≤ 5 := by decide +kernel
theorem anfT_step (n : Nat) (p : Nat → Bool) (m : Nat) : anfT n p (m + 1) = if p m then (if msl p m = [] then ftb n m m else anfT n p m ++ [43] ++ ftb n m m) else anfT n p m := by
  unfold anfT
  cases hp : p m with
  | false => simp [msl, hp]
  | true =>
    simp only [msl, hp, if_true, wordsT, List.map_append, List.map_cons, List.map_nil]
    rw [join_snoc]
    cases msl p m <;> simp
theorem anfT_nil (n : Nat) (hn : n ≤ 5) (p : Nat → Bool) : ∀ m, m ≤ 2 ^ n → ((anfT n p m = []) ↔ msl p m = [])
  | 0, _ => by simp [anfT, msl, wordsT, Lib.join]
  | m + 1, h => by
    have ih := anfT_nil n hn p m (by omega)
    have hf := ftb_pos n hn m (by omega)
    rw [anfT_step]
    simp only [msl]
    cases hp : p m with
    | false => simpa using ih
    | true =>
      simp only [if_true]
      have : ftb n m m ≠ [] := fun e => hf.1 (by rw [e]; rfl)
      split <;> simp [this]
theorem msl_mem (p : Nat → Bool) : ∀ m t, t ∈ msl p m → t.1 < m ∧ t.2 = t.1
  | 0, t, h => by simp [msl] at h
  | m + 1, t, h => by
    simp only [msl, List.mem_append] at h
    rcases h with h | h
    · have := msl_mem p m t h; omega
    · split at h
      · simp only [List.mem_singleton] at h; subst h; exact ⟨by simp, rfl⟩
      · cases h
theorem impl_FormatAnf_n (N : Nat) (hN : 1048576 < N) (n w : Nat) (hn : n ≤ 5) (hw : w < 2 ^ 2 ^ n) (K : ByteArray → Option β) : zj113 N (n : Int) (w : Int) K = K (B (fanf w n)) := by
  have hs := size_le hn
  have hz : (0 : Int) ≤ ((2 ^ n : Nat) : Int) := Int.natCast_nonneg _
  have hw' := w_small hn hw
  have ha : anfw w n < 2 ^ 2 ^ n := tabw_lt _ _
  have ha' := w_small hn ha
  unfold zj113 zb113
  rw [impl_IsTable_eq N _ _ (by omega), isTn hn hw, Bool.not_true, cond_false, impl_anf_n N hN n w hn hw', impl_Table_size_eq N n _ hn]
  refine loop_st (fun F m => zj112 N F ((2 ^ n : Nat) : Int) (m : Int) (n : Int) (w : Int) (n : Int) (anfw w n : Int) (tl (msl (anfw w n).testBit m)) fun e0 e1 e2 => cond ((e2.length : Int) == 0) (K (strOf [48])) (zj110 N e0 e2 (strOf [43]) fun r9 => K r9)) (2 ^ n) _ (fun F m hm => ?_) (fun F => ?_) N 0 (by omega) (by omega)
  · simp only [zj112, zj111, zb111]
    have hl := msl_len (anfw w n).testBit m
    rw [decide_eq_true (by omega : (m : Int) < ((2 ^ n : Nat) : Int)), cond_true, impl_Table_at_eq N _ m _ ha', bw_eq1, w64_succ m (by omega)]
    simp only [msl]
    cases (anfw w n).testBit m with
    | false => simp
    | true =>
      rw [cond_true, gd_true (decide_eq_true (by simp [tl_len]; omega)), if_pos rfl, tl_snoc]
      rfl
  · simp only [zj112, zj111, zb111]
    have hl := msl_len (anfw w n).testBit (2 ^ n)
    rw [decide_eq_false (by omega : ¬ ((2 ^ n : Nat) : Int) < ((2 ^ n : Nat) : Int)), cond_false, tl_len]
    unfold fanf
    have hni := anfT_nil n hn (anfw w n).testBit (2 ^ n) (Nat.le_refl _)
    by_cases h0 : msl (anfw w n).testBit (2 ^ n) = []
    · rw [h0, hni.2 h0]; rfl
    · have h1 : anfT n (anfw w n).testBit (2 ^ n) ≠ [] := fun e => h0 (hni.1 e)
      have h2 : 0 < (msl (anfw w n).testBit (2 ^ n)).length := List.length_pos_iff.2 h0
      rw [beq_eq_false_iff_ne.2 (by omega), cond_false, beq_eq_false_iff_ne.2 h1, cond_false]
      exact impl_joinTerms_n N hN n hn _ (by omega) (fun t ht => by
        have := msl_mem _ _ t ht
        have hf := ftb_pos n hn t.1 (by omega)
        rw [this.2]
        omega) 43 K
def cnt_x (w m : Nat) : Nat → Nat
  | 0 => 0
  | x + 1 => cnt_x w m x + if (x &&& m == x) && w.testBit x then 1 else 0
theorem cnt_le_x (w m : Nat) : ∀ x, cnt_x w m x ≤ x
  | 0 => Nat.le_refl _
  | x + 1 => by
    have := cnt_le_x w m x
    simp only [cnt_x]
    split <;> omega
theorem and_smI (x m : Nat) (hx : x < 32) (hm : m < 32) : (bits .and .i64 (x : Int) (m : Int) == (x : Int)) = (x &&& m == x) := and_sm x hx m hm
theorem cnt_par (w m : Nat) : ∀ x, cnt_x w m x % 2 = (par w m x).toNat
  | 0 => rfl
  | x + 1 => by
    have := cnt_par w m x
    simp only [cnt_x, par]
    generalize cnt_x w m x = c at this ⊢
    generalize par w m x = p at this ⊢
    cases (x &&& m == x) && w.testBit x with
    | true => rw [if_pos rfl]; cases p <;> simp only [Bool.toNat_true, Bool.toNat_false, Bool.xor_true, Bool.not_true, Bool.not_false] at this ⊢ <;> omega
    | false => rw [if_neg (by decide), Bool.xor_false]; exact this
theorem par_more (w m : Nat) : ∀ d, par w m (m + 1 + d) = par w m (m + 1)
  | 0 => rfl
  | d + 1 => by
    rw [show m + 1 + (d + 1) = (m + 1 + d) + 1 by omega]
    simp only [par]
    have h : ((m + 1 + d) &&& m == m + 1 + d) = false := by
      rw [beq_eq_false_iff_ne]
      intro e
      have : (m + 1 + d) &&& m ≤ m := Nat.and_le_right
      omega
    have := par_more w m d
    simp only [par] at this
    rw [h, this]
    simp
theorem par_top (w m n : Nat) (h : m < 2 ^ n) : par w m (2 ^ n) = par w m (m + 1) := by
  rw [show 2 ^ n = m + 1 + (2 ^ n - (m + 1)) by omega, par_more]
theorem spec_l11Anf_n (N : Nat) (hN : 1048576 < N) (n w : Nat) (hn : n ≤ 5) (hw : w < 4294967296) (K : Int → Option β) : zj34 N (n : Int) (w : Int) K = K (anfw w n : Int) := by
  have hs := size_le hn
  have hz : (0 : Int) ≤ ((2 ^ n : Nat) : Int) := Int.natCast_nonneg _
  unfold zj34 zb34
  refine loop_st (fun F m => zj33 N F (tabw (fun m => par w m (2 ^ n)) m : Int) (m : Int) (n : Int) (w : Int) fun e => K e) (2 ^ n) _ (fun F m hm => ?_) (fun F => ?_) N 0 (by omega) (by omega)
  · simp only [zj33, zj32, zb32]
    rw [gd_true (decide_eq_true (by omega)), shl_one n (by omega), decide_eq_true (by omega : (m : Int) < ((2 ^ n : Nat) : Int)), cond_true]
    have inner := fun (k0 : Int → Int → Int → Int → Int → Option β) (v0 : Int) => loop_st (fun F x => zj31 N F v0 (m : Int) (cnt_x w m x : Int) (x : Int) (n : Int) (w : Int) k0) (m + 1) (k0 v0 (m : Int) (cnt_x w m (m + 1) : Int) (n : Int) (w : Int)) (fun F x hx => by
      simp only [zj31, zj30, zb30]
      have hc := cnt_le_x w m x
      rw [decide_eq_true (by omega : (x : Int) ≤ (m : Int)), cond_true, and_smI x m (by omega) (by omega), w64_succ x (by omega), bit_w w x (by omega)]
      simp only [cnt_x]
      cases x &&& m == x with
      | false => simp
      | true =>
        rw [cond_true, gd_true (decide_eq_true (by omega)), Bool.true_and, w64_id (by have := bw_le w x; omega) (by have := bw_le w x; omega)]
        unfold bw
        cases w.testBit x <;> rfl) (fun F => by
      simp only [zj31, zj30, zb30]
      rw [decide_eq_false (by omega), cond_false]) N 0 (by omega) (by omega)
    refine (inner _ _).trans ?_
    have hc := cnt_par w m (m + 1)
    rw [← par_top w m n hm] at hc
    have hrem : remI (cnt_x w m (m + 1) : Int) 2 = ((par w m (2 ^ n)).toNat : Int) := by
      rw [← hc]; rfl
    rw [hrem, gd_true (decide_eq_true (by omega)), w64_succ m (by omega)]
    have hb : tabw (fun m => par w m (2 ^ n)) m < 2 ^ 63 := Nat.lt_of_lt_of_le (tabw_lt _ m) (Nat.pow_le_pow_right (by decide) (by omega))
    cases hp : par w m (2 ^ n) with
    | true =>
      rw [tabw_yes (g := fun m => par w m (2 ^ n)) hp]
      have e1 : ((true.toNat : Nat) : Int) = 1 := rfl
      rw [e1, tabw_step _ m (by omega)]
    | false =>
      rw [tabw_no (g := fun m => par w m (2 ^ n)) hp]
      have h0 : shlI .i64 ((false.toNat : Nat) : Int) (m : Int) = ((0 : Nat) : Int) := by
        have := shl_nat 0 m (by omega) (by omega)
        rw [Nat.zero_mul] at this
        exact this
      rw [h0, bOr _ _ hb (by decide), Nat.or_zero]
  · simp only [zj33, zj32, zb32]
    rw [gd_true (decide_eq_true (by omega)), shl_one n (by omega), decide_eq_false (by omega : ¬ ((2 ^ n : Nat) : Int) < ((2 ^ n : Nat) : Int)), cond_false]
    rfl
theorem anfT_len (n : Nat) (hn : n ≤ 5) (p : Nat → Bool) (m : Nat) (hm : m ≤ 2 ^ n) : (anfT n p m).length ≤ 200 := by
  have hs := size_le hn
  have h1 := msl_len p m
  have h2 : ∀ x ∈ wordsT n (msl p m), x.length ≤ 5 := fun x hx => by
    obtain ⟨t, ht, rfl⟩ := List.mem_map.1 hx
    have := msl_mem p m t ht
    rw [this.2]
    exact (ftb_pos n hn t.1 (by omega)).2
  have := join_len_le 43 5 _ h2
  rw [wordsT, List.length_map] at this
  unfold anfT wordsT
  omega
theorem spec_FormatAnf_n (N : Nat) (hN : 1048576 < N) (n w : Nat) (hn : n ≤ 5) (hw : w < 2 ^ 2 ^ n) (K : ByteArray → Option β) : zj41 N (n : Int) (w : Int) K = K (B (fanf w n)) := by
  have hs := size_le hn
  have hz : (0 : Int) ≤ ((2 ^ n : Nat) : Int) := Int.natCast_nonneg _
  have hw' := w_small hn hw
  have ha : anfw w n < 2 ^ 2 ^ n := tabw_lt _ _
  have ha' := w_small hn ha
  have he : ByteArray.empty.toList = ([] : List UInt8) := B_toList []
  unfold zj41 zb41
  rw [spec_IsTable_eq, isTn hn hw, Bool.not_true, cond_false, spec_l11Anf_n N hN n w hn hw']
  refine loop_st (fun F m => zj40 N F (B (anfT n (anfw w n).testBit m)) (anfw w n : Int) (m : Int) (n : Int) (w : Int) fun e => cond (e.toList == ByteArray.empty.toList) (K (strOf [48])) (K e)) (2 ^ n) _ (fun F m hm => ?_) (fun F => ?_) N 0 (by omega) (by omega)
  · simp only [zj40, zj39, zb39]
    have hl := anfT_len n hn (anfw w n).testBit m (by omega)
    have hf := ftb_pos n hn m hm
    have hbit : (bits .and .i64 (shrI .i64 (anfw w n : Int) (m : Int)) 1 == 0) = !(anfw w n).testBit m := by
      rw [bit_w _ m (by omega), bw_eq0]
    rw [gd_true (decide_eq_true (by omega)), shl_one n (by omega), decide_eq_true (by omega : (m : Int) < ((2 ^ n : Nat) : Int)), cond_true, gd_true (decide_eq_true (by omega)), hbit, w64_succ m (by omega), anfT_step, B_toList, he, show strOf [43] = B [43] from rfl, B_app]
    cases hp : (anfw w n).testBit m with
    | false => rfl
    | true =>
      simp only [Bool.not_true, cond_false, if_true]
      cases hm0 : anfT n (anfw w n).testBit m == [] with
      | true =>
        have h0 := eq_of_beq hm0
        rw [Bool.not_true, cond_false, spec_FormatTerm_n N hN n m m hn (by omega) (by omega), B_app, B_size, B_size, gd_true (decide_eq_true (by omega)), if_pos ((anfT_nil n hn _ m (by omega)).1 h0), h0]
        rfl
      | false =>
        have h0 : anfT n (anfw w n).testBit m ≠ [] := by intro e; rw [e] at hm0; cases hm0
        rw [Bool.not_false, cond_true, B_size, B_size, gd_true (decide_eq_true (by simp; omega)), spec_FormatTerm_n N hN n m m hn (by omega) (by omega), B_app, B_size, B_size, gd_true (decide_eq_true (by simp; omega)), if_neg fun e => h0 ((anfT_nil n hn _ m (by omega)).2 e)]
  · simp only [zj40, zj39, zb39]
    rw [gd_true (decide_eq_true (by omega)), shl_one n (by omega), decide_eq_false (by omega : ¬ ((2 ^ n : Nat) : Int) < ((2 ^ n : Nat) : Int)), cond_false, B_toList, he]
    unfold fanf
    cases anfT n (anfw w n).testBit (2 ^ n) == [] <;> rfl
def fstI (p : Nat → Bool) : Nat → Nat → Nat
  | 0, i => i
  | d + 1, i => if p i then i else fstI p d (i + 1)
def sc (w m v : Nat) (b : Bool) : Nat → Bool
  | 0 => false
  | x + 1 => sc w m v b x || (x &&& m == v && w.testBit x == b)
def bothV (w n m v : Nat) : Bool := sc w m v false (2 ^ n) && sc w m v true (2 ^ n)
def free (m i : Nat) : Bool := !m.testBit i
def mnO (B : Nat) (free : Nat → Bool) (val : Nat → Nat) : Nat → Nat
  | 0 => B
  | i + 1 => if free i then min (mnO B free val i) (val i) else mnO B free val i
def ld (w n : Nat) : Nat → Nat → Nat → Nat
  | 0, _, _ => 0
  | f + 1, m, v => if bothV w n m v then mnO 10 (free m) (fun i => 1 + max (ld w n f (m ||| 2 ^ i) v) (ld w n f (m ||| 2 ^ i) (v ||| 2 ^ i))) n else 0
def fc (n m : Nat) : Nat := cnt (free m) n
def dep_ (w n m v : Nat) : Nat := ld w n (fc n m + 1) m v
def pick (w n m v i : Nat) : Bool := free m i && (1 + max (dep_ w n (m ||| 2 ^ i) v) (dep_ w n (m ||| 2 ^ i) (v ||| 2 ^ i)) == dep_ w n m v)
def bst (w n : Nat) : Nat → Nat → Nat → List UInt8
  | 0, _, _ => []
  | f + 1, m, v => if bothV w n m v then
      UInt8.ofNat (97 + fstI (pick w n m v) n 0) :: (bst w n f (m ||| 2 ^ fstI (pick w n m v) n 0) v ++ bst w n f (m ||| 2 ^ fstI (pick w n m v) n 0) (v ||| 2 ^ fstI (pick w n m v) n 0))
    else [if sc w m v true (2 ^ n) then 49 else 48]
def bestT (N : Nat) (a0 a1 : Int) : List UInt8 := if smallT a0 a1 4 then bst a1.toNat a0.toNat N 0 0 else []
theorem fc_le (n m : Nat) : fc n m ≤ n := cnt_le _ n
def Mem_x (w n : Nat) (mp : Mp) : Prop := ∀ m v : Nat, hasM ⟨true, false⟩ mp (m : Int) (v : Int) = true → getM ⟨true, false⟩ mp (m : Int) (v : Int) = (dep_ w n m v : Int)
theorem size4 {n : Nat} (h : n ≤ 4) : 2 ^ n ≤ 16 := Nat.le_trans (Nat.pow_le_pow_right (by decide) h) (by decide)
theorem impl_cube_eq (N : Nat) (hN : 64 < N) (n w m v : Nat) (hn : n ≤ 5) (hw : w < 4294967296) (hm : m < 4294967296) (k : Int → Option β) :
    zj116 N (n : Int) (w : Int) (m : Int) (v : Int) k = k (cond (sc w m v false (2 ^ n)) (cond (sc w m v true (2 ^ n)) 2 0) (cond (sc w m v true (2 ^ n)) 1 0)) := by
  have hs := size_le hn
  unfold zj116 zb116 zj1 zb1
  rw [gd_true (decide_eq_true (by omega : (0 : Int) ≤ (n : Int))), shl_one n (by omega)]
  have key : ∀ (K : Bool → Bool → Option β) (F x : Nat), 2 ^ n - x < F → x ≤ 2 ^ n →
      zj115 N F (m : Int) (v : Int) ((2 ^ n : Nat) : Int) (x : Int) (n : Int) (w : Int) (sc w m v false x) (sc w m v true x) K = K (sc w m v false (2 ^ n)) (sc w m v true (2 ^ n)) := by
    intro K F
    induction F with
    | zero => intro x h; omega
    | succ F ih =>
      intro x hF hx
      simp only [zj115, zj114, zb114, zj2, zb2]
      by_cases hlt : x < 2 ^ n
      · rw [decide_eq_true (by omega : (x : Int) < ((2 ^ n : Nat) : Int)), cond_true, bAnd x m (by omega) (by omega), bit_at w x (by omega), w64_succ x (by omega), gd_true (decide_eq_true (by omega : (0 : Int) ≤ (x : Int)))]
        have e0 : (((x &&& m : Nat) : Int) == (v : Int)) = (x &&& m == v) := by
          rw [Bool.eq_iff_iff, beq_iff_eq, beq_iff_eq]
          omega
        rw [e0]
        have ih' := ih (x + 1) (by omega) (by omega)
        have s0 : ∀ b, sc w m v b (x + 1) = (sc w m v b x || (x &&& m == v && w.testBit x == b)) := fun _ => rfl
        rw [s0, s0] at ih'
        cases hv : (x &&& m == v) with
        | false =>
          rw [hv] at ih'
          simp only [Bool.false_and, Bool.or_false] at ih'
          exact ih'
        | true =>
          rw [hv] at ih'
          simp only [Bool.true_and] at ih'
          cases hb : w.testBit x with
          | false =>
            rw [hb] at ih'
            simpa [gd] using ih'
          | true =>
            rw [hb] at ih'
            simpa [gd] using ih'
      · rw [decide_eq_false (by omega : ¬ (x : Int) < ((2 ^ n : Nat) : Int)), cond_false, show x = 2 ^ n by omega]
  have := key (fun e7_0 e7_1 => cond e7_0 (cond e7_1 (k 2) (cond e7_1 (k 1) (k 0))) (cond e7_1 (k 1) (k 0))) N 0 (by omega) (Nat.zero_le _)
  simp only [sc, Int.natCast_zero] at this
  refine this.trans ?_
  cases sc w m v false (2 ^ n) <;> cases sc w m v true (2 ^ n) <;> rfl
theorem mnO_congr {B : Nat} {free : Nat → Bool} {val val' : Nat → Nat} : ∀ {n : Nat}, (∀ i, i < n → free i = true → val i = val' i) → mnO B free val n = mnO B free val' n
  | 0, _ => rfl
  | n + 1, h => by
    simp only [mnO]
    rw [mnO_congr fun i hi hf => h i (by omega) hf]
    cases hf : free n with
    | true => rw [h n (by omega) hf]
    | false => rfl
theorem fc_less : ∀ n, n ≤ 4 → ∀ m, m < 2 ^ n → ∀ i, i < n → free m i = true → fc n (m ||| 2 ^ i) + 1 = fc n m := by decide +kernel
theorem or_lt : ∀ n, n ≤ 4 → ∀ m, m < 2 ^ n → ∀ i, i < n → m ||| 2 ^ i < 2 ^ n := by decide +kernel
theorem ld_fuel (w n : Nat) (hn : n ≤ 4) : ∀ f m v, m < 2 ^ n → fc n m < f → ld w n f m v = dep_ w n m v
  | 0, m, v, _, h => by omega
  | f + 1, m, v, hm, h => by
    simp only [dep_, ld]
    cases hx : bothV w n m v with
    | false => rfl
    | true =>
      rw [if_pos rfl, if_pos rfl]
      refine mnO_congr fun i hi hf => ?_
      have h4 := fc_less n hn m hm i hi hf
      have hlt := or_lt n hn m hm i hi
      rw [ld_fuel w n hn f _ v hlt (by omega), ld_fuel w n hn f _ _ hlt (by omega)]
      unfold dep_
      rw [h4]
theorem dep_eq (w n m v : Nat) (hn : n ≤ 4) (hm : m < 2 ^ n) : dep_ w n m v = if bothV w n m v then mnO 10 (free m) (fun i => 1 + max (dep_ w n (m ||| 2 ^ i) v) (dep_ w n (m ||| 2 ^ i) (v ||| 2 ^ i))) n else 0 := by
  have : dep_ w n m v = ld w n (fc n m + 1) m v := rfl
  rw [this]
  simp only [ld]
  cases hx : bothV w n m v with
  | false => rfl
  | true =>
    rw [if_pos rfl, if_pos rfl]
    refine mnO_congr fun i hi hf => ?_
    have h4 := fc_less n hn m hm i hi hf
    have hlt := or_lt n hn m hm i hi
    rw [ld_fuel w n hn _ _ v hlt (by omega), ld_fuel w n hn _ _ _ hlt (by omega)]
theorem eqK_two (p : Int × Int) (a b : Int) : eqK ⟨true, false⟩ p a b = (p.1 == a && p.2 == b) := by simp [eqK]
theorem get_put (mp : Mp) (a b x c d : Int) : getM ⟨true, false⟩ (putM ⟨true, false⟩ mp a b x) c d = if (a == c && b == d) then x else getM ⟨true, false⟩ mp c d := by
  induction mp with
  | nil =>
    simp only [putM, getM, eqK_two]
    cases (a == c && b == d) <;> rfl
  | cons p l ih =>
    simp only [putM]
    cases he : eqK ⟨true, false⟩ p.1 a b with
    | true =>
      rw [cond_true]
      simp only [getM]
      rw [eqK_two] at he ⊢
      simp only [Bool.and_eq_true, beq_iff_eq] at he
      rw [eqK_two, he.1, he.2]
      cases (a == c && b == d) <;> simp
    | false =>
      rw [cond_false]
      simp only [getM, ih]
      cases hp : eqK ⟨true, false⟩ p.1 c d with
      | false => rfl
      | true =>
        rw [cond_true]
        cases hc : (a == c && b == d) with
        | false => rfl
        | true =>
          exfalso
          rw [eqK_two] at hp he
          simp only [Bool.and_eq_true, beq_iff_eq] at hp hc
          rw [hp.1, hp.2, hc.1, hc.2] at he
          simp at he
theorem has_put (mp : Mp) (a b x c d : Int) : hasM ⟨true, false⟩ (putM ⟨true, false⟩ mp a b x) c d = ((a == c && b == d) || hasM ⟨true, false⟩ mp c d) := by
  induction mp with
  | nil => simp [putM, hasM, eqK_two]
  | cons p l ih =>
    simp only [putM]
    cases he : eqK ⟨true, false⟩ p.1 a b with
    | true =>
      rw [cond_true]
      simp only [hasM]
      rw [eqK_two] at he ⊢
      simp only [Bool.and_eq_true, beq_iff_eq] at he
      rw [eqK_two, he.1, he.2]
      cases (a == c && b == d) <;> simp
    | false =>
      rw [cond_false]
      simp only [hasM, ih]
      rw [Bool.or_left_comm]
theorem Mem_x.put {w n : Nat} {mp : Mp} (h : Mem_x w n mp) (m v : Nat) {x : Int} (hx : x = (dep_ w n m v : Int)) : Mem_x w n (putM ⟨true, false⟩ mp (m : Int) (v : Int) x) := by
  intro m' v' hh
  rw [get_put]
  rw [has_put] at hh
  cases he : (((m : Int) == (m' : Int)) && ((v : Int) == (v' : Int))) with
  | true =>
    rw [if_pos rfl, hx]
    simp only [Bool.and_eq_true, beq_iff_eq] at he
    rw [show m = m' by omega, show v = v' by omega]
  | false =>
    rw [he, Bool.false_or] at hh
    rw [if_neg (by decide)]
    exact h m' v' hh
theorem fc_some : ∀ n, n ≤ 4 → ∀ m, m < 2 ^ n → fc n m ≠ 0 → ∃ i, i < n ∧ free m i = true := by
  intro n hn m hm h
  have key : ∀ k, cnt (free m) k ≠ 0 → ∃ i, i < k ∧ free m i = true := by
    intro k
    induction k with
    | zero => intro h; exact absurd rfl h
    | succ k ih =>
      intro h
      cases hf : free m k with
      | true => exact ⟨k, by omega, hf⟩
      | false =>
        simp only [cnt, hf] at h
        obtain ⟨i, hi, hfi⟩ := ih (by simpa using h)
        exact ⟨i, by omega, hfi⟩
  exact key n h
theorem sc_iff (w m v : Nat) (b : Bool) : ∀ X, sc w m v b X = true ↔ ∃ x, x < X ∧ x &&& m = v ∧ w.testBit x = b
  | 0 => by simp [sc]
  | X + 1 => by
    simp only [sc, Bool.or_eq_true, Bool.and_eq_true, beq_iff_eq, sc_iff w m v b X]
    constructor
    · rintro (⟨x, h1, h2⟩ | h)
      · exact ⟨x, by omega, h2⟩
      · exact ⟨X, by omega, h⟩
    · rintro ⟨x, h1, h2⟩
      by_cases e : x = X
      · subst e; exact .inr h2
      · exact .inl ⟨x, by omega, h2⟩
theorem fc_none : ∀ n, n ≤ 4 → ∀ m, m < 2 ^ n → fc n m = 0 → ∀ x, x < 2 ^ n → x &&& m = x := by decide +kernel
theorem bothV_free (w n m v : Nat) (hn : n ≤ 4) (hm : m < 2 ^ n) (h : bothV w n m v = true) : fc n m ≠ 0 := by
  intro h0
  unfold bothV at h
  simp only [Bool.and_eq_true, sc_iff] at h
  obtain ⟨⟨x, hx, hxv, hbx⟩, y, hy, hyv, hby⟩ := h
  rw [fc_none n hn m hm h0 x hx] at hxv
  rw [fc_none n hn m hm h0 y hy] at hyv
  rw [hxv] at hbx
  rw [hyv, hbx] at hby
  cases hby
theorem mnO_le (B : Nat) (free : Nat → Bool) (val : Nat → Nat) : ∀ n i, i < n → free i = true → mnO B free val n ≤ val i
  | n + 1, i, h, hf => by
    simp only [mnO]
    by_cases e : i = n
    · subst e
      rw [hf, if_pos rfl]
      exact Nat.min_le_right _ _
    · have := mnO_le B free val n i (by omega) hf
      split <;> omega
theorem ld_le (w n : Nat) (hn : n ≤ 4) : ∀ f m v, m < 2 ^ n → ld w n f m v ≤ fc n m
  | 0, m, v, _ => Nat.zero_le _
  | f + 1, m, v, hm => by
    simp only [ld]
    cases hx : bothV w n m v with
    | false => rw [if_neg (by decide)]; exact Nat.zero_le _
    | true =>
      rw [if_pos rfl]
      obtain ⟨i, hi, hf⟩ := fc_some n hn m hm (bothV_free w n m v hn hm hx)
      have h1 := mnO_le 10 (free m) (fun i => 1 + max (ld w n f (m ||| 2 ^ i) v) (ld w n f (m ||| 2 ^ i) (v ||| 2 ^ i))) n i hi hf
      have h2 := ld_le w n hn f (m ||| 2 ^ i) v (or_lt n hn m hm i hi)
      have h3 := ld_le w n hn f (m ||| 2 ^ i) (v ||| 2 ^ i) (or_lt n hn m hm i hi)
      have h4 := fc_less n hn m hm i hi hf
      have h1 : mnO 10 (free m) (fun i => 1 + max (ld w n f (m ||| 2 ^ i) v) (ld w n f (m ||| 2 ^ i) (v ||| 2 ^ i))) n ≤ 1 + max (ld w n f (m ||| 2 ^ i) v) (ld w n f (m ||| 2 ^ i) (v ||| 2 ^ i)) := h1
      omega
theorem dep_le (w n m v : Nat) (hn : n ≤ 4) (hm : m < 2 ^ n) : dep_ w n m v ≤ fc n m := ld_le w n hn _ m v hm
theorem shl_zero (i : Nat) : shlI .i64 0 (i : Int) = 0 := by
  unfold shlI
  rw [Int.zero_mul]
  decide
theorem or_zero_int (v : Nat) (hv : v < 16) : bits .or .i64 (v : Int) 0 = (v : Int) := by
  have := bOr v 0 (by omega) (by omega)
  simpa using this
theorem mxI_nat (a b : Nat) : mxI (a : Int) (b : Int) = ((max a b : Nat) : Int) := by unfold mxI; split <;> omega
theorem mnI_nat (a b : Nat) : mnI (a : Int) (b : Int) = ((min a b : Nat) : Int) := by unfold mnI; split <;> omega
theorem mnO_start (B C : Nat) (hBC : B ≤ C) (free : Nat → Bool) (val : Nat → Nat) : ∀ n, mnO B free val n = min B (mnO C free val n)
  | 0 => by simp only [mnO]; omega
  | n + 1 => by
    have := mnO_start B C hBC free val n
    simp only [mnO]
    split <;> omega
theorem impl_left_f (N : Nat) (hN : 64 < N) (n w : Nat) (hn : n ≤ 4) (hw : w < 2 ^ 2 ^ n) : ∀ (F m v : Nat) (mp mp5 : Mp), fc n m < F → m < 2 ^ n → v < 2 ^ n → Mem_x w n mp →
    ∃ mp', Mem_x w n mp' ∧ ∀ k0 : Int → Int → Int → Mp → Mp → Option β, zj146 N F (m : Int) (v : Int) (n : Int) (w : Int) mp mp5 k0 = k0 (dep_ w n m v : Int) n w mp' mp5 := by
  have hs := size4 hn
  have hw' := two32 (by omega) hw
  intro F
  induction F with
  | zero => intro m v mp mp5 h; omega
  | succ F ih =>
    intro m v mp mp5 hF hm hv hM
    simp only [zj146, zj145, zb145]
    cases hh : hasM ⟨true, false⟩ mp (m : Int) (v : Int) with
    | true => exact ⟨mp, hM, fun k0 => by rw [cond_true, hM m v hh]⟩
    | false =>
      simp only [cond_false, impl_cube_eq N hN n w m v (by omega) hw' (by omega)]
      have e : ((cond (sc w m v false (2 ^ n)) (cond (sc w m v true (2 ^ n)) (2 : Int) 0) (cond (sc w m v true (2 ^ n)) 1 0)) == 2) = bothV w n m v := by
        unfold bothV
        cases sc w m v false (2 ^ n) <;> cases sc w m v true (2 ^ n) <;> rfl
      rw [e]
      have hde := dep_eq w n m v hn hm
      cases hx : bothV w n m v with
      | false =>
        rw [hx, if_neg (by decide)] at hde
        exact ⟨_, hM.put m v (x := 0) (by rw [hde]; rfl), fun k0 => by rw [cond_false, hde]; rfl⟩
      | true =>
        rw [hx, if_pos rfl] at hde
        simp only [cond_true]
        generalize hval : (fun i => 1 + max (dep_ w n (m ||| 2 ^ i) v) (dep_ w n (m ||| 2 ^ i) (v ||| 2 ^ i))) = val at hde
        have hvi : ∀ i, 1 + max (dep_ w n (m ||| 2 ^ i) v) (dep_ w n (m ||| 2 ^ i) (v ||| 2 ^ i)) = val i := fun i => by rw [← hval]
        have key : ∀ (d G i : Nat) (mp : Mp), i + d = n → d < G → Mem_x w n mp → ∃ mp', Mem_x w n mp' ∧ ∀ K : Int → Int → Int → Mp → Mp → Int → Int → Option β,
            zj144 N (zj146 N F) G (mnO n (free m) val i : Int) (n : Int) (i : Int) (n : Int) (w : Int) mp mp5 (m : Int) (v : Int) K = K (mnO n (free m) val n : Int) n w mp' mp5 m v := by
          intro d
          induction d with
          | zero =>
            intro G i mp hi hG hM
            obtain ⟨G, rfl⟩ : ∃ H, G = H + 1 := ⟨G - 1, by omega⟩
            refine ⟨mp, hM, fun K => ?_⟩
            simp only [zj144, zj143, zb143]
            rw [decide_eq_false (by omega : ¬ (i : Int) < (n : Int)), cond_false, show i = n by omega]
          | succ d ihd =>
            intro G i mp hi hG hM
            obtain ⟨G, rfl⟩ : ∃ H, G = H + 1 := ⟨G - 1, by omega⟩
            have hlt : i < n := by omega
            have hp : 2 ^ i < 2 ^ 4 := Nat.pow_lt_pow_right (by decide) (by omega)
            have eb : ((((if m.testBit i then 1 else 0 : Nat) : Int)) == 0) = free m i := by
              unfold free
              cases m.testBit i <;> rfl
            cases hf : free m i with
            | false =>
              obtain ⟨mp', hM', he⟩ := ihd G (i + 1) mp (by omega) (by omega) hM
              refine ⟨mp', hM', fun K => ?_⟩
              simp only [zj144, zj143, zb143]
              rw [decide_eq_true (by omega : (i : Int) < (n : Int)), cond_true, gd_true (decide_eq_true (by omega : (0 : Int) ≤ (i : Int))), bit_at m i (by omega), eb, hf, cond_false, w64_succ i (by omega)]
              have h1 := he K
              simp only [mnO, hf] at h1
              exact h1
            | true =>
              have h4 := fc_less n hn m hm i hlt hf
              have hmo := or_lt n hn m hm i hlt
              have hvo := or_lt n hn v hv i hlt
              obtain ⟨mp1, hM1, he1⟩ := ih (m ||| 2 ^ i) v mp mp5 (by omega) hmo hv hM
              obtain ⟨mp2, hM2, he2⟩ := ih (m ||| 2 ^ i) (v ||| 2 ^ i) mp1 mp5 (by omega) hmo hvo hM1
              obtain ⟨mp', hM', he⟩ := ihd G (i + 1) mp2 (by omega) (by omega) hM2
              refine ⟨mp', hM', fun K => ?_⟩
              have hd1 := dep_le w n (m ||| 2 ^ i) v hn hmo
              have hd2 := dep_le w n (m ||| 2 ^ i) (v ||| 2 ^ i) hn hmo
              have hfc := fc_le n (m ||| 2 ^ i)
              simp only [zj144, zj143, zb143, zj142, zb142]
              rw [decide_eq_true (by omega : (i : Int) < (n : Int)), cond_true, gd_true (decide_eq_true (by omega : (0 : Int) ≤ (i : Int))), bit_at m i (by omega), eb, hf, cond_true, w64_succ i (by omega)]
              simp only [gd_true (decide_eq_true (by omega : (0 : Int) ≤ (i : Int)))]
              rw [shl_zero, shl_one i (by omega), or_zero_int v (by omega), bOr m _ (by omega) (by omega), bOr v _ (by omega) (by omega), he1]
              rw [he2]
              rw [mxI_nat, show (1 : Int) + ((max (dep_ w n (m ||| 2 ^ i) v) (dep_ w n (m ||| 2 ^ i) (v ||| 2 ^ i)) : Nat) : Int) = ((1 + max (dep_ w n (m ||| 2 ^ i) v) (dep_ w n (m ||| 2 ^ i) (v ||| 2 ^ i)) : Nat) : Int) by omega, w64_nat _ (by omega), mnI_nat, hvi]
              have h1 := he K
              simp only [mnO, hf, if_true] at h1
              exact h1
        obtain ⟨mp', hM', he⟩ := key n N 0 mp (by omega) (by omega) hM
        have hle := dep_le w n m v hn hm
        have hfc := fc_le n m
        have hst := mnO_start n 10 (by omega) (free m) val n
        have heq : mnO n (free m) val n = dep_ w n m v := by
          rw [hst, ← hde]
          omega
        rw [heq] at he
        refine ⟨_, hM'.put m v (x := (dep_ w n m v : Int)) rfl, fun k0 => ?_⟩
        have h1 := he (fun e12_0 e12_1 e12_2 e12_3 e12_4 e12_5 e12_6 => k0 e12_0 e12_1 e12_2 (putM ⟨true, false⟩ e12_3 e12_5 e12_6 e12_0) e12_4)
        simp only [mnO, Int.natCast_zero] at h1
        exact h1
theorem impl_left_eq (N : Nat) (hN : 64 < N) (n w : Nat) (hn : n ≤ 4) (hw : w < 2 ^ 2 ^ n) (m v : Nat) (mp mp5 : Mp) (hm : m < 2 ^ n) (hv : v < 2 ^ n) (hM : Mem_x w n mp) :
    ∃ mp', Mem_x w n mp' ∧ ∀ k0 : Int → Int → Int → Mp → Mp → Option β, zj147 N (m : Int) (v : Int) (n : Int) (w : Int) mp mp5 k0 = k0 (dep_ w n m v : Int) n w mp' mp5 := by
  have := fc_le n m
  exact impl_left_f N hN n w hn hw N m v mp mp5 (by omega) hm hv hM
theorem mnO_found (B : Nat) (free : Nat → Bool) (val : Nat → Nat) : ∀ n, mnO B free val n = B ∨ ∃ i, i < n ∧ free i = true ∧ val i = mnO B free val n
  | 0 => .inl rfl
  | n + 1 => by
    simp only [mnO]
    cases hf : free n with
    | false =>
      rw [if_neg (by decide)]
      rcases mnO_found B free val n with h | ⟨i, h1, h2, h3⟩
      · exact .inl h
      · exact .inr ⟨i, by omega, h2, h3⟩
    | true =>
      rw [if_pos rfl]
      by_cases hle : val n ≤ mnO B free val n
      · exact .inr ⟨n, by omega, hf, by omega⟩
      · rcases mnO_found B free val n with h | ⟨i, h1, h2, h3⟩
        · exact .inl (by omega)
        · exact .inr ⟨i, by omega, h2, by omega⟩
theorem pick_some (w n m v : Nat) (hn : n ≤ 4) (hm : m < 2 ^ n) (hb : bothV w n m v = true) : ∃ i, i < n ∧ pick w n m v i = true := by
  have hd := dep_eq w n m v hn hm
  rw [hb, if_pos rfl] at hd
  have hle := dep_le w n m v hn hm
  have hfc := fc_le n m
  rcases mnO_found 10 (free m) (fun i => 1 + max (dep_ w n (m ||| 2 ^ i) v) (dep_ w n (m ||| 2 ^ i) (v ||| 2 ^ i))) n with h | ⟨i, h1, h2, h3⟩
  · omega
  · refine ⟨i, h1, ?_⟩
    unfold pick
    rw [h2, Bool.true_and, beq_iff_eq, hd]
    exact h3
theorem fstI_found (p : Nat → Bool) : ∀ d i, (∃ j, i ≤ j ∧ j < i + d ∧ p j = true) → fstI p d i < i + d ∧ i ≤ fstI p d i ∧ p (fstI p d i) = true
  | 0, i, ⟨j, h1, h2, _⟩ => by omega
  | d + 1, i, ⟨j, h1, h2, h3⟩ => by
    simp only [fstI]
    cases hp : p i with
    | true => rw [if_pos rfl]; exact ⟨by omega, Nat.le_refl _, hp⟩
    | false =>
      rw [if_neg (by decide)]
      have hne : j ≠ i := fun e => by rw [e, hp] at h3; cases h3
      have := fstI_found p d (i + 1) ⟨j, by omega, by omega, h3⟩
      exact ⟨by omega, by omega, this.2.2⟩
theorem fst_free {w n m v : Nat} (hn : n ≤ 4) (hm : m < 2 ^ n) (hb : bothV w n m v = true) : fstI (pick w n m v) n 0 < n ∧ free m (fstI (pick w n m v) n 0) = true ∧ pick w n m v (fstI (pick w n m v) n 0) = true := by
  obtain ⟨i, h1, h2⟩ := pick_some w n m v hn hm hb
  obtain ⟨h3, _, h4⟩ := fstI_found (pick w n m v) n 0 ⟨i, Nat.zero_le _, by omega, h2⟩
  have h5 := h4
  unfold pick at h5
  simp only [Bool.and_eq_true] at h5
  exact ⟨by omega, h5.1, h4⟩
theorem with_eq (N m v i : Nat) (hm : m < 16) (hv : v < 16) (hi : i < 4) (K : Int → Int → Option β) :
    zj142 N (m : Int) (v : Int) (i : Int) 0 K = K ((m ||| 2 ^ i : Nat) : Int) v ∧ zj142 N (m : Int) (v : Int) (i : Int) 1 K = K ((m ||| 2 ^ i : Nat) : Int) ((v ||| 2 ^ i : Nat) : Int) := by
  have hp : 2 ^ i < 2 ^ 4 := Nat.pow_lt_pow_right (by decide) (by omega)
  unfold zj142 zb142
  rw [shl_zero, shl_one i (by omega), or_zero_int v (by omega), bOr m _ (by omega) (by omega), bOr v _ (by omega) (by omega), gd_true (decide_eq_true (by omega : (0 : Int) ≤ (i : Int))), gd_true (decide_eq_true (by omega : (0 : Int) ≤ (i : Int)))]
  rw [gd_true (decide_eq_true (by omega : (0 : Int) ≤ (i : Int)))]
  exact ⟨rfl, rfl⟩
theorem pick_less (w n m v i : Nat) (hn : n ≤ 4) (hm : m < 2 ^ n) (hb : bothV w n m v = true) (hi : i < n) (hf : free m i = true) :
    pick w n m v i = (decide (dep_ w n (m ||| 2 ^ i) v < dep_ w n m v) && decide (dep_ w n (m ||| 2 ^ i) (v ||| 2 ^ i) < dep_ w n m v)) := by
  have hd := dep_eq w n m v hn hm
  rw [hb, if_pos rfl] at hd
  have h1 := mnO_le 10 (free m) (fun i => 1 + max (dep_ w n (m ||| 2 ^ i) v) (dep_ w n (m ||| 2 ^ i) (v ||| 2 ^ i))) n i hi hf
  rw [← hd] at h1
  have h1 : dep_ w n m v ≤ 1 + max (dep_ w n (m ||| 2 ^ i) v) (dep_ w n (m ||| 2 ^ i) (v ||| 2 ^ i)) := h1
  unfold pick
  rw [hf, Bool.true_and, Bool.eq_iff_iff, Bool.and_eq_true, beq_iff_eq, decide_eq_true_eq, decide_eq_true_eq]
  omega
theorem impl_first_eq (N : Nat) (hN : 64 < N) (n w : Nat) (hn : n ≤ 4) (hw : w < 2 ^ 2 ^ n) (m v : Nat) (mp mp5 : Mp) (hm : m < 2 ^ n) (hv : v < 2 ^ n) (hM : Mem_x w n mp) :
    ∃ mp', Mem_x w n mp' ∧ ∀ k0 : Int → Int → Int → Mp → Mp → Option β, zj150 N (m : Int) (v : Int) (n : Int) (w : Int) mp mp5 k0 =
      k0 (if bothV w n m v then (fstI (pick w n m v) n 0 : Int) else -1) n w mp' mp5 := by
  have hs := size4 hn
  have hw' := two32 (by omega) hw
  unfold zj150 zb150
  obtain ⟨mp1, hM1, he1⟩ := impl_left_eq (β := β) N hN n w hn hw m v mp mp5 hm hv hM
  simp only [he1]
  cases hx : bothV w n m v with
  | false =>
    refine ⟨mp1, hM1, fun k0 => ?_⟩
    rw [if_neg (by decide)]
    have hd := dep_eq w n m v hn hm
    rw [hx, if_neg (by decide)] at hd
    rw [hd]
    refine loop_st (fun F i => zj149 N F ((0 : Nat) : Int) (n : Int) (i : Int) (n : Int) (w : Int) mp1 mp5 (m : Int) (v : Int) k0 (fun a b c d => k0 (-1) a b c d)) n _ ?_ ?_ N 0 (Nat.zero_le _) (by omega)
    · intro F i hi
      simp only [zj149, zj148, zb148]
      rw [decide_eq_true (by omega : (i : Int) < (n : Int)), cond_true, decide_eq_false (by decide : ¬ ((0 : Nat) : Int) > 0), cond_false, w64_succ i (by omega)]
    · intro F
      simp only [zj149, zj148, zb148]
      rw [decide_eq_false (by omega : ¬ (n : Int) < (n : Int)), cond_false]
  | true =>
    obtain ⟨f1, f2, f3⟩ := fst_free hn hm hx
    have hpos : 0 < dep_ w n m v := by
      have := f3
      unfold pick at this
      simp only [Bool.and_eq_true, beq_iff_eq] at this
      omega
    have key : ∀ (d G i : Nat) (mp : Mp), i + d = n → d < G → Mem_x w n mp → (∃ j, i ≤ j ∧ j < i + d ∧ pick w n m v j = true) → fstI (pick w n m v) d i = fstI (pick w n m v) n 0 →
        ∃ mp', Mem_x w n mp' ∧ ∀ (k0 : Int → Int → Int → Mp → Mp → Option β) (k1 : Int → Int → Mp → Mp → Option β),
          zj149 N G (dep_ w n m v : Int) (n : Int) (i : Int) (n : Int) (w : Int) mp mp5 (m : Int) (v : Int) k0 k1 = k0 (fstI (pick w n m v) n 0 : Int) n w mp' mp5 := by
      intro d
      induction d with
      | zero => intro G i mp _ _ _ ⟨j, h1, h2, _⟩; omega
      | succ d ihd =>
        intro G i mp hi hG hM hex hst
        obtain ⟨G, rfl⟩ : ∃ H, G = H + 1 := ⟨G - 1, by omega⟩
        have hlt : i < n := by omega
        simp only [zj149, zj148, zb148]
        simp only [decide_eq_true (by omega : (i : Int) < (n : Int)), decide_eq_true (by omega : (dep_ w n m v : Int) > 0), cond_true, gd_true (decide_eq_true (by omega : (0 : Int) ≤ (i : Int))), w64_succ i (by omega), fun K => (with_eq (β := β) N m v i (by omega) (by omega) (by omega) K).1, fun K => (with_eq (β := β) N m v i (by omega) (by omega) (by omega) K).2, bit_at m i (by omega)]
        have eb : ((((if m.testBit i then 1 else 0 : Nat) : Int)) == 0) = free m i := by
          unfold free
          cases m.testBit i <;> rfl
        rw [eb]
        simp only [fstI] at hst
        have next : pick w n m v i = false → ∀ mp, Mem_x w n mp → ∃ mp', Mem_x w n mp' ∧ ∀ (k0 : Int → Int → Int → Mp → Mp → Option β) (k1 : Int → Int → Mp → Mp → Option β),
            zj149 N G (dep_ w n m v : Int) (n : Int) ((i + 1 : Nat) : Int) (n : Int) (w : Int) mp mp5 (m : Int) (v : Int) k0 k1 = k0 (fstI (pick w n m v) n 0 : Int) n w mp' mp5 := by
          intro hno mp hM
          rw [hno, if_neg (by decide)] at hst
          refine ihd G (i + 1) mp (by omega) (by omega) hM ?_ hst
          obtain ⟨j, h1, h2, h3⟩ := hex
          have hne : j ≠ i := fun e => by rw [e, hno] at h3; cases h3
          exact ⟨j, by omega, by omega, h3⟩
        cases hf : free m i with
        | false =>
          simp only [cond_false]
          exact next (by unfold pick; rw [hf]; rfl) mp hM
        | true =>
          have hmo := or_lt n hn m hm i hlt
          have hvo := or_lt n hn v hv i hlt
          have hpk := pick_less w n m v i hn hm hx hlt hf
          obtain ⟨mpa, hMa, hea⟩ := impl_left_eq (β := β) N hN n w hn hw (m ||| 2 ^ i) v mp mp5 hmo hv hM
          obtain ⟨mpb, hMb, heb⟩ := impl_left_eq (β := β) N hN n w hn hw (m ||| 2 ^ i) (v ||| 2 ^ i) mpa mp5 hmo hvo hMa
          have c1 : decide (((dep_ w n (m ||| 2 ^ i) v : Nat) : Int) < (dep_ w n m v : Int)) = decide (dep_ w n (m ||| 2 ^ i) v < dep_ w n m v) := decide_eq_decide.2 (by omega)
          have c2 : decide (((dep_ w n (m ||| 2 ^ i) (v ||| 2 ^ i) : Nat) : Int) < (dep_ w n m v : Int)) = decide (dep_ w n (m ||| 2 ^ i) (v ||| 2 ^ i) < dep_ w n m v) := decide_eq_decide.2 (by omega)
          simp only [cond_true, hea, heb, c1, c2]
          cases d1 : decide (dep_ w n (m ||| 2 ^ i) v < dep_ w n m v) with
          | false =>
            rw [d1, Bool.false_and] at hpk
            simp only [cond_false]
            exact next hpk mpa hMa
          | true =>
            cases d2 : decide (dep_ w n (m ||| 2 ^ i) (v ||| 2 ^ i) < dep_ w n m v) with
            | false =>
              rw [d1, d2] at hpk
              simp only [cond_false, cond_true]
              exact next hpk mpb hMb
            | true =>
              rw [d1, d2] at hpk
              have hpk : pick w n m v i = true := hpk
              rw [hpk, if_pos rfl] at hst
              rw [← hst]
              exact ⟨mpb, hMb, fun k0 k1 => rfl⟩
    obtain ⟨mp', hM', he⟩ := key n N 0 mp1 (by omega) (by omega) hM1 ⟨_, Nat.zero_le _, by omega, f3⟩ rfl
    exact ⟨mp', hM', fun k0 => by rw [if_pos rfl]; exact he _ _⟩
theorem itoa_bit (b : Bool) : Lib.itoa (if b then 1 else 0 : Int) = [if b then 49 else 48] := by
  cases b
  · show Lib.itoa 0 = [48]
    unfold Lib.itoa
    rw [if_neg (by decide), Lib.decDigits, dif_pos (by decide)]
    rfl
  · show Lib.itoa 1 = [49]
    unfold Lib.itoa
    rw [if_neg (by decide), Lib.decDigits, dif_pos (by decide)]
    rfl
theorem bst_len (w n : Nat) (hn : n ≤ 4) : ∀ f m v, m < 2 ^ n → v < 2 ^ n → (bst w n f m v).length + 1 ≤ 2 ^ (fc n m + 1)
  | 0, m, v, _, _ => Nat.two_pow_pos _
  | f + 1, m, v, hm, hv => by
    simp only [bst]
    cases hb : bothV w n m v with
    | false =>
      rw [if_neg (by decide)]
      have : 2 ^ 1 ≤ 2 ^ (fc n m + 1) := Nat.pow_le_pow_right (by decide) (by omega)
      simpa using this
    | true =>
      rw [if_pos rfl]
      obtain ⟨h1, h2, _⟩ := fst_free hn hm hb
      generalize fstI (pick w n m v) n 0 = i at h1 h2 ⊢
      have h4 := fc_less n hn m hm i h1 h2
      have k1 := bst_len w n hn f (m ||| 2 ^ i) v (or_lt n hn m hm i h1) hv
      have k2 := bst_len w n hn f (m ||| 2 ^ i) (v ||| 2 ^ i) (or_lt n hn m hm i h1) (or_lt n hn v hv i h1)
      rw [h4] at k1 k2
      have e : 2 ^ (fc n m + 1) = 2 * 2 ^ fc n m := by rw [Nat.pow_succ]; omega
      simp only [List.length_cons, List.length_append]
      omega
theorem bst_small (w n : Nat) (hn : n ≤ 4) (f m v : Nat) (hm : m < 2 ^ n) (hv : v < 2 ^ n) : (bst w n f m v).length ≤ 31 := by
  have h1 := bst_len w n hn f m v hm hv
  have h2 := fc_le n m
  have : 2 ^ (fc n m + 1) ≤ 2 ^ 5 := Nat.pow_le_pow_right (by decide) (by omega)
  omega
theorem letter_w8 (i : Nat) (h : i < 5) : strOf (([] : List Int) ++ [w8 (97 + w8 (i : Int))]) = B [UInt8.ofNat (97 + i)] := by
  rw [w8_small i (by omega), show (97 : Int) + (i : Int) = ((97 + i : Nat) : Int) by omega, w8_small _ (by omega), B_one, Int.toNat_natCast]
theorem impl_best_f (N : Nat) (hN : 64 < N) (n w : Nat) (hn : n ≤ 4) (hw : w < 2 ^ 2 ^ n) : ∀ (F m v : Nat) (mp mp5 : Mp), fc n m < F → m < 2 ^ n → v < 2 ^ n → Mem_x w n mp →
    ∃ mp', Mem_x w n mp' ∧ ∀ k0 : ByteArray → Int → Int → Mp → Mp → Option β, zj153 N F (m : Int) (v : Int) (n : Int) (w : Int) mp mp5 k0 = k0 (B (bst w n F m v)) n w mp' mp5 := by
  have hs := size4 hn
  have hw' := two32 (by omega) hw
  intro F
  induction F with
  | zero => intro m v mp mp5 h; omega
  | succ F ih =>
    intro m v mp mp5 hF hm hv hM
    simp only [zj153, zj152, zb152]
    obtain ⟨mp1, hM1, he⟩ := impl_first_eq (β := β) N hN n w hn hw m v mp mp5 hm hv hM
    simp only [he, bst]
    cases hx : bothV w n m v with
    | false =>
      refine ⟨mp1, hM1, fun k0 => ?_⟩
      rw [if_neg (by decide), if_neg (by decide), decide_eq_true (by decide : (-1 : Int) < 0), cond_true, impl_cube_eq N hN n w m v (by omega) hw' (by omega)]
      have e : (cond (sc w m v false (2 ^ n)) (cond (sc w m v true (2 ^ n)) (2 : Int) 0) (cond (sc w m v true (2 ^ n)) 1 0)) = (if sc w m v true (2 ^ n) then 1 else 0 : Int) := by
        unfold bothV at hx
        revert hx
        cases sc w m v false (2 ^ n) <;> cases sc w m v true (2 ^ n) <;> decide
      rw [e, impl_FormatInt_eq N _ (by cases sc w m v true (2 ^ n) <;> exact ⟨by decide, by decide⟩), itoa_bit]
    | true =>
      obtain ⟨f1, f2, _⟩ := fst_free hn hm hx
      simp only [if_true]
      generalize fstI (pick w n m v) n 0 = i at f1 f2 ⊢
      have h4 := fc_less n hn m hm i f1 f2
      have hmo := or_lt n hn m hm i f1
      have hvo := or_lt n hn v hv i f1
      obtain ⟨mpa, hMa, hea⟩ := ih (m ||| 2 ^ i) v mp1 mp5 (by omega) hmo hv hM1
      obtain ⟨mpb, hMb, heb⟩ := ih (m ||| 2 ^ i) (v ||| 2 ^ i) mpa mp5 (by omega) hmo hvo hMa
      refine ⟨mpb, hMb, fun k0 => ?_⟩
      have l1 := bst_small w n hn F (m ||| 2 ^ i) v hmo hv
      have l2 := bst_small w n hn F (m ||| 2 ^ i) (v ||| 2 ^ i) hmo hvo
      generalize bst w n F (m ||| 2 ^ i) v = b1 at hea l1 ⊢
      generalize bst w n F (m ||| 2 ^ i) (v ||| 2 ^ i) = b2 at heb l2 ⊢
      have g1 : decide (([UInt8.ofNat (97 + i)] : List UInt8).length + b1.length ≤ 9223372036854775807) = true := decide_eq_true (by simp only [List.length_cons, List.length_nil]; omega)
      have g2 : decide ((([UInt8.ofNat (97 + i)] : List UInt8) ++ b1).length + b2.length ≤ 9223372036854775807) = true := decide_eq_true (by simp only [List.length_append, List.length_cons, List.length_nil]; omega)
      rw [decide_eq_false (by omega : ¬ (i : Int) < 0), cond_false]
      simp only [fun K => (with_eq (β := β) N m v i (by omega) (by omega) (by omega) K).1, fun K => (with_eq (β := β) N m v i (by omega) (by omega) (by omega) K).2, hea, heb, letter_w8 i (by omega), B_app, B_size, g1, g2, gd, cond_true, zj151, beq_self_eq_true, decide_true]
      rfl
theorem impl_BestTree_eq (N : Nat) (hN : 64 < N) (a0 a1 : Int) (h1 : a1 < 9223372036854775808) (k : ByteArray → Bool → Option β) : zj155 N a0 a1 k = k (B (bestT N a0 a1)) (smallT a0 a1 4) := by
  unfold zj155 zb155 bestT
  rw [impl_isSmall_eq N a0 a1 4 h1]
  cases hs : smallT a0 a1 4 with
  | false => rfl
  | true =>
    have h := hs
    simp only [smallT, Bool.and_eq_true, decide_eq_true_eq] at h
    obtain ⟨n, w, rfl, rfl, hn, hw, _⟩ := isT_nat h.1
    have hfc := fc_le n 0
    obtain ⟨mp', _, e⟩ := impl_best_f (β := β) N hN n w (by omega) hw N 0 0 [] [] (by omega) (Nat.two_pow_pos n) (Nat.two_pow_pos n) (fun m v h => by cases h)
    simp only [Int.natCast_zero] at e
    rw [if_pos rfl, Bool.not_true, cond_false]
    unfold zj140 zb140 zj154
    exact e _
def cres (p q : Bool) : Int := cond p (cond q 2 0) (cond q 1 (-1))
theorem sc_mono (w m v : Nat) (b : Bool) (x : Nat) (h : sc w m v b x = true) : ∀ d, sc w m v b (x + d) = true
  | 0 => h
  | d + 1 => by rw [← Nat.add_assoc, sc, sc_mono w m v b x h d]; rfl
theorem spec_l3Cube_eq (N : Nat) (hN : 64 < N) (n w m v : Nat) (hn : n ≤ 5) (hw : w < 4294967296) (hm : m < 4294967296) (k : Int → Option β) :
    zj70 N (n : Int) (w : Int) (m : Int) (v : Int) k = k (cres (sc w m v false (2 ^ n)) (sc w m v true (2 ^ n))) := by
  have hs := size_le hn
  unfold zj70 zb70
  have key : ∀ (F x : Nat), 2 ^ n - x < F → x ≤ 2 ^ n → (sc w m v false x && sc w m v true x) = false →
      zj69 N F (m : Int) (v : Int) (cres (sc w m v false x) (sc w m v true x)) (x : Int) (n : Int) (w : Int) k k = k (cres (sc w m v false (2 ^ n)) (sc w m v true (2 ^ n))) := by
    intro F
    induction F with
    | zero => intro x h; omega
    | succ F ih =>
      intro x hF hx hno
      simp only [zj69, zj68, zb68]
      rw [gd_true (decide_eq_true (by omega : (0 : Int) ≤ (n : Int))), shl_one n (by omega)]
      by_cases hlt : x < 2 ^ n
      · rw [decide_eq_true (by omega : (x : Int) < ((2 ^ n : Nat) : Int)), cond_true, bAnd x m (by omega) (by omega), bit_at w x (by omega), w64_succ x (by omega), gd_true (decide_eq_true (by omega : (0 : Int) ≤ (x : Int)))]
        have e0 : (((x &&& m : Nat) : Int) != (v : Int)) = !(x &&& m == v) := by
          rw [bne, Bool.eq_iff_iff]
          simp only [Bool.not_eq_true', beq_eq_false_iff_ne, ne_eq]
          omega
        rw [e0]
        have ih' := ih (x + 1) (by omega) (by omega)
        have s0 : ∀ b, sc w m v b (x + 1) = (sc w m v b x || (x &&& m == v && w.testBit x == b)) := fun _ => rfl
        rw [s0, s0] at ih'
        cases hv : (x &&& m == v) with
        | false =>
          rw [hv] at ih'
          simp only [Bool.false_and, Bool.or_false] at ih'
          rw [Bool.not_false, cond_true]
          exact ih' hno
        | true =>
          rw [hv] at ih'
          simp only [Bool.true_and] at ih'
          rw [Bool.not_true, cond_false]
          have both : sc w m v false (x + 1) = true → sc w m v true (x + 1) = true → cres (sc w m v false (2 ^ n)) (sc w m v true (2 ^ n)) = 2 := fun h1 h2 => by
            have h3 := sc_mono w m v false (x + 1) h1 (2 ^ n - (x + 1))
            have h4 := sc_mono w m v true (x + 1) h2 (2 ^ n - (x + 1))
            rw [show x + 1 + (2 ^ n - (x + 1)) = 2 ^ n by omega] at h3 h4
            rw [h3, h4]
            rfl
          rw [s0, s0, hv] at both
          simp only [Bool.true_and] at both
          generalize cres (sc w m v false (2 ^ n)) (sc w m v true (2 ^ n)) = R at ih' both ⊢
          cases h0 : sc w m v false x <;> cases h1 : sc w m v true x <;> cases hb : w.testBit x <;> rw [h0, h1] at hno <;> simp only [h0, h1, hb] at ih' both <;> simp [cres] at hno ih' both ⊢ <;> first | exact ih' | (rw [both]) | (cases hno)
      · rw [decide_eq_false (by omega : ¬ (x : Int) < ((2 ^ n : Nat) : Int)), cond_false, show x = 2 ^ n by omega]
  exact key N 0 (by omega) (Nat.zero_le _) rfl
theorem cres_bothV (w n m v : Nat) : decide (cres (sc w m v false (2 ^ n)) (sc w m v true (2 ^ n)) < 2) = !bothV w n m v := by
  unfold bothV
  cases sc w m v false (2 ^ n) <;> cases sc w m v true (2 ^ n) <;> rfl
theorem sc_some (w n m v : Nat) (hv : v < 2 ^ n) (hvm : v &&& m = v) : (sc w m v false (2 ^ n) || sc w m v true (2 ^ n)) = true := by
  have := (sc_iff w m v (w.testBit v) (2 ^ n)).2 ⟨v, hv, hvm, rfl⟩
  cases hb : w.testBit v with
  | true => rw [hb] at this; rw [this, Bool.or_true]
  | false => rw [hb] at this; rw [this, Bool.true_or]
theorem nat_eq_zero (a : Nat) : ((a : Int) == 0) = (a == 0) := by cases a <;> rfl
theorem and_bit : ∀ m, m < 16 → ∀ i, i < 4 → (m &&& 2 ^ i == 0) = free m i := by decide +kernel
theorem mnO_B (B : Nat) (free : Nat → Bool) (val : Nat → Nat) : ∀ n, mnO B free val n ≤ B
  | 0 => Nat.le_refl _
  | n + 1 => by
    have := mnO_B B free val n
    simp only [mnO]
    split <;> omega
theorem spec_least_f (N : Nat) (hN : 64 < N) (n w : Nat) (hn : n ≤ 4) (hw : w < 2 ^ 2 ^ n) : ∀ (F m v : Nat), fc n m < F → m < 2 ^ n → v < 2 ^ n → ∀ k : Int → Option β, zj74 N F (n : Int) (w : Int) (m : Int) (v : Int) k = k (dep_ w n m v : Int) := by
  have hs := size4 hn
  have hw' := two32 (by omega) hw
  intro F
  induction F with
  | zero => intro m v h; omega
  | succ F ih =>
    intro m v hF hm hv k
    simp only [zj74, zj73, zb73]
    rw [spec_l3Cube_eq N hN n w m v (by omega) hw' (by omega), cres_bothV, dep_eq w n m v hn hm]
    cases hx : bothV w n m v with
    | false => rfl
    | true =>
      rw [if_pos rfl, Bool.not_true, cond_false]
      generalize hval : (fun i => 1 + max (dep_ w n (m ||| 2 ^ i) v) (dep_ w n (m ||| 2 ^ i) (v ||| 2 ^ i))) = val
      have hvi : ∀ i, 1 + max (dep_ w n (m ||| 2 ^ i) v) (dep_ w n (m ||| 2 ^ i) (v ||| 2 ^ i)) = val i := fun i => by rw [← hval]
      have key : ∀ (d G i : Nat), i + d = n → d < G → zj72 N (zj74 N F) G (m : Int) (v : Int) (mnO 10 (free m) val i : Int) (i : Int) (n : Int) (w : Int) k = k (mnO 10 (free m) val n : Int) := by
        intro d
        induction d with
        | zero =>
          intro G i hi hG
          obtain ⟨G, rfl⟩ : ∃ H, G = H + 1 := ⟨G - 1, by omega⟩
          simp only [zj72, zj71, zb71]
          rw [decide_eq_false (by omega : ¬ (i : Int) < (n : Int)), cond_false, show i = n by omega]
        | succ d ihd =>
          intro G i hi hG
          obtain ⟨G, rfl⟩ : ∃ H, G = H + 1 := ⟨G - 1, by omega⟩
          have hlt : i < n := by omega
          have hp : 2 ^ i < 2 ^ 4 := Nat.pow_lt_pow_right (by decide) (by omega)
          simp only [zj72, zj71, zb71]
          rw [decide_eq_true (by omega : (i : Int) < (n : Int)), cond_true, gd_true (decide_eq_true (by omega : (0 : Int) ≤ (i : Int))), shl_one i (by omega), bAnd m _ (by omega) (by omega), nat_eq_zero, and_bit m (by omega) i (by omega), bOr m _ (by omega) (by omega), bOr v _ (by omega) (by omega), w64_succ i (by omega)]
          have h1 := ihd G (i + 1) (by omega) (by omega)
          simp only [mnO] at h1
          cases hf : free m i with
          | false => rw [hf] at h1; exact h1
          | true =>
            rw [hf, if_pos rfl] at h1
            have h4 := fc_less n hn m hm i hlt hf
            have hmo := or_lt n hn m hm i hlt
            have hvo := or_lt n hn v hv i hlt
            have hd1 := dep_le w n (m ||| 2 ^ i) v hn hmo
            have hd2 := dep_le w n (m ||| 2 ^ i) (v ||| 2 ^ i) hn hmo
            have hfc := fc_le n (m ||| 2 ^ i)
            have hB := mnO_B 10 (free m) val i
            rw [cond_true, ih _ v (by omega) hmo hv, ih _ _ (by omega) hmo hvo, mxI_nat, show (1 : Int) + ((max (dep_ w n (m ||| 2 ^ i) v) (dep_ w n (m ||| 2 ^ i) (v ||| 2 ^ i)) : Nat) : Int) = ((1 + max (dep_ w n (m ||| 2 ^ i) v) (dep_ w n (m ||| 2 ^ i) (v ||| 2 ^ i)) : Nat) : Int) by omega, w64_nat _ (by omega), mnI_nat, hvi]
            exact h1
      exact key n N 0 (by omega) (by omega)
theorem spec_least_eq (N : Nat) (hN : 64 < N) (n w : Nat) (hn : n ≤ 4) (hw : w < 2 ^ 2 ^ n) (m v : Nat) (hm : m < 2 ^ n) (hv : v < 2 ^ n) (k : Int → Option β) : zj75 N (n : Int) (w : Int) (m : Int) (v : Int) k = k (dep_ w n m v : Int) := by
  have := fc_le n m
  exact spec_least_f N hN n w hn hw N m v (by omega) hm hv k
theorem sub_or (m v b : Nat) (h : v &&& m = v) : v &&& (m ||| b) = v ∧ (v ||| b) &&& (m ||| b) = v ||| b := by
  have hb : ∀ j, v.testBit j = true → m.testBit j = true := fun j hj => by
    have e := congrArg (fun x => x.testBit j) h
    simp only [Nat.testBit_and, hj, Bool.true_and] at e
    exact e
  constructor
  · apply Nat.eq_of_testBit_eq
    intro j
    have := hb j
    simp only [Nat.testBit_and, Nat.testBit_or]
    cases hv : v.testBit j with
    | false => rfl
    | true => rw [this hv]; rfl
  · apply Nat.eq_of_testBit_eq
    intro j
    have := hb j
    simp only [Nat.testBit_and, Nat.testBit_or]
    cases hv : v.testBit j with
    | false => cases m.testBit j <;> cases b.testBit j <;> rfl
    | true => rw [this hv]; rfl
theorem spec_best_f (N : Nat) (hN : 64 < N) (n w : Nat) (hn : n ≤ 4) (hw : w < 2 ^ 2 ^ n) : ∀ (F m v : Nat), fc n m < F → m < 2 ^ n → v < 2 ^ n → v &&& m = v → ∀ k : ByteArray → Option β,
    zj79 N F (n : Int) (w : Int) (m : Int) (v : Int) k = k (B (bst w n F m v)) := by
  have hs := size4 hn
  have hw' := two32 (by omega) hw
  intro F
  induction F with
  | zero => intro m v h; omega
  | succ F ih =>
    intro m v hF hm hv hvm k
    simp only [zj79, zj78, zb78]
    rw [spec_l3Cube_eq N hN n w m v (by omega) hw' (by omega), cres_bothV]
    simp only [bst]
    cases hx : bothV w n m v with
    | false =>
      rw [if_neg (by decide), Bool.not_false, cond_true]
      unfold bothV at hx
      cases h0 : sc w m v false (2 ^ n) with
      | true =>
        rw [h0, Bool.true_and] at hx
        rw [hx]; rfl
      | false =>
        cases h1 : sc w m v true (2 ^ n) with
        | true => rfl
        | false => exact absurd (sc_some w n m v hv hvm) (by rw [h0, h1]; decide)
    | true =>
      rw [if_pos rfl, Bool.not_true, cond_false]
      have hfcn := fc_le n m
      rw [spec_least_eq N hN n w hn hw m v hm hv]
      obtain ⟨f1, f2, f3⟩ := fst_free hn hm hx
      have key : ∀ (d G i : Nat), i + d = n → d < G → (∃ j, i ≤ j ∧ j < i + d ∧ pick w n m v j = true) → fstI (pick w n m v) d i = fstI (pick w n m v) n 0 →
          zj77 N (zj79 N F) G (m : Int) (v : Int) (dep_ w n m v : Int) (i : Int) (n : Int) (w : Int) k (k ByteArray.empty) =
          k (B (UInt8.ofNat (97 + fstI (pick w n m v) n 0) :: (bst w n F (m ||| 2 ^ fstI (pick w n m v) n 0) v ++ bst w n F (m ||| 2 ^ fstI (pick w n m v) n 0) (v ||| 2 ^ fstI (pick w n m v) n 0)))) := by
        intro d
        induction d with
        | zero => intro G i _ _ ⟨j, h1, h2, _⟩; omega
        | succ d ihd =>
          intro G i hi hG hex hst
          obtain ⟨G, rfl⟩ : ∃ H, G = H + 1 := ⟨G - 1, by omega⟩
          have hlt : i < n := by omega
          have hp : 2 ^ i < 2 ^ 4 := Nat.pow_lt_pow_right (by decide) (by omega)
          simp only [zj77, zj76, zb76]
          rw [decide_eq_true (by omega : (i : Int) < (n : Int)), cond_true, gd_true (decide_eq_true (by omega : (0 : Int) ≤ (i : Int))), shl_one i (by omega), bAnd m _ (by omega) (by omega), nat_eq_zero, and_bit m (by omega) i (by omega), bOr m _ (by omega) (by omega), bOr v _ (by omega) (by omega), w64_succ i (by omega)]
          simp only [fstI] at hst
          have next : pick w n m v i = false → zj77 N (zj79 N F) G (m : Int) (v : Int) (dep_ w n m v : Int) ((i + 1 : Nat) : Int) (n : Int) (w : Int) k (k ByteArray.empty) =
              k (B (UInt8.ofNat (97 + fstI (pick w n m v) n 0) :: (bst w n F (m ||| 2 ^ fstI (pick w n m v) n 0) v ++ bst w n F (m ||| 2 ^ fstI (pick w n m v) n 0) (v ||| 2 ^ fstI (pick w n m v) n 0)))) := by
            intro hno
            rw [hno, if_neg (by decide)] at hst
            refine ihd G (i + 1) (by omega) (by omega) ?_ hst
            obtain ⟨j, h1, h2, h3⟩ := hex
            have hne : j ≠ i := fun e => by rw [e, hno] at h3; cases h3
            exact ⟨j, by omega, by omega, h3⟩
          cases hf : free m i with
          | false =>
            rw [cond_false]
            exact next (by unfold pick; rw [hf]; rfl)
          | true =>
            have h4 := fc_less n hn m hm i hlt hf
            have hmo := or_lt n hn m hm i hlt
            have hvo := or_lt n hn v hv i hlt
            have hd1 := dep_le w n (m ||| 2 ^ i) v hn hmo
            have hd2 := dep_le w n (m ||| 2 ^ i) (v ||| 2 ^ i) hn hmo
            have hfc := fc_le n (m ||| 2 ^ i)
            rw [cond_true, spec_least_eq N hN n w hn hw _ v hmo hv, spec_least_eq N hN n w hn hw _ _ hmo hvo, mxI_nat, show (1 : Int) + ((max (dep_ w n (m ||| 2 ^ i) v) (dep_ w n (m ||| 2 ^ i) (v ||| 2 ^ i)) : Nat) : Int) = ((1 + max (dep_ w n (m ||| 2 ^ i) v) (dep_ w n (m ||| 2 ^ i) (v ||| 2 ^ i)) : Nat) : Int) by omega, w64_nat _ (by omega), natb]
            have hpk : pick w n m v i = (1 + max (dep_ w n (m ||| 2 ^ i) v) (dep_ w n (m ||| 2 ^ i) (v ||| 2 ^ i)) == dep_ w n m v) := by unfold pick; rw [hf, Bool.true_and]
            rw [← hpk]
            cases hpi : pick w n m v i with
            | false => rw [cond_false]; exact next hpi
            | true =>
              rw [hpi, if_pos rfl] at hst
              rw [← hst]
              have l1 := bst_small w n hn F (m ||| 2 ^ i) v hmo hv
              have l2 := bst_small w n hn F (m ||| 2 ^ i) (v ||| 2 ^ i) hmo hvo
              rw [cond_true, letters_size, gd_true (decide_eq_true (by omega)), gd_true (decide_eq_true (by omega)), gd_true (decide_eq_true (by omega)), gd_true (decide_eq_true (by omega)), Int.toNat_natCast, Int.toNat_natCast, letter_ext i (by omega), ih _ v (by omega) hmo hv (sub_or m v (2 ^ i) hvm).1, B_size, B_size, gd_true (decide_eq_true (by simp only [List.length_cons, List.length_nil]; omega)), ih _ _ (by omega) hmo hvo (sub_or m v (2 ^ i) hvm).2, B_app, B_size, B_size, gd_true (decide_eq_true (by simp only [List.length_append, List.length_cons, List.length_nil]; omega)), B_app]
              rfl
      exact key n N 0 (by omega) (by omega) ⟨_, Nat.zero_le _, by omega, f3⟩ rfl
theorem spec_BestTree_eq (N : Nat) (hN : 64 < N) (a0 a1 : Int) (k : ByteArray → Bool → Option β) : zj81 N a0 a1 k = k (B (bestT N a0 a1)) (smallT a0 a1 4) := by
  unfold zj81 zb81 bestT
  rw [spec_IsTable_eq]
  cases ht : isT a0 a1 with
  | false =>
    have hs : smallT a0 a1 4 = false := by unfold smallT; rw [ht]; rfl
    rw [hs]; rfl
  | true =>
    obtain ⟨n, w, rfl, rfl, hn, hw, _⟩ := isT_nat ht
    by_cases h : n ≤ 4
    · have hs : smallT (n : Int) (w : Int) 4 = true := by unfold smallT; rw [ht, decide_eq_true (by omega)]; rfl
      have hfc := fc_le n 0
      have e := spec_best_f (β := β) N hN n w h hw N 0 0 (by omega) (Nat.two_pow_pos n) (Nat.two_pow_pos n) rfl fun r => k r true
      simp only [Int.natCast_zero] at e
      rw [hs, if_pos rfl, Bool.not_true, cond_false, decide_eq_false (by omega), cond_false]
      exact e
    · have hs : smallT (n : Int) (w : Int) 4 = false := by unfold smallT; rw [ht, decide_eq_false (by omega)]; rfl
      rw [hs, Bool.not_true, cond_false, decide_eq_true (by omega), cond_true]
      rfl
def tbits (w m : Nat) : List UInt8 := (List.range m).map fun x => if w.testBit x then 49 else 48
def ibits (w m : Nat) : List Int := (List.range m).map fun x => 48 + (bw w x : Int)
theorem ibits_len (w m : Nat) : (ibits w m).length = m := by simp [ibits]
theorem ibits_succ (w m : Nat) : ibits w (m + 1) = ibits w m ++ [48 + (bw w m : Int)] := by simp [ibits, List.range_succ]
theorem impl_FormatTable_n (N n w : Nat) (hN : 64 < N) (hn : n ≤ 5) (hw : w < 2 ^ 2 ^ n) (k : ByteArray → Option β) : zj101 N (n : Int) (w : Int) k = k (B (tbits w (2 ^ n))) := by
  have hw' := w_small hn hw
  have hs := size_le hn
  have hz : (0 : Int) ≤ ((2 ^ n : Nat) : Int) := Int.natCast_nonneg _
  unfold zj101 zb101
  rw [impl_IsTable_eq N _ _ (by omega), isTn hn hw, Bool.not_true, cond_false, impl_Table_size_eq N n _ hn, gd_true (decide_eq_true (by omega)), gd_true (decide_eq_true (by omega)), gd_true (decide_eq_true (by omega)), Int.toNat_natCast, List.length_replicate]
  have key := loop_st (fun F x => zj100 N F ((2 ^ n : Nat) : Int) (x : Int) (n : Int) (w : Int) (ibits w x ++ List.replicate (2 ^ n - x) 0) fun e => k (strOf e)) (2 ^ n) (k (B (tbits w (2 ^ n)))) (fun F x hx => ?_) (fun F => ?_) N 0 (by omega) (by omega)
  · simpa [ibits] using key
  · simp only [zj100, zj99, zb99]
    have hb := bw_le w x
    rw [decide_eq_true (by omega), cond_true, impl_Table_at_eq N w x _ hw', gd_true (decide_eq_true (by omega)), gd_true (decide_eq_true (by simp [ibits_len]; omega)), w64_succ x (by omega)]
    rw [w8_small _ (by omega), show (48 : Int) + (bw w x : Int) = ((48 + bw w x : Nat) : Int) by omega, w8_small _ (by omega), show 2 ^ n - x = (2 ^ n - (x + 1)) + 1 by omega, List.replicate_succ, ibits_succ]
    have e := wr_mid (ibits w x) (0 : Int) ((48 + bw w x : Nat) : Int) (List.replicate (2 ^ n - (x + 1)) 0)
    rw [ibits_len] at e
    rw [e]
    simp
  · simp only [zj100, zj99, zb99]
    rw [decide_eq_false (by omega), cond_false]
    congr 1
    rw [B_strOf, Nat.sub_self, List.replicate_zero, List.append_nil]
    congr 1
    unfold ibits tbits
    rw [List.map_map]
    apply List.map_congr_left
    intro x _
    simp only [Function.comp, bw]
    cases w.testBit x <;> rfl
theorem tbits_succ (w m : Nat) : tbits w (m + 1) = tbits w m ++ [if w.testBit m then 49 else 48] := by simp [tbits, List.range_succ]
theorem tbits_len (w m : Nat) : (tbits w m).length = m := by simp [tbits]
theorem spec_FormatTable_n (N n w : Nat) (hN : 64 < N) (hn : n ≤ 5) (hw : w < 2 ^ 2 ^ n) (k : ByteArray → Option β) : zj29 N (n : Int) (w : Int) k = k (B (tbits w (2 ^ n))) := by
  have hw' := w_small hn hw
  have hs := size_le hn
  have hz : (0 : Int) ≤ ((2 ^ n : Nat) : Int) := Int.natCast_nonneg _
  refine loop_st (fun F x => zj28 N F (B (tbits w x)) (x : Int) (n : Int) (w : Int) fun e => k e) (2 ^ n) _ (fun F x hx => ?_) (fun F => ?_) N 0 (by omega) (by omega)
  · simp only [zj28, zj27, zb27]
    rw [spec_IsTable_eq, isTn hn hw, cond_true, gd_true (decide_eq_true (by omega)), shl_one n (by omega), decide_eq_true (by omega), cond_true, gd_true (decide_eq_true (by omega)), bit_w w x (by omega), bw_eq1, w64_succ x (by omega), tbits_succ]
    simp only [B_strOf, B_app, B_size]
    rw [gd_true (decide_eq_true (by simp [tbits_len]; omega)), gd_true (decide_eq_true (by simp [tbits_len]; omega))]
    cases w.testBit x <;> rfl
  · simp only [zj28, zj27, zb27]
    rw [spec_IsTable_eq, isTn hn hw, cond_true, gd_true (decide_eq_true (by omega)), shl_one n (by omega), decide_eq_false (by omega), cond_false]
theorem sz_16 : ∀ n, n ≤ 4 → 2 ^ 2 ^ n ≤ 65536 := by decide +kernel
theorem any_loop (N : Nat) (hN : 1048576 < N) (o : List (Nat × Nat)) (ho : o.length ≤ 1000) (h : Int → Int → (Bool → Option β) → Option β) (p : Nat × Nat → Bool) (hh : ∀ t ∈ o, ∀ k, h (t.1 : Int) (t.2 : Int) k = k (p t)) (K : Bool → Option β) : zj11 N (tl o) h K = K (o.any p) := by
  unfold zj11 zb11 zj10 zb10
  rw [tl_len]
  have key : ∀ (d i F : Nat), o.length - i = d → i ≤ o.length → d < F → zj9 N h F (tl o) (o.length : Int) (i : Int) (fun e => K (decide (e ≥ 0))) (K (decide ((-1 : Int) ≥ 0))) = K ((o.drop i).any p) := by
    intro d
    induction d with
    | zero =>
      intro i F hd hi hF
      obtain ⟨G, rfl⟩ : ∃ G, F = G + 1 := ⟨F - 1, by omega⟩
      simp only [zj9, zj8, zb8]
      rw [decide_eq_false (by omega), cond_false, List.drop_of_length_le (by omega)]
      rfl
    | succ d ih =>
      intro i F hd hi hF
      obtain ⟨G, rfl⟩ : ∃ G, F = G + 1 := ⟨F - 1, by omega⟩
      have hlt : i < o.length := by omega
      simp only [zj9, zj8, zb8, tl_len, rd_tl o i hlt]
      rw [decide_eq_true (by omega : (i : Int) < (o.length : Int)), cond_true, gd_true (decide_eq_true (by omega)), gd_true rfl, hh _ (List.getElem_mem hlt), w64_succ i (by omega), ih (i + 1) G (by omega) (by omega) (by omega), List.drop_eq_getElem_cons hlt, List.any_cons, decide_eq_true (by omega : (i : Int) ≥ 0)]
      cases p o[i] <;> rfl
  exact (key o.length 0 N (by omega) (by omega) (by omega)).trans (by rw [List.drop_zero])
end Go.Proofs.YtemihnclhcobnaaGreatDoor
namespace Go.Proofs.YtemihnclhcobnaaGreatDoor
open Go.Rv
set_option linter.unusedSimpArgs false
set_option linter.unusedVariables false
variable {β : Type}
theorem minus_bit : ∀ x a b : Nat, (a - (a &&& b)).testBit x = (a.testBit x && !b.testBit x)
  | 0, a, b => by
    have h1 : (a &&& b) % 2 = 1 ↔ a % 2 = 1 ∧ b % 2 = 1 := Nat.and_mod_two_eq_one
    have h2 : a &&& b ≤ a := Nat.and_le_left
    rw [Nat.testBit_zero, Nat.testBit_zero, Nat.testBit_zero]
    have e : (a - (a &&& b)) % 2 = 1 ↔ a % 2 = 1 ∧ ¬ b % 2 = 1 := by omega
    rw [Bool.eq_iff_iff]
    simp only [decide_eq_true_eq, Bool.and_eq_true, Bool.not_eq_true', decide_eq_false_iff_not]
    exact e
  | x + 1, a, b => by
    have h1 : (a &&& b) % 2 = 1 ↔ a % 2 = 1 ∧ b % 2 = 1 := Nat.and_mod_two_eq_one
    have h2 : (a &&& b) / 2 = a / 2 &&& b / 2 := Nat.and_div_two
    have h3 : a / 2 &&& b / 2 ≤ a / 2 := Nat.and_le_left
    rw [Nat.testBit_succ, Nat.testBit_succ, Nat.testBit_succ, ← minus_bit x (a / 2) (b / 2)]
    congr 1
    omega
theorem zero_bits {a : Nat} : a = 0 ↔ ∀ x, a.testBit x = false := ⟨fun h x => by rw [h, Nat.zero_testBit], fun h => Nat.eq_of_testBit_eq fun x => by rw [h x, Nat.zero_testBit]⟩
section
variable (wd : Nat → Nat) (T : Nat)
def cvr : List Nat → Nat → Nat → Option (List Nat)
  | [], _, left => cond (left == 0) (some []) none
  | t :: l, k, left => cond (left == 0) (some []) (match k with
    | 0 => none
    | k + 1 => cond (wd t &&& left == 0) (cvr l (k + 1) left) (match cvr l k (left - (left &&& wd t)) with
      | some r => some (t :: r)
      | none => cvr l (k + 1) left))
def chs : List Nat → Nat → Nat → Option (List Nat)
  | [], k, have_ => cond (k == 0) (cond (have_ == T) (some []) none) none
  | t :: l, k, have_ => match k with
    | 0 => cond (have_ == T) (some []) none
    | k + 1 => cond (decide (k + 1 ≤ l.length + 1)) (cond (wd t ^^^ (wd t &&& have_) == 0) (chs l (k + 1) have_) (match chs l k (have_ ||| wd t) with
      | some r => some (t :: r)
      | none => chs l (k + 1) have_)) none
def Cov (s : List Nat) (left : Nat) : Prop := ∀ x, left.testBit x = true → ∃ t ∈ s, (wd t).testBit x = true
theorem cvr_zero (l : List Nat) (k : Nat) : cvr wd l k 0 = some [] := by cases l <;> rfl
theorem cvr_none (l : List Nat) (left : Nat) (h : left ≠ 0) : cvr wd l 0 left = none := by
  have : (left == 0) = false := by simpa using h
  cases l <;> unfold cvr <;> rw [this] <;> rfl
theorem cvr_step (t : Nat) (l : List Nat) (k left : Nat) (h : left ≠ 0) : cvr wd (t :: l) (k + 1) left = cond (wd t &&& left == 0) (cvr wd l (k + 1) left) (match cvr wd l k (left - (left &&& wd t)) with
      | some r => some (t :: r)
      | none => cvr wd l (k + 1) left) := by
  have : (left == 0) = false := by simpa using h
  rw [cvr, this, cond_false]
theorem cvr_nil (k left : Nat) (h : left ≠ 0) : cvr wd [] k left = none := by
  have : (left == 0) = false := by simpa using h
  rw [cvr, this, cond_false]
theorem cvr_sound : ∀ (l : List Nat) (k left : Nat) (r : List Nat), cvr wd l k left = some r → (∀ t ∈ r, t ∈ l) ∧ r.length ≤ l.length ∧ r.length ≤ k ∧ Cov wd r left := by
  intro l
  induction l with
  | nil =>
    intro k left r h
    by_cases h0 : left = 0
    · subst h0
      rw [cvr_zero, Option.some.injEq] at h
      subst h
      exact ⟨fun t h => h, Nat.le_refl _, Nat.zero_le _, fun x hx => by rw [Nat.zero_testBit] at hx; cases hx⟩
    · rw [cvr_nil wd k left h0] at h; cases h
  | cons t l ih =>
    intro k left r h
    by_cases h0 : left = 0
    · subst h0
      rw [cvr_zero, Option.some.injEq] at h
      subst h
      exact ⟨(fun t h => by cases h), Nat.zero_le _, Nat.zero_le _, fun x hx => by rw [Nat.zero_testBit] at hx; cases hx⟩
    · cases k with
      | zero => rw [cvr_none wd _ _ h0] at h; cases h
      | succ k =>
        rw [cvr_step wd t l k left h0] at h
        have skip : cvr wd l (k + 1) left = some r → (∀ x ∈ r, x ∈ t :: l) ∧ r.length ≤ (t :: l).length ∧ r.length ≤ k + 1 ∧ Cov wd r left := fun h => by
          obtain ⟨h1, h2, h3, h4⟩ := ih (k + 1) left r h
          exact ⟨fun x hx => List.mem_cons_of_mem _ (h1 x hx), by rw [List.length_cons]; omega, h3, h4⟩
        cases hc : (wd t &&& left == 0) with
        | true => rw [hc, cond_true] at h; exact skip h
        | false =>
          rw [hc, cond_false] at h
          cases hr : cvr wd l k (left - (left &&& wd t)) with
          | none => rw [hr] at h; exact skip h
          | some r' =>
            rw [hr, Option.some.injEq] at h
            subst h
            obtain ⟨h1, h2, h3, h4⟩ := ih k _ r' hr
            refine ⟨fun x hx => ?_, by rw [List.length_cons, List.length_cons]; omega, by rw [List.length_cons]; omega, fun x hx => ?_⟩
            · rcases List.mem_cons.1 hx with rfl | hx
              · exact List.mem_cons_self
              · exact List.mem_cons_of_mem _ (h1 x hx)
            · cases hb : (wd t).testBit x with
              | true => exact ⟨t, List.mem_cons_self, hb⟩
              | false =>
                obtain ⟨u, hu, hux⟩ := h4 x (by rw [minus_bit, hx, hb]; rfl)
                exact ⟨u, List.mem_cons_of_mem _ hu, hux⟩
theorem cvr_full : ∀ (l : List Nat) (k left : Nat) (s : List Nat), (∀ t ∈ s, t ∈ l) → s.length ≤ k → Cov wd s left → cvr wd l k left ≠ none := by
  intro l
  induction l with
  | nil =>
    intro k left s hs hk hc h
    by_cases h0 : left = 0
    · subst h0; rw [cvr_zero] at h; cases h
    · apply h0
      rw [zero_bits]
      intro x
      cases hx : left.testBit x with
      | false => rfl
      | true =>
        obtain ⟨t, ht, _⟩ := hc x hx
        cases hs t ht
  | cons t l ih =>
    intro k left s hs hk hc h
    by_cases h0 : left = 0
    · subst h0; rw [cvr_zero] at h; cases h
    · have hne : s ≠ [] := by
        rintro rfl
        apply h0
        rw [zero_bits]
        intro x
        cases hx : left.testBit x with
        | false => rfl
        | true =>
          obtain ⟨t, ht, _⟩ := hc x hx
          cases ht
      have hpos : 0 < s.length := List.length_pos_iff.2 hne
      obtain ⟨k, rfl⟩ : ∃ k', k = k' + 1 := ⟨k - 1, by omega⟩
      rw [cvr_step wd t l k left h0] at h
      have memf : ∀ u ∈ s.filter (· != t), u ∈ l := fun u hu => by
        rw [List.mem_filter] at hu
        rcases List.mem_cons.1 (hs u hu.1) with rfl | h
        · simp at hu
        · exact h
      have skip : (∀ x, left.testBit x = true → (wd t).testBit x = false) ∨ t ∉ s → cvr wd l (k + 1) left = none → False := fun hh h => by
        rcases hh with hh | hh
        · refine ih (k + 1) left (s.filter (· != t)) memf (Nat.le_trans (List.length_filter_le _ _) hk) (fun x hx => ?_) h
          obtain ⟨u, hu, hux⟩ := hc x hx
          refine ⟨u, List.mem_filter.2 ⟨hu, ?_⟩, hux⟩
          have : u ≠ t := by rintro rfl; rw [hh x hx] at hux; cases hux
          simpa using this
        · refine ih (k + 1) left s (fun u hu => ?_) hk hc h
          rcases List.mem_cons.1 (hs u hu) with rfl | h
          · exact absurd hu hh
          · exact h
      cases hb : (wd t &&& left == 0) with
      | true =>
        rw [hb, cond_true] at h
        refine skip (Or.inl fun x hx => ?_) h
        have h1 := (zero_bits.1 (eq_of_beq hb)) x
        rw [Nat.testBit_and, hx, Bool.and_true] at h1
        exact h1
      | false =>
        rw [hb, cond_false] at h
        cases hr : cvr wd l k (left - (left &&& wd t)) with
        | some r => rw [hr] at h; cases h
        | none =>
          rw [hr] at h
          by_cases hm : t ∈ s
          · refine ih k _ (s.filter (· != t)) memf ?_ (fun x hx => ?_) hr
            · have : (s.filter (· != t)).length < s.length := by
                rw [List.length_filter_lt_length_iff_exists]
                exact ⟨t, hm, by simp⟩
              omega
            · rw [minus_bit, Bool.and_eq_true, Bool.not_eq_true'] at hx
              obtain ⟨u, hu, hux⟩ := hc x hx.1
              refine ⟨u, List.mem_filter.2 ⟨hu, ?_⟩, hux⟩
              have : u ≠ t := by rintro rfl; rw [hx.2] at hux; cases hux
              simpa using this
          · exact skip (Or.inr hm) h
theorem chs_cvr : ∀ (l : List Nat) (k have_ left : Nat), (∀ t ∈ l, ∀ x, (wd t).testBit x = true → T.testBit x = true) → (∀ x, have_.testBit x = true → T.testBit x = true) → (∀ x, left.testBit x = (T.testBit x && !have_.testBit x)) →
    (∀ s : List Nat, (∀ t ∈ s, t ∈ l) → s.length < k → ¬ Cov wd s left) → chs wd T l k have_ = cvr wd l k left := by
  have hz : ∀ (have_ left : Nat), (∀ x, have_.testBit x = true → T.testBit x = true) → (∀ x, left.testBit x = (T.testBit x && !have_.testBit x)) → (have_ == T) = (left == 0) := fun have_ left h1 h2 => by
    have : have_ = T ↔ left = 0 := by
      rw [zero_bits]
      constructor
      · rintro rfl x
        rw [h2]; cases have_.testBit x <;> rfl
      · intro h
        refine Nat.eq_of_testBit_eq fun x => ?_
        have h3 := h x
        rw [h2] at h3
        have h4 := h1 x
        revert h3 h4
        cases T.testBit x <;> cases have_.testBit x <;> simp
    by_cases h : have_ = T
    · rw [show (have_ == T) = true by simp [h], show (left == 0) = true by simp [this.1 h]]
    · rw [show (have_ == T) = false by simp [h], show (left == 0) = false by simpa using fun h' => h (this.2 h')]
  intro l
  induction l with
  | nil =>
    intro k have_ left _ h1 h2 hm
    unfold chs cvr
    rw [hz have_ left h1 h2]
    cases k with
    | zero => rfl
    | succ k =>
      have h0 : left ≠ 0 := fun h0 => hm [] (fun t h => h) (Nat.zero_lt_succ k) (fun x hx => by rw [h0, Nat.zero_testBit] at hx; cases hx)
      rw [show (left == 0) = false by simpa using h0]
      rfl
  | cons t l ih =>
    intro k have_ left hw h1 h2 hm
    cases k with
    | zero =>
      unfold chs cvr
      rw [hz have_ left h1 h2]
    | succ k =>
      have h0 : left ≠ 0 := fun h0 => hm [] (fun t h => by cases h) (Nat.zero_lt_succ k) (fun x hx => by rw [h0, Nat.zero_testBit] at hx; cases hx)
      have hlow : ¬ (k + 1 ≤ l.length + 1) → cvr wd (t :: l) (k + 1) left = none := fun hlt => by
        cases hr : cvr wd (t :: l) (k + 1) left with
        | none => rfl
        | some r =>
          obtain ⟨a1, a2, a3, a4⟩ := cvr_sound wd _ _ _ r hr
          rw [List.length_cons] at a2
          exact absurd a4 (hm r a1 (by omega))
      unfold chs
      dsimp only
      by_cases hlt : k + 1 ≤ l.length + 1
      · rw [decide_eq_true hlt, cond_true, cvr_step wd t l k left h0]
        have hc : (wd t ^^^ (wd t &&& have_) == 0) = (wd t &&& left == 0) := by
          have : wd t ^^^ (wd t &&& have_) = wd t &&& left := by
            refine Nat.eq_of_testBit_eq fun x => ?_
            have h3 := hw t List.mem_cons_self x
            rw [Nat.testBit_xor, Nat.testBit_and, Nat.testBit_and, h2]
            revert h3
            cases (wd t).testBit x <;> cases T.testBit x <;> cases have_.testBit x <;> simp
          rw [this]
        rw [hc]
        have i1 : chs wd T l (k + 1) have_ = cvr wd l (k + 1) left := ih (k + 1) have_ left (fun u hu => hw u (List.mem_cons_of_mem _ hu)) h1 h2 (fun s hs hl => hm s (fun u hu => List.mem_cons_of_mem _ (hs u hu)) hl)
        have i2 : chs wd T l k (have_ ||| wd t) = cvr wd l k (left - (left &&& wd t)) := ih k _ _ (fun u hu => hw u (List.mem_cons_of_mem _ hu)) (fun x hx => by
            rw [Nat.testBit_or, Bool.or_eq_true] at hx
            exact hx.elim (h1 x) (hw t List.mem_cons_self x)) (fun x => by
            rw [minus_bit, h2, Nat.testBit_or]
            cases T.testBit x <;> cases have_.testBit x <;> cases (wd t).testBit x <;> rfl) (fun s hs hl hcv => by
            refine hm (t :: s) (fun u hu => ?_) (by rw [List.length_cons]; omega) (fun x hx => ?_)
            · rcases List.mem_cons.1 hu with rfl | hu
              · exact List.mem_cons_self
              · exact List.mem_cons_of_mem _ (hs u hu)
            · cases hb : (wd t).testBit x with
              | true => exact ⟨t, List.mem_cons_self, hb⟩
              | false =>
                obtain ⟨u, hu, hux⟩ := hcv x (by rw [minus_bit, hx, hb]; rfl)
                exact ⟨u, List.mem_cons_of_mem _ hu, hux⟩)
        rw [i1, i2]
      · rw [decide_eq_false hlt, cond_false, hlow hlt]
theorem first_same (l : List Nat) (hw : ∀ t ∈ l, ∀ x, (wd t).testBit x = true → T.testBit x = true) (k : Nat) (h : ∀ j, j < k → cvr wd l j T = none) : chs wd T l k 0 = cvr wd l k T :=
  chs_cvr wd T l k 0 T hw (fun x hx => by rw [Nat.zero_testBit] at hx; cases hx) (fun x => by rw [Nat.zero_testBit, Bool.not_false, Bool.and_true]) (fun s hs hl hc => cvr_full wd l s.length T s hs (Nat.le_refl _) hc (h s.length hl))
theorem pick_each (P : Nat → Nat → Prop) (l : List Nat) : ∀ J : Nat, ∃ s : List Nat, (∀ t ∈ s, t ∈ l) ∧ s.length ≤ J ∧ ∀ j, j < J → (∃ t ∈ l, P j t) → ∃ t ∈ s, P j t
  | 0 => ⟨[], (fun t h => by cases h), Nat.le_refl _, fun j h => absurd h (Nat.not_lt_zero _)⟩
  | J + 1 => by
    obtain ⟨s, h1, h2, h3⟩ := pick_each P l J
    by_cases hj : ∃ t ∈ l, P J t
    · obtain ⟨t, ht, hp⟩ := hj
      refine ⟨t :: s, fun u hu => ?_, by rw [List.length_cons]; omega, fun j hj he => ?_⟩
      · rcases List.mem_cons.1 hu with rfl | hu
        · exact ht
        · exact h1 u hu
      · rcases Nat.lt_or_ge j J with h | h
        · obtain ⟨u, hu, hpu⟩ := h3 j h he
          exact ⟨u, List.mem_cons_of_mem _ hu, hpu⟩
        · have : j = J := by omega
          subst this
          exact ⟨t, List.mem_cons_self, hp⟩
    · refine ⟨s, h1, by omega, fun j hj' he => ?_⟩
      rcases Nat.lt_or_ge j J with h | h
      · exact h3 j h he
      · have : j = J := by omega
        subst this
        exact absurd he hj
end
end Go.Proofs.YtemihnclhcobnaaGreatDoor
namespace Go.Proofs.YtemihnclhcobnaaGreatDoor
open Go.Rv
variable {β : Type}
def wdO (n : Nat) (o : List (Nat × Nat)) (i : Nat) : Nat := tabw (fun x => x &&& (o.getD i (0, 0)).1 == (o.getD i (0, 0)).2) (2 ^ n)
theorem wdO_bit (n : Nat) (o : List (Nat × Nat)) (i x : Nat) : (wdO n o i).testBit x = (decide (x < 2 ^ n) && (x &&& (o.getD i (0, 0)).1 == (o.getD i (0, 0)).2)) := tabw_bit _ _ _
theorem getD_o (o : List (Nat × Nat)) (i : Nat) (h : i < o.length) : o.getD i (0, 0) = o[i] := by simp [List.getD, h]
theorem pr1 : ∀ n : Nat, n ≤ 4 → ∀ x : Nat, x < 2 ^ n → (x &&& (2 ^ n - 1) == x) = true ∧ ∀ z : Nat, z < 2 ^ n → (z &&& (2 ^ n - 1) == x) = (z == x) := by decide +kernel
theorem pr2 : ∀ n : Nat, n ≤ 4 → ∀ x : Nat, x < 2 ^ n → x ^^^ 1 < 2 ^ n → ((x &&& (2 ^ n - 2)) &&& (2 ^ n - 2) == (x &&& (2 ^ n - 2))) = true ∧ ∀ z : Nat, z < 2 ^ n → (z &&& (2 ^ n - 2) == (x &&& (2 ^ n - 2))) = (z == x || z == x ^^^ 1) := by decide +kernel
theorem pr3 : ∀ x : Nat, x < 16 → ∀ z : Nat, z < 16 → (z / 2 == x / 2) = (z == x || z == x ^^^ 1) := by decide +kernel
theorem lt_of_bit {n w x : Nat} (hw : w < 2 ^ 2 ^ n) (h : w.testBit x = true) : x < 2 ^ n := by
  rcases Nat.lt_or_ge x (2 ^ n) with h1 | h1
  · exact h1
  · have : w < 2 ^ x := Nat.lt_of_lt_of_le hw (Nat.pow_le_pow_right (by decide) h1)
    rw [Nat.testBit_lt_two_pow this] at h
    cases h
theorem imp_of {n w m v : Nat} (hv : v < 2 ^ n) (hm : (v &&& m == v) = true) (h : ∀ z, z < 2 ^ n → (z &&& m == v) = true → w.testBit z = true) : imp n w m v = true := by
  unfold imp
  rw [Bool.and_eq_true, Bool.not_eq_true']
  constructor
  · cases ha : anyTo (fun x => (x &&& m == v) && !w.testBit x) (2 ^ n) with
    | false => rfl
    | true =>
      obtain ⟨z, hz, hb⟩ := anyTo_iff.1 ha
      rw [Bool.and_eq_true, Bool.not_eq_true'] at hb
      rw [h z hz hb.1] at hb
      cases hb.2
  · exact anyTo_iff.2 ⟨v, hv, by rw [hm, h v hv hm]; rfl⟩
theorem prime_for (n w : Nat) (hn : n ≤ 4) (hw : w < 2 ^ 2 ^ n) (x : Nat) (hx : w.testBit x = true) : ∃ i ∈ List.range (prl n w (2 ^ n)).length, ∀ z, z / 2 = x / 2 → w.testBit z = true → (wdO n (prl n w (2 ^ n)) i).testBit z = true := by
  have hs : 2 ^ n ≤ 16 := (Nat.pow_le_pow_right (by decide) hn : 2 ^ n ≤ 2 ^ 4)
  have hx2 := lt_of_bit hw hx
  have key : ∀ m v : Nat, m < 2 ^ n → v < 2 ^ n → (v &&& m == v) = true → (∀ z, z < 2 ^ n → (z &&& m == v) = true → w.testBit z = true) → (∀ z, z / 2 = x / 2 → w.testBit z = true → (z &&& m == v) = true) → ∃ i ∈ List.range (prl n w (2 ^ n)).length, ∀ z, z / 2 = x / 2 → w.testBit z = true → (wdO n (prl n w (2 ^ n)) i).testBit z = true := by
    intro m v hm hv hmv h1 h2
    obtain ⟨m', v', g1, g2, g3, g4⟩ := extend n w hn _ m v (Nat.lt_succ_self m) hm hmv (imp_of hv hmv h1)
    have hle : v' ≤ m' := by rw [← eq_of_beq g2]; exact Nat.and_le_right
    have hmem : (m', v') ∈ prl n w (2 ^ n) := (prl_mem n w _ _).2 ⟨m', g1, v', by omega, g2, g3, rfl⟩
    obtain ⟨i, hi, he⟩ := List.getElem_of_mem hmem
    refine ⟨i, List.mem_range.2 hi, fun z hz hb => ?_⟩
    have hz2 := lt_of_bit hw hb
    rw [wdO_bit, getD_o _ i hi, he, decide_eq_true hz2, Bool.true_and]
    dsimp only
    rw [g4 z (by omega) (eq_of_beq (h2 z hz hb)), beq_self_eq_true]
  cases hy : w.testBit (x ^^^ 1) with
  | true =>
    have hy2 := lt_of_bit hw hy
    obtain ⟨p1, p2⟩ := pr2 n hn x hx2 hy2
    have hle : x &&& (2 ^ n - 2) ≤ x := Nat.and_le_left
    have hpos : 0 < 2 ^ n := Nat.two_pow_pos n
    refine key (2 ^ n - 2) (x &&& (2 ^ n - 2)) (by omega) (by omega) p1 (fun z hz h => ?_) (fun z hz hb => ?_)
    · rw [p2 z hz, Bool.or_eq_true, beq_iff_eq, beq_iff_eq] at h
      rcases h with rfl | rfl
      · exact hx
      · exact hy
    · have hz2 := lt_of_bit hw hb
      rw [p2 z hz2, ← pr3 x (by omega) z (by omega)]
      exact beq_iff_eq.2 hz
  | false =>
    obtain ⟨p1, p2⟩ := pr1 n hn x hx2
    have hpos : 0 < 2 ^ n := Nat.two_pow_pos n
    refine key (2 ^ n - 1) x (by omega) hx2 p1 (fun z hz h => ?_) (fun z hz hb => ?_)
    · rw [p2 z hz, beq_iff_eq] at h
      rw [h]; exact hx
    · have hz2 := lt_of_bit hw hb
      rw [p2 z hz2]
      have h3 := pr3 x (by omega) z (by omega)
      rw [beq_iff_eq.2 hz] at h3
      have h4 := h3.symm
      rw [Bool.or_eq_true, beq_iff_eq, beq_iff_eq] at h4
      rcases h4 with rfl | rfl
      · exact beq_iff_eq.2 rfl
      · rw [hy] at hb; cases hb
theorem eight (n w : Nat) (hn : n ≤ 4) (hw : w < 2 ^ 2 ^ n) : cvr (wdO n (prl n w (2 ^ n))) (List.range (prl n w (2 ^ n)).length) 8 w ≠ none := by
  have hs : 2 ^ n ≤ 16 := (Nat.pow_le_pow_right (by decide) hn : 2 ^ n ≤ 2 ^ 4)
  obtain ⟨s, h1, h2, h3⟩ := pick_each (fun j i => ∀ z, z / 2 = j → w.testBit z = true → (wdO n (prl n w (2 ^ n)) i).testBit z = true) (List.range (prl n w (2 ^ n)).length) 8
  refine cvr_full _ _ 8 w s h1 h2 fun x hx => ?_
  have hx2 := lt_of_bit hw hx
  obtain ⟨i, hi, hp⟩ := h3 (x / 2) (by omega) (prime_for n w hn hw x hx)
  exact ⟨i, hi, hp x rfl hx⟩
theorem prime_in (n w : Nat) : ∀ i ∈ List.range (prl n w (2 ^ n)).length, ∀ x, (wdO n (prl n w (2 ^ n)) i).testBit x = true → w.testBit x = true := by
  intro i hi x hx
  have hi2 := List.mem_range.1 hi
  rw [wdO_bit, getD_o _ i hi2, Bool.and_eq_true, decide_eq_true_eq] at hx
  obtain ⟨m, h1, v, h2, h3, h4, h5⟩ := (prl_mem n w _ _).1 (List.getElem_mem hi2)
  rw [h5] at hx
  unfold prm imp at h4
  rw [Bool.and_eq_true, Bool.and_eq_true, Bool.not_eq_true'] at h4
  have h6 := h4.1.1
  cases hb : w.testBit x with
  | true => rfl
  | false =>
    have : anyTo (fun x => (x &&& m == v) && !w.testBit x) (2 ^ n) = true := anyTo_iff.2 ⟨x, hx.1, by rw [hb]; dsimp only at hx; rw [hx.2]; rfl⟩
    rw [this] at h6
    cases h6
def lstI (n w : Nat) : Nat → Nat → List Nat
  | 0, _ => []
  | d + 1, k => match cvr (wdO n (prl n w (2 ^ n))) (List.range (prl n w (2 ^ n)).length) k w with
    | some r => r
    | none => lstI n w d (k + 1)
theorem lstI_ok (n w : Nat) : ∀ d k, (∀ i ∈ lstI n w d k, i < (prl n w (2 ^ n)).length) ∧ (lstI n w d k).length ≤ k + d
  | 0, k => ⟨(fun i h => by cases h), Nat.zero_le _⟩
  | d + 1, k => by
    unfold lstI
    cases h : cvr (wdO n (prl n w (2 ^ n))) (List.range (prl n w (2 ^ n)).length) k w with
    | some r =>
      obtain ⟨h1, h2, h3, h4⟩ := cvr_sound _ _ _ _ r h
      exact ⟨fun i hi => List.mem_range.1 (h1 i hi), by dsimp only; omega⟩
    | none =>
      obtain ⟨h1, h2⟩ := lstI_ok n w d (k + 1)
      exact ⟨h1, by dsimp only; omega⟩
def sumI (n w : Nat) : List (Nat × Nat) := (lstI n w 9 0).map fun i => (prl n w (2 ^ n)).getD i (0, 0)
end Go.Proofs.YtemihnclhcobnaaGreatDoor
namespace Go.Proofs.YtemihnclhcobnaaGreatDoor
open Go.Rv
set_option linter.unusedVariables false
variable {β : Type}
theorem word_imp (n w m v : Nat) (hv : v < 2 ^ n) (hm : (v &&& m == v) = true) : (tabw (fun x => x &&& m == v) (2 ^ n) &&& w == tabw (fun x => x &&& m == v) (2 ^ n)) = imp n w m v := by
  cases hi : imp n w m v with
  | true =>
    rw [beq_iff_eq]
    refine Nat.eq_of_testBit_eq fun x => ?_
    rw [Nat.testBit_and, tabw_bit]
    cases hx : (decide (x < 2 ^ n) && (x &&& m == v)) with
    | false => rw [Bool.false_and]
    | true =>
      rw [Bool.true_and]
      rw [Bool.and_eq_true, decide_eq_true_eq] at hx
      unfold imp at hi
      rw [Bool.and_eq_true, Bool.not_eq_true'] at hi
      cases hb : w.testBit x with
      | true => rfl
      | false =>
        have : anyTo (fun x => (x &&& m == v) && !w.testBit x) (2 ^ n) = true := anyTo_iff.2 ⟨x, hx.1, by rw [hb, hx.2]; rfl⟩
        rw [this] at hi
        cases hi.1
  | false =>
    rw [beq_eq_false_iff_ne]
    intro e
    have : imp n w m v = true := imp_of hv hm fun z hz hc => by
      have h : (tabw (fun x => x &&& m == v) (2 ^ n) &&& w).testBit z = (tabw (fun x => x &&& m == v) (2 ^ n)).testBit z := by rw [e]
      rw [Nat.testBit_and, tabw_bit, decide_eq_true hz, Bool.true_and, hc, Bool.true_and] at h
      exact h
    rw [this] at hi
    cases hi
theorem w63 {n w : Nat} (hn : n ≤ 4) (hw : w < 2 ^ 2 ^ n) : w < 65536 := by have := sz_16 n hn; omega
theorem spec_implies_n (N : Nat) (hN : 1048576 < N) (n w m v : Nat) (hn : n ≤ 4) (hw : w < 2 ^ 2 ^ n) (hm : m < 32) (hv : v < 2 ^ n) (hmv : (v &&& m == v) = true) (K : Bool → Option β) : zj45 N (n : Int) (w : Int) (m : Int) (v : Int) K = K (imp n w m v) := by
  have h1 := tabw_lt (fun x => x &&& m == v) (2 ^ n)
  have h2 := sz_16 n hn
  have h3 := w63 hn hw
  unfold zj45 zb45
  rw [spec_l6Word_n N hN n m v (by omega) hm, bAnd _ _ (by omega) (by omega), natb, word_imp n w m v hv hmv]
theorem off_sub : ∀ m : Nat, m < 32 → ∀ i : Nat, i < 5 → (m.testBit i = true → off m i = m - 2 ^ i ∧ 2 ^ i ≤ m) ∧ off m i = m - (m &&& 2 ^ i) ∧ (((m &&& 2 ^ i : Nat) : Int) != 0) = m.testBit i ∧ off m i ≤ m := by decide +kernel
theorem spec_prime_n (N : Nat) (hN : 1048576 < N) (n w m v : Nat) (hn : n ≤ 4) (hw : w < 2 ^ 2 ^ n) (hm : m < 2 ^ n) (hv : v ≤ m) (hmv : (v &&& m == v) = true) (K : Bool → Option β) : zj48 N (n : Int) (w : Int) (m : Int) (v : Int) K = K (prm n w m v) := by
  have hs : 2 ^ n ≤ 16 := (Nat.pow_le_pow_right (by decide) hn : 2 ^ n ≤ 2 ^ 4)
  unfold zj48 zb48 prm
  rw [spec_implies_n N hN n w m v hn hw (by omega) (by omega) hmv]
  cases imp n w m v with
  | false => rfl
  | true =>
    rw [Bool.not_true, cond_false, Bool.true_and]
    have key : ∀ (d i F : Nat), n - i = d → i ≤ n → d < F → anyTo (fun i => m.testBit i && imp n w (off m i) (off v i)) i = false → zj47 N F (i : Int) (n : Int) (w : Int) (m : Int) (v : Int) (fun e => K e) (K true) = K (!anyTo (fun i => m.testBit i && imp n w (off m i) (off v i)) n) := by
      intro d
      induction d with
      | zero =>
        intro i F hd hi hF ha
        obtain ⟨G, rfl⟩ : ∃ G, F = G + 1 := ⟨F - 1, by omega⟩
        simp only [zj47, zj46, zb46]
        rw [decide_eq_false (by omega), cond_false]
        have e : i = n := by omega
        subst e
        rw [ha]
        rfl
      | succ d ih =>
        intro i F hd hi hF ha
        obtain ⟨G, rfl⟩ : ∃ G, F = G + 1 := ⟨F - 1, by omega⟩
        obtain ⟨c1, c2, c3, c4⟩ := off_sub m (by omega) i (by omega)
        obtain ⟨d1, d2, d3, d4⟩ := off_sub v (by omega) i (by omega)
        have hb : 2 ^ i ≤ 16 := (Nat.pow_le_pow_right (by decide) (by omega : i ≤ 4) : 2 ^ i ≤ 2 ^ 4)
        have hand : bits .and .i64 (m : Int) (shlI .i64 1 (i : Int)) = ((m &&& 2 ^ i : Nat) : Int) := by rw [shl_one i (by omega), bAnd _ _ (by omega) (by omega)]
        have hv2 : bits .and .i64 (v : Int) (shlI .i64 1 (i : Int)) = ((v &&& 2 ^ i : Nat) : Int) := by rw [shl_one i (by omega), bAnd _ _ (by omega) (by omega)]
        have hle : v &&& 2 ^ i ≤ v := Nat.and_le_left
        have next := ih (i + 1) G (by omega) (by omega) (by omega)
        simp only [zj47, zj46, zb46]
        rw [decide_eq_true (by omega : (i : Int) < (n : Int)), cond_true, gd_true (decide_eq_true (by omega)), hand, c3, w64_succ i (by omega)]
        cases hb : m.testBit i with
        | false => exact next (by rw [anyTo, ha, hb]; rfl)
        | true =>
          obtain ⟨c5, c6⟩ := c1 hb
          have hz : (0 : Int) ≤ ((2 ^ i : Nat) : Int) := Int.natCast_nonneg _
          have e3 : w64 ((m : Int) - shlI .i64 1 (i : Int)) = (off m i : Int) := by rw [c5, shl_one i (by omega), show (m : Int) - ((2 ^ i : Nat) : Int) = ((m - 2 ^ i : Nat) : Int) from (Int.ofNat_sub c6).symm, w64_id (by omega) (by omega)]
          have e4 : w64 ((v : Int) - ((v &&& 2 ^ i : Nat) : Int)) = (off v i : Int) := by rw [d2, show (v : Int) - ((v &&& 2 ^ i : Nat) : Int) = ((v - (v &&& 2 ^ i) : Nat) : Int) from (Int.ofNat_sub hle).symm, w64_id (by omega) (by omega)]
          have h4 := off_ok i (by omega) m (by omega) v (by omega)
          rw [hmv, Bool.not_true, Bool.false_or] at h4
          rw [cond_true, e3, hv2, e4, spec_implies_n N hN n w _ _ hn hw (by omega) (by omega) h4]
          cases hp : imp n w (off m i) (off v i) with
          | false => exact next (by rw [anyTo, ha, hb, hp]; rfl)
          | true =>
            have : anyTo (fun i => m.testBit i && imp n w (off m i) (off v i)) n = true := anyTo_iff.2 ⟨i, by omega, by rw [hb, hp]; rfl⟩
            rw [this]
            rfl
    exact key n 0 N (by omega) (by omega) (by omega) rfl
theorem spec_primes_n (N : Nat) (hN : 1048576 < N) (n w : Nat) (hn : n ≤ 4) (hw : w < 2 ^ 2 ^ n) (K : List (Int × Int) → Option β) : zj53 N (n : Int) (w : Int) K = K (tl (prl n w (2 ^ n))) := by
  have hs : 2 ^ n ≤ 16 := (Nat.pow_le_pow_right (by decide) hn : 2 ^ n ≤ 2 ^ 4)
  have hz0 : (0 : Int) ≤ ((2 ^ n : Nat) : Int) := Int.natCast_nonneg _
  unfold zj53 zb53
  refine loop_st (fun F m => zj52 N F (m : Int) (n : Int) (w : Int) (tl (prl n w m)) fun e => K e) (2 ^ n) _ (fun F m hm => ?_) (fun F => ?_) N 0 (by omega) (by omega)
  · simp only [zj52, zj51, zb51]
    rw [gd_true (decide_eq_true (by omega)), shl_one n (by omega), decide_eq_true (by omega : (m : Int) < ((2 ^ n : Nat) : Int)), cond_true]
    have hl1 := prl_len n w m (by omega)
    refine (loop_st (fun H v => zj50 N H (m : Int) (v : Int) (n : Int) (w : Int) (tl (prl n w m ++ prr n w m v)) fun e0 e1 e2 e3 => zj52 N F (w64 (e0 + 1)) e1 e2 e3 fun e => K e) (m + 1) (zj52 N F ((m + 1 : Nat) : Int) (n : Int) (w : Int) (tl (prl n w (m + 1))) fun e => K e) (fun H v hv => ?_) (fun H => ?_) N 0 (by omega) (by omega) |> fun h => Eq.trans (by rw [show prr n w m 0 = [] from rfl, List.append_nil]; rfl) h)
    · have hl2 := prr_len n w m v
      simp only [zj50, zj49, zb49]
      rw [decide_eq_true (by omega : (v : Int) ≤ (m : Int)), cond_true, and_sm v (by omega) m (by omega), w64_succ v (by omega)]
      cases hc : (v &&& m == v) with
      | false => rw [cond_false, prr, hc, Bool.false_and, cond_false, List.append_nil]
      | true =>
        rw [cond_true, spec_prime_n N hN n w m v hn hw hm (by omega) hc]
        cases hp : prm n w m v with
        | false => rw [cond_false, prr, hc, hp, Bool.and_false, cond_false, List.append_nil]
        | true =>
          rw [cond_true, gd_true (decide_eq_true (by rw [tl_len, List.length_append]; simp; omega)), prr, hc, hp, Bool.and_self, cond_true, List.nil_append, show tl (prl n w m ++ prr n w m v) ++ [((m : Int), (v : Int))] = tl ((prl n w m ++ prr n w m v) ++ [(m, v)]) from (tl_snoc _ (m, v)).symm, List.append_assoc]
    · simp only [zj50, zj49, zb49]
      rw [decide_eq_false (by omega), cond_false, w64_succ m (by omega)]
      rfl
  · simp only [zj52, zj51, zb51]
    rw [gd_true (decide_eq_true (by omega)), shl_one n (by omega), decide_eq_false (by omega : ¬ ((2 ^ n : Nat) : Int) < ((2 ^ n : Nat) : Int)), cond_false]
def atO (o : List (Nat × Nat)) (r : List Nat) : List (Nat × Nat) := r.map fun i => o.getD i (0, 0)
theorem spec_cover_n (N : Nat) (hN : 1048576 < N) (n w : Nat) (hn : n ≤ 4) (o : List (Nat × Nat)) (ho : Ts n o) (hol : o.length ≤ 1000) : ∀ (k F i left : Nat), k ≤ 100 → k < F → i ≤ o.length → left < 2 ^ 63 →
    ∀ K : List (Int × Int) → Bool → Option β, zj57 N F (n : Int) (w : Int) (tl o) (i : Int) (left : Int) (k : Int) K = match cvr (wdO n o) (List.range' i (o.length - i)) k left with
      | some r => K (tl (atO o r)) true
      | none => K [] false := by
  intro k
  induction k with
  | zero =>
    intro F i left hk100 hF hi hleft K
    obtain ⟨G, rfl⟩ : ∃ G, F = G + 1 := ⟨F - 1, by omega⟩
    by_cases hl : left = 0
    · subst hl
      rw [cvr_zero]
      simp only [zj57, zj56, zb56]
      rfl
    · rw [cvr_none _ _ _ hl]
      simp only [zj57, zj56, zb56]
      rw [show ((left : Int) == 0) = false by rw [beq_eq_false_iff_ne]; omega]
      rfl
  | succ k ih =>
    intro F i left hk100 hF hi hleft K
    obtain ⟨G, rfl⟩ : ∃ G, F = G + 1 := ⟨F - 1, by omega⟩
    by_cases hl : left = 0
    · subst hl
      rw [cvr_zero]
      simp only [zj57, zj56, zb56]
      rfl
    · have hlf : ((left : Int) == 0) = false := by rw [beq_eq_false_iff_ne]; omega
      have hk : (((k + 1 : Nat) : Int) == 0) = false := beq_eq_false_iff_ne.2 (by omega)
      have loop : ∀ (d H j : Nat), j + d = o.length → d < H → ∀ K : List (Int × Int) → Bool → Option β,
          zj55 N (zj57 N G) H (tl o) (left : Int) ((k + 1 : Nat) : Int) (j : Int) (n : Int) (w : Int) (fun e0 e1 => K e1 e0) (K [] false) = match cvr (wdO n o) (List.range' j d) (k + 1) left with
            | some r => K (tl (atO o r)) true
            | none => K [] false := by
        intro d
        induction d with
        | zero =>
          intro H j hd hH K
          obtain ⟨H, rfl⟩ : ∃ G, H = G + 1 := ⟨H - 1, by omega⟩
          rw [show List.range' j 0 = [] from rfl, cvr_nil _ _ _ hl]
          simp only [zj55, zj54, zb54, tl_len]
          rw [decide_eq_false (by omega), cond_false]
        | succ d ihd =>
          intro H j hd hH K
          obtain ⟨H, rfl⟩ : ∃ G, H = G + 1 := ⟨H - 1, by omega⟩
          have hj : j < o.length := by omega
          obtain ⟨g1, g2, g3⟩ := ho o[j] (List.getElem_mem hj)
          have hwb : wdO n o j < 2 ^ 63 := by have h1 := tabw_lt (fun x => x &&& (o.getD j (0, 0)).1 == (o.getD j (0, 0)).2) (2 ^ n); have h2 := sz_16 n hn; unfold wdO; omega
          have e1 : ∀ K : Int → Option β, zj44 N (n : Int) (o[j].1 : Int) (o[j].2 : Int) K = K (wdO n o j : Int) := fun K => by
            unfold wdO
            rw [getD_o o j hj]
            exact spec_l6Word_n (β := β) N hN n o[j].1 o[j].2 (by omega) g2 K
          generalize hW : wdO n o j = W at hwb e1
          have e0 := ihd H (j + 1) (by omega) (by omega) K
          have hle : left &&& W ≤ left := Nat.and_le_left
          have ha : bits .and .i64 (W : Int) (left : Int) = ((W &&& left : Nat) : Int) := bAnd _ _ hwb hleft
          have hb : bits .and .i64 (left : Int) (W : Int) = ((left &&& W : Nat) : Int) := bAnd _ _ hleft hwb
          have hsub : w64 ((left : Int) - ((left &&& W : Nat) : Int)) = ((left - (left &&& W) : Nat) : Int) := by
            rw [show (left : Int) - ((left &&& W : Nat) : Int) = ((left - (left &&& W) : Nat) : Int) by omega, w64_id (by omega) (by omega)]
          have hk1 : w64 (((k + 1 : Nat) : Int) - 1) = (k : Int) := by rw [show ((k + 1 : Nat) : Int) - 1 = (k : Int) by omega]; exact w64_id (by omega) (by omega)
          have e2 := ih G (j + 1) (left - (left &&& W)) (by omega) (by omega) (by omega) (by omega)
          rw [show o.length - (j + 1) = d by omega] at e2
          rw [List.range'_succ, cvr_step _ _ _ _ _ hl, hW]
          simp only [zj55, zj54, zb54, tl_len, rd_tl o j hj]
          rw [decide_eq_true (by omega : (j : Int) < (o.length : Int)), cond_true, gd_true (decide_eq_true (by omega)), gd_true rfl, e1, ha, hb, hsub, hk1, w64_succ j (by omega), e2, e0, show (((W &&& left : Nat) : Int) == 0) = (W &&& left == 0) from natb _ 0]
          cases h1 : (W &&& left == 0) with
          | true => rw [cond_true, cond_true]
          | false =>
            rw [cond_false, cond_false]
            cases h2 : cvr (wdO n o) (List.range' (j + 1) d) k (left - (left &&& W)) with
            | none => dsimp only; rw [cond_false]
            | some r1 =>
              have hr := (cvr_sound _ _ _ _ r1 h2).2.2.1
              dsimp only
              rw [cond_true, gd_true (decide_eq_true (by omega)), gd_true rfl, gd_true (decide_eq_true (by rw [tl_len]; unfold atO; simp; omega))]
              have ea : atO o (j :: r1) = o[j] :: atO o r1 := by unfold atO; rw [List.map_cons, getD_o o j hj]
              show _ = K (tl (atO o (j :: r1))) true
              rw [ea]
              rfl
      simp only [zj57, zj56, zb56]
      rw [hlf, hk, cond_false, cond_false]
      exact loop (o.length - i) N i (by omega) (by omega) K
theorem spec_MinimalSum_n (N : Nat) (hN : 1048576 < N) (n w : Nat) (hn : n ≤ 4) (hw : w < 2 ^ 2 ^ n) : ∃ b : Bool, ∀ K : List (Int × Int) → Bool → Option β, zj61 N (n : Int) (w : Int) K = K (tl (sumI n w)) b := by
  have hs : 2 ^ n ≤ 16 := (Nat.pow_le_pow_right (by decide) hn : 2 ^ n ≤ 2 ^ 4)
  have hl := prl_len n w (2 ^ n) hs
  have hw6 := w63 hn hw
  unfold zj61 zb61
  have loop : ∀ (d F k : Nat), k + d = 9 → d < F → ∃ b : Bool, ∀ K : List (Int × Int) → Bool → Option β, zj60 N F (k : Int) (n : Int) (w : Int) (tl (prl n w (2 ^ n))) (fun e0 e1 => K e1 e0) (K [] false) = K (tl (atO (prl n w (2 ^ n)) (lstI n w d k))) b := by
    intro d
    induction d with
    | zero =>
      intro F k hd hF
      obtain ⟨G, rfl⟩ : ∃ G, F = G + 1 := ⟨F - 1, by omega⟩
      refine ⟨false, fun K => ?_⟩
      simp only [zj60, zj59, zb59]
      rw [decide_eq_false (by omega), cond_false]
      rfl
    | succ d ih =>
      intro F k hd hF
      obtain ⟨G, rfl⟩ : ∃ G, F = G + 1 := ⟨F - 1, by omega⟩
      have e2 := fun K => spec_cover_n (β := β) N hN n w hn (prl n w (2 ^ n)) (prl_good n w hn) (by omega) k N 0 w (by omega) (by omega) (by omega) (by omega) K
      rw [Nat.sub_zero, ← List.range_eq_range'] at e2
      obtain ⟨b, e3⟩ := ih G (k + 1) (by omega) (by omega)
      cases hc : cvr (wdO n (prl n w (2 ^ n))) (List.range (prl n w (2 ^ n)).length) k w with
      | some r =>
        refine ⟨true, fun K => ?_⟩
        simp only [zj60, zj59, zb59]
        rw [decide_eq_true (by omega : (k : Int) ≤ 8), cond_true]
        refine (e2 _).trans ?_
        rw [hc, lstI, hc]
        rfl
      | none =>
        refine ⟨b, fun K => ?_⟩
        simp only [zj60, zj59, zb59]
        rw [decide_eq_true (by omega : (k : Int) ≤ 8), cond_true]
        refine (e2 _).trans ?_
        rw [hc, lstI, hc]
        dsimp only
        rw [cond_false, w64_succ k (by omega), e3]
  obtain ⟨b, e⟩ := loop 9 N 0 rfl (by omega)
  refine ⟨b, fun K => ?_⟩
  rw [spec_IsTable_eq, isTn (by omega) hw, Bool.not_true, cond_false, decide_eq_false (by omega), cond_false, spec_primes_n N hN n w hn hw]
  exact e K
end Go.Proofs.YtemihnclhcobnaaGreatDoor
namespace Go.Proofs.YtemihnclhcobnaaGreatDoor
open Go.Rv
set_option linter.unusedSimpArgs false
set_option linter.unusedSectionVars false
variable {β : Type}
section
variable (N : Nat) (hN : 1048576 < N) {n : Nat} (hn : n ≤ 3) {T : List Int} (hT : SzOK n T) {w : Nat} (hw : w < 2 ^ 2 ^ n) (g : Nat → List UInt8) (hg : ∀ x, (g x).length ≤ 1000)
include hN hn hT hw hg
theorem impl_a_loop (o : Bool) (self : Int → Int → List Int → (ByteArray → Option β) → Option β) (hs : ∀ x, x < 2 ^ 2 ^ n → 1 ≤ gt T x → gt T x < gt T w → ∀ K, self (n : Int) (x : Int) T K = K (B (g x))) (x2 x3 : Int) (x9 : List Int) (k0 : ByteArray → Option β) (k1 : List Int → Int → Int → Int → Int → List Int → Option β) :
    ∀ (d F i : Nat), i + d = 2 ^ 2 ^ n → d < F → zj163 N self F T (cond o 38 124) x2 x3 T (T.length : Int) (i : Int) (n : Int) (w : Int) x9 k0 k1 =
      match pairA T o w (2 ^ 2 ^ n) d i with
      | some (a, b) => k0 (B (cond o 38 124 :: g a ++ g b))
      | none => k1 T x2 x3 (n : Int) (w : Int) x9
  | d, 0, _, _, h => absurd h (Nat.not_lt_zero _)
  | 0, F + 1, i, hi, _ => by
    have hL := hT.len
    obtain rfl : i = 2 ^ 2 ^ n := by omega
    show zj162 N self T (cond o 38 124) x2 x3 T (T.length : Int) _ (n : Int) (w : Int) x9 _ k0 k1 = _
    unfold zj162 zb162
    rw [decide_eq_false (by omega)]
    rfl
  | d + 1, F + 1, i, hi, hF => by
    have hL := hT.len
    have hlw := hT.le w
    have hL2 : 2 ^ 2 ^ n ≤ 256 := by
      obtain rfl | rfl | rfl | rfl : n = 0 ∨ n = 1 ∨ n = 2 ∨ n = 3 := by omega
      all_goals decide
    have ih := impl_a_loop o self hs x2 x3 x9 k0 k1 d F (i + 1) (by omega) (by omega)
    show zj162 N self T (cond o 38 124) x2 x3 T (T.length : Int) (i : Int) (n : Int) (w : Int) x9 _ k0 k1 = _
    unfold zj162 zb162
    rw [decide_eq_true (by omega : (i : Int) < (T.length : Int)), cond_true, gd_true (decide_eq_true (by omega)), gd_true rfl, gd_true (decide_eq_true (by omega)), gd_true (decide_eq_true (by omega)), rd_gt, rd_gt, w64_succ i (by omega)]
    have hp : pairA T o w (2 ^ 2 ^ n) (d + 1) i = cond (decide (1 ≤ gt T i) && decide (gt T i < gt T w)) (match pairB T o w i (2 ^ 2 ^ n) 0 with | some b => some (i, b) | none => pairA T o w (2 ^ 2 ^ n) d (i + 1)) (pairA T o w (2 ^ 2 ^ n) d (i + 1)) := rfl
    rw [hp]
    by_cases e0 : 1 ≤ gt T i
    · rw [decide_eq_false (by omega : ¬ gt T i < 1), cond_false, decide_eq_true e0, Bool.true_and]
      by_cases e1 : gt T i < gt T w
      · rw [decide_eq_false (by omega : ¬ gt T i ≥ gt T w), cond_false, decide_eq_true e1, cond_true]
        have hb := impl_b_loop N hN hn hT hw (by omega : i < 2 ^ 2 ^ n) g hg e0 e1 o self hs x2 x3 T (T.length : Int) (i : Int) x9 k0 (fun e0 e1 e2 e3 e4 e5 e6 e7 e8 e9 => zj163 N self F e0 e1 e2 e3 e4 e5 (w64 (e6 + 1)) e7 e8 e9 k0 k1) (2 ^ 2 ^ n) N 0 (by omega) (by omega)
        refine Eq.trans hb ?_
        cases pairB T o w i (2 ^ 2 ^ n) 0 with
        | some b => rfl
        | none =>
          show zj163 N self F T (cond o 38 124) x2 x3 T (T.length : Int) (w64 ((i : Int) + 1)) (n : Int) (w : Int) x9 k0 k1 = _
          rw [w64_succ i (by omega)]
          exact ih
      · rw [decide_eq_true (by omega : gt T i ≥ gt T w), cond_true, decide_eq_false e1, cond_false]
        exact ih
    · rw [decide_eq_true (by omega : gt T i < 1), cond_true, decide_eq_false e0, Bool.false_and, cond_false]
      exact ih
theorem impl_o_loop (self : Int → Int → List Int → (ByteArray → Option β) → Option β) (hs : ∀ x, x < 2 ^ 2 ^ n → 1 ≤ gt T x → gt T x < gt T w → ∀ K, self (n : Int) (x : Int) T K = K (B (g x))) (k0 : ByteArray → Option β) (k1 : Option β) :
    zj165 N self N T 2 0 (n : Int) (w : Int) [38, 124] k0 k1 =
      match pairA T true w (2 ^ 2 ^ n) (2 ^ 2 ^ n) 0 with
      | some (a, b) => k0 (B (38 :: g a ++ g b))
      | none => match pairA T false w (2 ^ 2 ^ n) (2 ^ 2 ^ n) 0 with
        | some (a, b) => k0 (B (124 :: g a ++ g b))
        | none => k1 := by
  obtain ⟨M, rfl⟩ : ∃ M, N = M + 3 := ⟨N - 3, by omega⟩
  have hL2 : 2 ^ 2 ^ n ≤ 256 := by
    obtain rfl | rfl | rfl | rfl : n = 0 ∨ n = 1 ∨ n = 2 ∨ n = 3 := by omega
    all_goals decide
  have ha := fun o x3 k0 (k1 : List Int → Int → Int → Int → Int → List Int → Option β) => impl_a_loop (M + 3) hN hn hT hw g hg o self hs 2 x3 [38, 124] k0 k1 (2 ^ 2 ^ n) (M + 3) 0 (by omega) (by omega)
  show zj164 (M + 3) self T 2 0 (n : Int) (w : Int) [38, 124] (fun v0 v1 v2 v3 v4 v5 => zj165 (M + 3) self (M + 2) v0 v1 v2 v3 v4 v5 k0 k1) k0 k1 = _
  unfold zj164 zb164
  refine Eq.trans (ha true 0 _ _) ?_
  cases pairA T true w (2 ^ 2 ^ n) (2 ^ 2 ^ n) 0 with
  | some p => rfl
  | none =>
    show zj164 (M + 3) self T 2 1 (n : Int) (w : Int) [38, 124] (fun v0 v1 v2 v3 v4 v5 => zj165 (M + 3) self (M + 1) v0 v1 v2 v3 v4 v5 k0 k1) k0 k1 = _
    unfold zj164 zb164
    refine Eq.trans (ha false 1 _ _) ?_
    cases pairA T false w (2 ^ 2 ^ n) (2 ^ 2 ^ n) 0 with
    | some p => rfl
    | none => rfl
end
theorem xor_full : ∀ n, n ≤ 3 → ∀ w, w < 2 ^ 2 ^ n → w ^^^ (2 ^ 2 ^ n - 1) = full n - w ∧ w ≤ full n ∧ full n < 256 := by decide +kernel
theorem impl_not3 (N : Nat) {n w : Nat} (hn : n ≤ 3) (hw : w < 2 ^ 2 ^ n) (K : Int → Int → Option β) : zj156 N (n : Int) (w : Int) K = K (n : Int) ((full n - w : Nat) : Int) := by
  obtain ⟨h1, h2, h3⟩ := xor_full n hn w hw
  have hs : 2 ^ n ≤ 8 := (Nat.pow_le_pow_right (by decide) hn : 2 ^ n ≤ 2 ^ 3)
  have hfu : full n = 2 ^ 2 ^ n - 1 := rfl
  have hp : 0 < 2 ^ 2 ^ n := Nat.two_pow_pos _
  have hz : (0 : Int) ≤ ((2 ^ n : Nat) : Int) := Int.natCast_nonneg _
  unfold zj156 zb156
  rw [impl_Table_size_eq N n _ (by omega), gd_true (decide_eq_true (by omega)), shl_one (2 ^ n) (by omega), show w64 (((2 ^ 2 ^ n : Nat) : Int) - 1) = ((2 ^ 2 ^ n - 1 : Nat) : Int) by rw [w64_id (by omega) (by omega)]; omega, bXor w _ (by omega) (by omega), h1]
theorem impl_var3 (N : Nat) (hN : 64 < N) {n i : Nat} (hn : n ≤ 3) (hi : i < n) (K : Int → Int → Option β) : zj16 N (n : Int) (i : Int) K = K (n : Int) (vw n i : Int) := by
  have hs : 2 ^ n ≤ 8 := (Nat.pow_le_pow_right (by decide) hn : 2 ^ n ≤ 2 ^ 3)
  unfold zj16 zb16
  rw [makeTable_eq N hN n (by omega) _ (fun x => x.testBit i) (fun x k hx => by
    unfold zj0 zb0
    rw [gd_true (decide_eq_true (by omega)), bit_at x i (by omega)]
    cases x.testBit i <;> rfl), vw_tab n hn i hi]
theorem let_w8 (i : Nat) (h : i < 3) : strOf (([] : List Int) ++ [w8 (97 + w8 (i : Int))]) = B [UInt8.ofNat (97 + i)] := by
  obtain rfl | rfl | rfl : i = 0 ∨ i = 1 ∨ i = 2 := by omega
  all_goals rfl
theorem impl_let (N : Nat) (hN : 1048576 < N) {n : Nat} (hn : n ≤ 3) {w : Nat} (hw : w < 2 ^ 2 ^ n) (T : List Int) (k0 : ByteArray → Option β) (k1 : List Int → Int → Int → Option β) :
    ∀ (d F i : Nat), i + d = n → d < F → zj159 N F T (n : Int) (i : Int) (n : Int) (w : Int) k0 k1 = match letR n w d i with
      | some s => k0 (B s)
      | none => k1 T (n : Int) (w : Int)
  | d, 0, _, _, h => absurd h (Nat.not_lt_zero _)
  | 0, F + 1, i, hi, _ => by
    obtain rfl : i = n := by omega
    show zj158 N T (i : Int) (i : Int) (i : Int) (w : Int) _ k0 k1 = _
    unfold zj158 zb158
    rw [decide_eq_false (by omega)]
    rfl
  | d + 1, F + 1, i, hi, hF => by
    have ih := impl_let N hN hn hw T k0 k1 d F (i + 1) (by omega) (by omega)
    have hv := vw_lt n hn i (by omega)
    show zj158 N T (n : Int) (i : Int) (n : Int) (w : Int) _ k0 k1 = _
    unfold zj158 zb158
    rw [decide_eq_true (by omega : (i : Int) < (n : Int)), cond_true, impl_var3 N (by omega) hn (by omega), impl_not3 N hn (by omega), let_w8 i (by omega), w64_succ i (by omega), show strOf [33] = B [33] from rfl, gs2 _ _ (by simp), B_app, beq_self_eq_true, Bool.true_and, Bool.true_and, natb, natb]
    have hl : letR n w (d + 1) i = cond (w == vw n i) (some [UInt8.ofNat (97 + i)]) (cond (w == full n - vw n i) (some [33, UInt8.ofNat (97 + i)]) (letR n w d (i + 1))) := rfl
    rw [hl]
    cases w == vw n i with
    | true => rfl
    | false =>
      rw [cond_false, cond_false]
      cases w == full n - vw n i with
      | true => rfl
      | false => exact ih
theorem bw_zero (x : Nat) : bw 0 x = 0 := by unfold bw; rw [Nat.zero_testBit]; rfl
theorem bw_full : ∀ n, n ≤ 3 → bw (full n) 0 = 1 := by decide +kernel
theorem impl_same3 (N : Nat) {n w : Nat} (hn : n ≤ 3) (hw : w < 2 ^ 2 ^ n) (K : Bool → Option β) : zj157 N (n : Int) (w : Int) K = K (w == 0 || w == full n) := by
  obtain ⟨h1, h2, h3⟩ := xor_full n hn w hw
  unfold zj157 zb157
  rw [impl_not3 N hn hw, show ((w : Int) == 0) = (w == 0) from natb w 0, show (((full n - w : Nat) : Int) == 0) = (w == full n) by
    rw [show (((full n - w : Nat) : Int) == 0) = (full n - w == 0) from natb _ 0, Bool.eq_iff_iff, beq_iff_eq, beq_iff_eq]; omega]
  cases w == 0 <;> rfl
theorem impl_write {N : Nat} (hN : 1048576 < N) {n : Nat} (hn : n ≤ 3) {T : List Int} (hT : SzOK n T) : ∀ (F w : Nat), w < 2 ^ 2 ^ n → gt T w < F → ∀ K : ByteArray → Option β, zj167 N F (n : Int) (w : Int) T K = K (B (fmF T n F w))
  | 0, w, _, h, _ => by have := hT.le w; have := hT.len; omega
  | F + 1, w, hw, hF, K => by
    have hL := hT.len
    obtain ⟨h1, h2, h3⟩ := xor_full n hn w hw
    have hs : ∀ x, x < 2 ^ 2 ^ n → 1 ≤ gt T x → gt T x < gt T w → ∀ K : ByteArray → Option β, zj167 N F (n : Int) (x : Int) T K = K (B (fmF T n F x)) := fun x hx _ h2 K => impl_write hN hn hT F x hx (by omega) K
    show zj166 N (zj167 N F) (n : Int) (w : Int) T K = _
    unfold zj166 zb166 fmF
    rw [impl_same3 N hn hw]
    cases h0 : w == 0 with
    | true =>
      have : w = 0 := by simpa using h0
      subst this
      rw [Bool.true_or, cond_true, cond_true]
      have ha := impl_Table_at_eq (β := β) N 0 0 (n : Int) (by omega) fun r5 => zj141 N r5 K
      refine Eq.trans ha ?_
      rw [bw_zero, impl_FormatInt_eq N _ (by unfold in64; omega)]
      have hi : Lib.itoa ((0 : Nat) : Int) = [48] := itoa_bit false
      rw [hi]
    | false =>
      rw [Bool.false_or, cond_false]
      cases h1 : w == full n with
      | true =>
        have : w = full n := by simpa using h1
        subst this
        rw [cond_true, cond_true]
        have ha := impl_Table_at_eq (β := β) N (full n) 0 (n : Int) (by omega) fun r5 => zj141 N r5 K
        refine Eq.trans ha ?_
        rw [bw_full n hn, impl_FormatInt_eq N _ (by unfold in64; omega)]
        have hi : Lib.itoa ((1 : Nat) : Int) = [49] := itoa_bit true
        rw [hi]
      | false =>
        rw [cond_false, cond_false, gd_true (decide_eq_true (by omega)), gd_true (decide_eq_true (by omega)), rd_gt]
        have ho := impl_o_loop N hN hn hT hw (fmF T n F) (fm_1000 hT F) (zj167 N F) hs (fun e => K e) (K ByteArray.empty)
        have tail : zj165 N (zj167 N F) N T 2 0 (n : Int) (w : Int) [38, 124] (fun e => K e) (K ByteArray.empty) = K (B (match pairA T true w (2 ^ 2 ^ n) (2 ^ 2 ^ n) 0 with
          | some (a, b) => 38 :: fmF T n F a ++ fmF T n F b
          | none => match pairA T false w (2 ^ 2 ^ n) (2 ^ 2 ^ n) 0 with
            | some (a, b) => 124 :: fmF T n F a ++ fmF T n F b
            | none => [])) := by
          refine Eq.trans ho ?_
          cases pairA T true w (2 ^ 2 ^ n) (2 ^ 2 ^ n) 0 with
          | some p => rfl
          | none =>
            cases pairA T false w (2 ^ 2 ^ n) (2 ^ 2 ^ n) 0 with
            | some p => rfl
            | none => rfl
        by_cases e1 : gt T w = 1
        · rw [show (gt T w == 1) = true by simp [e1], cond_true, decide_eq_true e1, cond_true]
          refine Eq.trans (impl_let N hN hn hw T (fun e => K e) _ n N 0 (by omega) (by omega)) ?_
          cases letR n w n 0 with
          | some s => rfl
          | none => exact tail
        · rw [show (gt T w == 1) = false by simp [e1], cond_false, decide_eq_false e1, cond_false]
          exact tail
end Go.Proofs.YtemihnclhcobnaaGreatDoor
namespace Go.Proofs.YtemihnclhcobnaaGreatDoor
open Go.Rv
set_option linter.unusedSimpArgs false
set_option linter.unusedVariables false
variable {β : Type}
theorem impl_primes_n (N : Nat) (hN : 1048576 < N) (n w : Nat) (hn : n ≤ 4) (hw : w < 2 ^ 2 ^ n) (K : List (Int × Int) → Option β) : zj125 N (n : Int) (w : Int) K = K (tl (prl n w (2 ^ n))) := by
  have hs : 2 ^ n ≤ 16 := (Nat.pow_le_pow_right (by decide) hn : 2 ^ n ≤ 2 ^ 4)
  have hz0 : (0 : Int) ≤ ((2 ^ n : Nat) : Int) := Int.natCast_nonneg _
  have h16 := sz_16 n hn
  unfold zj125 zb125 zj1 zb1
  rw [gd_true (decide_eq_true (by omega)), shl_one n (by omega)]
  refine loop_st (fun F m => zj124 N F ((2 ^ n : Nat) : Int) (m : Int) (n : Int) (w : Int) (tl (prl n w m)) fun e => K e) (2 ^ n) _ (fun F m hm => ?_) (fun F => ?_) N 0 (by omega) (by omega)
  · simp only [zj124, zj123, zb123]
    rw [decide_eq_true (by omega : (m : Int) < ((2 ^ n : Nat) : Int)), cond_true, w64_succ m (by omega)]
    have hl1 := prl_len n w m (by omega)
    refine (loop_st (fun H v => zj122 N H (m : Int) ((2 ^ n : Nat) : Int) (m : Int) ((m + 1 : Nat) : Int) (v : Int) (n : Int) (w : Int) (tl (prl n w m ++ prr n w m v)) fun e0 e1 e2 e3 e4 => zj124 N F e0 (w64 (e1 + 1)) e2 e3 e4 fun e => K e) (m + 1) (zj124 N F ((2 ^ n : Nat) : Int) ((m + 1 : Nat) : Int) (n : Int) (w : Int) (tl (prl n w (m + 1))) fun e => K e) (fun H v hv => ?_) (fun H => ?_) N 0 (by omega) (by omega) |> fun h => Eq.trans (by rw [show prr n w m 0 = [] from rfl, List.append_nil]; rfl) h)
    · have hl2 := prr_len n w m v
      simp only [zj122, zj121, zb121]
      rw [decide_eq_true (by omega : (v : Int) < ((m + 1 : Nat) : Int)), cond_true, andNot_sm v (by omega) m (by omega), isPrime_n N hN n w m v hn (by omega) (by omega) (by omega), w64_succ v (by omega)]
      cases hc : (v &&& m == v) with
      | false => rw [cond_false, prr, hc, Bool.false_and, cond_false, List.append_nil]
      | true =>
        cases hp : prm n w m v with
        | false => rw [cond_true, cond_false, prr, hc, hp, Bool.and_false, cond_false, List.append_nil]
        | true =>
          rw [cond_true, cond_true, gd_true (decide_eq_true (by rw [tl_len, List.length_append]; simp; omega)), prr, hc, hp, Bool.and_self, cond_true, List.nil_append, show tl (prl n w m ++ prr n w m v) ++ [((m : Int), (v : Int))] = tl ((prl n w m ++ prr n w m v) ++ [(m, v)]) from (tl_snoc _ (m, v)).symm, List.append_assoc]
    · simp only [zj122, zj121, zb121]
      rw [decide_eq_false (by omega), cond_false, w64_succ m (by omega)]
      rfl
  · simp only [zj124, zj123, zb123]
    rw [decide_eq_false (by omega : ¬ ((2 ^ n : Nat) : Int) < ((2 ^ n : Nat) : Int)), cond_false]
def ixI (r : List Nat) : List Int := r.map fun (i : Nat) => (i : Int)
theorem ixI_len (r : List Nat) : (ixI r).length = r.length := by simp [ixI]
theorem ixI_rd (r : List Nat) (i : Nat) (h : i < r.length) : rd 0 (ixI r) (i : Int) = (r[i] : Int) := by
  rw [rd_nat _ _ _ (by rw [ixI_len]; exact h)]
  simp [ixI]
def wds (n : Nat) (o : List (Nat × Nat)) : List Int := (List.range o.length).map fun i => (wdO n o i : Int)
theorem wds_len (n : Nat) (o : List (Nat × Nat)) : (wds n o).length = o.length := by simp [wds]
theorem wds_rd (n : Nat) (o : List (Nat × Nat)) (i : Nat) (h : i < o.length) : rd 0 (wds n o) (i : Int) = (wdO n o i : Int) := by
  rw [rd_nat _ _ _ (by rw [wds_len]; exact h)]
  simp [wds]
theorem chs_len (wd : Nat → Nat) (T : Nat) : ∀ (l : List Nat) (k h : Nat) (r : List Nat), chs wd T l k h = some r → r.length ≤ k := by
  intro l
  induction l with
  | nil =>
    intro k h r e
    unfold chs at e
    cases h1 : k == 0 with
    | false => rw [h1] at e; cases e
    | true =>
      rw [h1, cond_true] at e
      cases h2 : h == T with
      | false => rw [h2] at e; cases e
      | true => rw [h2, cond_true, Option.some.injEq] at e; subst e; exact Nat.zero_le _
  | cons t l ih =>
    intro k h r e
    cases k with
    | zero =>
      unfold chs at e
      dsimp only at e
      cases h2 : h == T with
      | false => rw [h2] at e; cases e
      | true => rw [h2, cond_true, Option.some.injEq] at e; subst e; exact Nat.zero_le _
    | succ k =>
      unfold chs at e
      dsimp only at e
      cases h1 : decide (k + 1 ≤ l.length + 1) with
      | false => rw [h1] at e; cases e
      | true =>
        rw [h1, cond_true] at e
        cases h2 : (wd t ^^^ (wd t &&& h) == 0) with
        | true => rw [h2, cond_true] at e; exact ih (k + 1) h r e
        | false =>
          rw [h2, cond_false] at e
          cases h3 : chs wd T l k (h ||| wd t) with
          | some r' =>
            rw [h3, Option.some.injEq] at e
            subst e
            have := ih k _ r' h3
            rw [List.length_cons]; omega
          | none => rw [h3] at e; exact ih (k + 1) h r e
theorem wdO_lt (n : Nat) (hn : n ≤ 4) (o : List (Nat × Nat)) (i : Nat) : wdO n o i < 65536 := by
  have h1 := tabw_lt (fun x => x &&& (o.getD i (0, 0)).1 == (o.getD i (0, 0)).2) (2 ^ n)
  have h2 := sz_16 n hn
  unfold wdO
  omega
theorem impl_choose_n (N : Nat) (hN : 1048576 < N) (n w : Nat) (hn : n ≤ 4) (hw : w < 65536) (o : List (Nat × Nat)) (hol : o.length ≤ 1000) : ∀ (k F i have_ : Nat), k ≤ 1000 → k < F → i ≤ o.length → have_ < 65536 →
    ∀ K : List Int → Bool → Option β, zj130 N F (wds n o) (w : Int) (have_ : Int) (i : Int) (k : Int) K = match chs (wdO n o) w (List.range' i (o.length - i)) k have_ with
      | some r => K (ixI r) true
      | none => K [] false := by
  intro k
  induction k with
  | zero =>
    intro F i have_ hk hF hi hh K
    obtain ⟨G, rfl⟩ : ∃ G, F = G + 1 := ⟨F - 1, by omega⟩
    have e : chs (wdO n o) w (List.range' i (o.length - i)) 0 have_ = cond (have_ == w) (some []) none := by
      cases List.range' i (o.length - i) <;> rfl
    rw [e]
    simp only [zj130, zj129, zb129]
    rw [show (((0 : Nat) : Int) == 0) = true from rfl, cond_true, natb]
    cases have_ == w <;> rfl
  | succ k ih =>
    intro F i have_ hk100 hF hi hh K
    obtain ⟨G, rfl⟩ : ∃ G, F = G + 1 := ⟨F - 1, by omega⟩
    have hk : (((k + 1 : Nat) : Int) == 0) = false := beq_eq_false_iff_ne.2 (by omega)
    have loop : ∀ (d H j : Nat), j + d = o.length → d < H → ∀ K : List Int → Bool → Option β,
        zj128 N (zj130 N G) H (wds n o) (w : Int) (have_ : Int) ((k + 1 : Nat) : Int) (j : Int) (fun e0 e1 => K e1 e0) (K [] false) = match chs (wdO n o) w (List.range' j d) (k + 1) have_ with
          | some r => K (ixI r) true
          | none => K [] false := by
      intro d
      induction d with
      | zero =>
        intro H j hd hH K
        obtain ⟨H, rfl⟩ : ∃ G, H = G + 1 := ⟨H - 1, by omega⟩
        simp only [zj128, zj127, zb127, wds_len]
        rw [w64_id (by omega) (by omega), decide_eq_false (by omega), cond_false]
        rfl
      | succ d ihd =>
        intro H j hd hH K
        obtain ⟨H, rfl⟩ : ∃ G, H = G + 1 := ⟨H - 1, by omega⟩
        have hj : j < o.length := by omega
        have e0 := ihd H (j + 1) (by omega) (by omega) K
        have hwj := wdO_lt n hn o j
        have ha : bits .andNot .i64 (wdO n o j : Int) (have_ : Int) = ((wdO n o j ^^^ (wdO n o j &&& have_) : Nat) : Int) := bAndNot _ _ (by omega) (by omega)
        have hb : bits .or .i64 (have_ : Int) (wdO n o j : Int) = ((have_ ||| wdO n o j : Nat) : Int) := bOr _ _ (by omega) (by omega)
        have hor : have_ ||| wdO n o j < 2 ^ 16 := Nat.or_lt_two_pow (by omega) (by omega)
        have hk1 : w64 (((k + 1 : Nat) : Int) - 1) = (k : Int) := by rw [show ((k + 1 : Nat) : Int) - 1 = (k : Int) by omega]; exact w64_id (by omega) (by omega)
        have e2 := ih G (j + 1) (have_ ||| wdO n o j) (by omega) (by omega) (by omega) (by omega)
        rw [show o.length - (j + 1) = d by omega] at e2
        have hd2 : (decide ((j : Int) ≤ w64 ((o.length : Int) - ((k + 1 : Nat) : Int)))) = decide (k + 1 ≤ d + 1) := by
          rw [w64_id (by omega) (by omega)]
          apply decide_eq_decide.2
          omega
        have hch : chs (wdO n o) w (List.range' j (d + 1)) (k + 1) have_ = cond (decide (k + 1 ≤ d + 1)) (cond (wdO n o j ^^^ (wdO n o j &&& have_) == 0) (chs (wdO n o) w (List.range' (j + 1) d) (k + 1) have_) (match chs (wdO n o) w (List.range' (j + 1) d) k (have_ ||| wdO n o j) with
            | some r => some (j :: r)
            | none => chs (wdO n o) w (List.range' (j + 1) d) (k + 1) have_)) none := by
          rw [List.range'_succ]
          show cond (decide (k + 1 ≤ (List.range' (j + 1) d).length + 1)) _ none = _
          rw [List.length_range']
          all_goals rfl
        rw [hch]
        simp only [zj128, zj127, zb127, wds_len, wds_rd n o j hj]
        rw [hd2]
        cases decide (k + 1 ≤ d + 1) with
        | false => rfl
        | true =>
          rw [cond_true, cond_true, gd_true (decide_eq_true (by omega)), gd_true (decide_eq_true (by omega)), ha, hb, hk1, w64_succ j (by omega), gd_true (decide_eq_true (by omega)), gd_true (decide_eq_true (by omega)), e2, e0, show (((wdO n o j ^^^ (wdO n o j &&& have_) : Nat) : Int) == 0) = (wdO n o j ^^^ (wdO n o j &&& have_) == 0) from natb _ 0]
          cases h1 : (wdO n o j ^^^ (wdO n o j &&& have_) == 0) with
          | true => rw [cond_true, cond_true]
          | false =>
            rw [cond_false, cond_false]
            cases h2 : chs (wdO n o) w (List.range' (j + 1) d) k (have_ ||| wdO n o j) with
            | none => dsimp only; rw [cond_false]
            | some r1 =>
              have hr := chs_len _ _ _ _ _ r1 h2
              dsimp only
              rw [cond_true, gd_true (decide_eq_true (by rw [ixI_len]; simp; omega))]
              rfl
    simp only [zj130, zj129, zb129]
    rw [hk, cond_false]
    exact loop (o.length - i) N i (by omega) (by omega) K
theorem impl_minimal_n (N : Nat) (hN : 1048576 < N) (n w : Nat) (hn : n ≤ 4) (hw : w < 2 ^ 2 ^ n) (K : List (Int × Int) → Option β) : zj138 N (n : Int) (w : Int) K = K (tl (sumI n w)) := by
  have hs : 2 ^ n ≤ 16 := (Nat.pow_le_pow_right (by decide) hn : 2 ^ n ≤ 2 ^ 4)
  have hl := prl_len n w (2 ^ n) hs
  have hw6 := w63 hn hw
  have hg := prl_good n w hn
  unfold zj138 zb138
  rw [impl_primes_n N hN n w hn hw, tl_len]
  have h8 := eight n w hn hw
  have hin := prime_in n w
  have hsum : sumI n w = atO (prl n w (2 ^ n)) (lstI n w 9 0) := rfl
  rw [hsum]
  have hdef : ∀ d k, lstI n w (d + 1) k = match cvr (wdO n (prl n w (2 ^ n))) (List.range (prl n w (2 ^ n)).length) k w with
      | some r => r
      | none => lstI n w d (k + 1) := fun d k => rfl
  have hlen0 : ∀ d k, (∀ i ∈ lstI n w d k, i < (prl n w (2 ^ n)).length) := fun d k => (lstI_ok n w d k).1
  generalize prl n w (2 ^ n) = o at *
  generalize lstI n w = L at *
  rw [gd_true (decide_eq_true (by omega)), gd_true (decide_eq_true (by omega)), gd_true (decide_eq_true (by omega)), Int.toNat_natCast]
  have words : ∀ (d F i : Nat), i + d = o.length → d < F → ∀ k0 : Int → Int → List (Int × Int) → List Int → Option β, zj133 N F (o.length : Int) (i : Int) (n : Int) (w : Int) (tl o) (((List.range i).map fun i => (wdO n o i : Int)) ++ List.replicate d 0) k0 = k0 (n : Int) (w : Int) (tl o) (wds n o) := by
    intro d
    induction d with
    | zero =>
      intro F i hi hF k0
      obtain ⟨G, rfl⟩ : ∃ G, F = G + 1 := ⟨F - 1, by omega⟩
      simp only [zj133, zj132, zb132]
      rw [decide_eq_false (by omega), cond_false, List.replicate_zero, List.append_nil, show i = o.length by omega]
      rfl
    | succ d ih =>
      intro F i hi hF k0
      obtain ⟨G, rfl⟩ : ∃ G, F = G + 1 := ⟨F - 1, by omega⟩
      have hlt : i < o.length := by omega
      obtain ⟨g1, g2, g3⟩ := hg o[i] (List.getElem_mem hlt)
      have hsumof : ∀ K : Int → Int → Option β, zj126 N (n : Int) ([] ++ [((o[i].1 : Int), (o[i].2 : Int))]) K = K (n : Int) (wdO n o i : Int) := fun K => by
        unfold zj126 zb126 wdO
        rw [getD_o o i hlt, show ([] ++ [((o[i].1 : Int), (o[i].2 : Int))]) = tl [o[i]] from rfl]
        rw [makeTable_eq N (by omega) n (by omega) _ (fun x => x &&& o[i].1 == o[i].2) (fun x k hx => by
          unfold zj12 zb12
          rw [any_loop N hN [o[i]] (by simp) _ (fun t => x &&& t.1 == t.2) (fun t ht k => by
            rw [List.mem_singleton.1 ht]
            unfold zj7 zb7 zj6 zb6
            rw [and_smT x (by omega) _ g2, natb])]
          simp)]
      simp only [zj133, zj132, zb132, tl_len, rd_tl o i hlt]
      rw [decide_eq_true (by omega : (i : Int) < (o.length : Int)), cond_true, gd_true (decide_eq_true (by omega)), gd_true rfl, hsumof, gd_true (decide_eq_true (by omega)), gd_true (decide_eq_true (by simp; omega)), w64_succ i (by omega), List.replicate_succ]
      have hwr := wr_mid ((List.range i).map fun i => (wdO n o i : Int)) 0 (wdO n o i : Int) (List.replicate d 0)
      rw [List.length_map, List.length_range] at hwr
      rw [hwr]
      have e : ((List.range i).map fun i => (wdO n o i : Int)) ++ (wdO n o i : Int) :: List.replicate d 0 = ((List.range (i + 1)).map fun i => (wdO n o i : Int)) ++ List.replicate d 0 := by
        rw [List.range_succ, List.map_append, List.append_assoc]; rfl
      rw [e]
      exact ih G (i + 1) (by omega) (by omega) k0
  refine Eq.trans (words o.length N 0 (by omega) (by omega) _) ?_
  rw [tl_len, show w64 ((o.length : Int) + 1) = ((o.length + 1 : Nat) : Int) from w64_succ _ (by omega)]
  have out : ∀ r : List Nat, (∀ i ∈ r, i < o.length) → r.length ≤ 1000 → ∀ k0 : List (Int × Int) → Option β, zj135 N N ((ixI r).length : Int) 0 (tl o) [] (ixI r) k0 = k0 (tl (atO o r)) := by
    intro r hr hrl k0
    rw [ixI_len]
    refine loop_st (fun F i => zj135 N F (r.length : Int) (i : Int) (tl o) (tl (atO o (r.take i))) (ixI r) k0) r.length _ (fun F i hi => ?_) (fun F => ?_) N 0 (by omega) (by omega)
    · have hri := hr r[i] (List.getElem_mem hi)
      simp only [zj135, zj134, zb134, tl_len, ixI_len, ixI_rd r i hi, rd_tl o r[i] hri]
      have e : atO o (r.take (i + 1)) = atO o (r.take i) ++ [o[r[i]]] := by
        unfold atO
        rw [List.take_add_one, List.getElem?_eq_getElem hi, Option.toList_some, List.map_append, List.map_cons, getD_o o _ hri]
        rfl
      have hal : (atO o (r.take i)).length = i := by unfold atO; rw [List.length_map, List.length_take]; omega
      rw [decide_eq_true (by omega : (i : Int) < (r.length : Int)), cond_true, gd_true (decide_eq_true (by omega)), gd_true rfl, gd_true (decide_eq_true (by omega)), gd_true (decide_eq_true (by omega)), gd_true (decide_eq_true (by rw [hal]; simp; omega)), w64_succ i (by omega), e, tl_snoc, List.nil_append]
    · simp only [zj135, zj134, zb134]
      rw [decide_eq_false (by omega), cond_false, List.take_length]
  have loop : ∀ (d F k : Nat), k + d = 9 → d < F → (∀ j, j < k → cvr (wdO n o) (List.range o.length) j w = none) → ∀ (k0 : List (Int × Int) → Option β) (k1 : Option β), zj137 N F ((o.length + 1 : Nat) : Int) (k : Int) (n : Int) (w : Int) (tl o) (wds n o) k0 k1 = k0 (tl (atO o (L d k))) := by
    intro d
    induction d with
    | zero =>
      intro F k hk hF hno k0 k1
      exact absurd (hno 8 (by omega)) h8
    | succ d ih =>
      intro F k hk hF hno k0 k1
      obtain ⟨G, rfl⟩ : ∃ G, F = G + 1 := ⟨F - 1, by omega⟩
      have hkL : k ≤ o.length := by
        rcases Nat.lt_or_ge o.length k with h | h
        · cases hc : cvr (wdO n o) (List.range o.length) 8 w with
          | none => exact absurd hc h8
          | some r =>
            obtain ⟨a1, a2, a3, a4⟩ := cvr_sound _ _ _ _ r hc
            rw [List.length_range] at a2
            exact absurd (hno o.length h) (cvr_full _ _ _ w r a1 a2 a4)
        · exact h
      have e1 := fun K => impl_choose_n (β := β) N hN n w hn hw6 o (by omega) k N 0 0 (by omega) (by omega) (by omega) (by omega) K
      rw [Nat.sub_zero, ← List.range_eq_range', first_same _ _ _ hin k hno] at e1
      simp only [zj137, zj136, zb136]
      rw [decide_eq_true (by omega : (k : Int) < ((o.length + 1 : Nat) : Int)), cond_true]
      unfold zj131
      refine (e1 _).trans ?_
      rw [hdef]
      cases hc : cvr (wdO n o) (List.range o.length) k w with
      | some r =>
        obtain ⟨a1, a2, a3, a4⟩ := cvr_sound _ _ _ _ r hc
        dsimp only
        rw [cond_true]
        exact out r (fun i hi => List.mem_range.1 (a1 i hi)) (by omega) _
      | none =>
        dsimp only
        rw [cond_false, w64_succ k (by omega)]
        exact ih G (k + 1) (by omega) (by omega) (fun j hj => by
          rcases Nat.lt_or_ge j k with h | h
          · exact hno j h
          · have : j = k := by omega
            subst this
            exact hc) k0 k1
  exact loop 9 N 0 rfl (by omega) (fun j hj => absurd hj (Nat.not_lt_zero _)) _ _
end Go.Proofs.YtemihnclhcobnaaGreatDoor
namespace Go.Proofs.YtemihnclhcobnaaGreatDoor
open Go.Rv
set_option linter.unusedSimpArgs false
set_option linter.unusedVariables false
variable {β : Type}
theorem lstI_le (n w : Nat) : ∀ d k, (lstI n w d k).length ≤ k + d - 1
  | 0, k => Nat.zero_le _
  | d + 1, k => by
    unfold lstI
    cases h : cvr (wdO n (prl n w (2 ^ n))) (List.range (prl n w (2 ^ n)).length) k w with
    | some r =>
      have h3 := (cvr_sound _ _ _ _ r h).2.2.1
      show r.length ≤ _
      omega
    | none =>
      have := lstI_le n w d (k + 1)
      show (lstI n w d (k + 1)).length ≤ _
      omega
theorem sumI_len (n w : Nat) : (sumI n w).length ≤ 8 := by
  unfold sumI
  rw [List.length_map]
  exact lstI_le n w 9 0
theorem sumI_good (n w : Nat) (hn : n ≤ 4) : Ts n (sumI n w) := by
  intro t ht
  unfold sumI at ht
  obtain ⟨i, hi, rfl⟩ := List.mem_map.1 ht
  have hlt := (lstI_ok n w 9 0).1 i hi
  rw [getD_o _ i hlt]
  exact prl_good n w hn _ (List.getElem_mem hlt)
theorem impl_sumText_n (N : Nat) (hN : 1048576 < N) (n : Nat) (hn : n ≤ 4) (o : List (Nat × Nat)) (ho : o.length ≤ 8) (hg : Ts n o) (K : ByteArray → Option β) : zj139 N (n : Int) (tl o) K = K (B (fsum n o)) := by
  unfold zj139 zb139 fsum
  rw [tl_len, show ((o.length : Int) == 0) = (o.length == 0) from natb o.length 0]
  cases hc : (o.length == 0) with
  | true => rw [cond_true, cond_true, B_strOf]; rfl
  | false =>
    rw [cond_false, cond_false, show strOf [124] = B [124] from B_strOf _, impl_joinTerms_n N hN n (by omega) o (by omega) (fun t ht => ⟨(hg t ht).2.1, (hg t ht).2.2, (ftb_good hn (hg t ht)).2.1⟩) 124]
theorem Smallest_both (N : Nat) (hN : 1048576 < N) (n w : Nat) (hn : n ≤ 5) (hw : w < 2 ^ 2 ^ n) : (∀ K : ByteArray → Bool → Option β, zj94 N (n : Int) (w : Int) K = cond (decide (n ≤ 3)) (K (B (fmF (szT n) n N w)) true) (K (B []) false)) ∧ (∀ K : ByteArray → Bool → Option β, zj169 N (n : Int) (w : Int) K = cond (decide (n ≤ 3)) (K (B (fmF (szT n) n N w)) true) (K (B []) false)) := by
  have hs : 2 ^ n ≤ 32 := (Nat.pow_le_pow_right (by decide) hn : 2 ^ n ≤ 2 ^ 5)
  have hw32 : w < 2 ^ 32 := Nat.lt_of_lt_of_le hw (Nat.pow_le_pow_right (by decide) hs)
  constructor
  · intro K
    unfold zj94 zb94
    rw [spec_IsTable_eq, isTn hn hw, Bool.not_true, cond_false]
    by_cases h3 : n ≤ 3
    · have hT := szT_ok h3
      have hl := hT.le w
      rw [decide_eq_false (by omega : ¬ (n : Int) > 3), cond_false, decide_eq_true h3, cond_true]
      unfold spec_l22Sizes zj93
      rw [gd_true (decide_eq_true (by omega)), gd_true (decide_eq_true (by omega)), Int.toNat_natCast]
      exact spec_write hN h3 hT N w hw (by omega) _
    · rw [decide_eq_true (by omega : (n : Int) > 3), cond_true, decide_eq_false h3, cond_false, B_nil]
  · intro K
    unfold zj169 zb169 zj98 zb98
    rw [impl_IsTable_eq N _ _ (by omega), isTn hn hw, cond_true]
    by_cases h3 : n ≤ 3
    · have hT := szT_ok h3
      have hl := hT.le w
      rw [decide_eq_true (by omega : (n : Int) ≤ 3)]
      dsimp only
      rw [Bool.not_true, cond_false, decide_eq_true h3, cond_true]
      unfold impl_sizes zj168
      rw [gd_true (decide_eq_true (by omega)), gd_true (decide_eq_true (by omega)), Int.toNat_natCast]
      exact impl_write hN h3 hT N w hw (by omega) _
    · rw [decide_eq_false (by omega : ¬ (n : Int) ≤ 3)]
      dsimp only
      rw [Bool.not_false, cond_true, decide_eq_false h3, cond_false, B_nil]
theorem Write_both (N : Nat) (hN : 1048576 < N) (a : List UInt8) (a1 a2 : Int) (h2 : a2 < 9223372036854775808) :
    ∃ (s : List UInt8) (b : Bool), (∀ K : ByteArray → Bool → Option β, zj95 N (B a) a1 a2 K = K (B s) b) ∧ (∀ K : ByteArray → Bool → Option β, zj170 N (B a) a1 a2 K = K (B s) b) := by
  unfold zj95 zb95 zj170 zb170 zj98 zb98
  cases ht : isT a1 a2 with
  | false => exact ⟨[], false, fun K => by rw [spec_IsTable_eq, ht, B_nil]; rfl, fun K => by rw [impl_IsTable_eq N _ _ h2, ht, B_nil]; rfl⟩
  | true =>
    simp only [spec_IsTable_eq, impl_IsTable_eq N _ _ h2, ht, Bool.not_true, cond_false, cond_true]
    obtain ⟨n, w, rfl, rfl, hn, hw, hw2⟩ := isT_nat ht
    by_cases h4 : n ≤ 4
    · simp only [decide_eq_false (by omega : ¬ (n : Int) > 4), decide_eq_true (by omega : (n : Int) ≤ 4), Bool.not_true, cond_false]
      cases (B a).toList == (strOf [116, 97, 98, 108, 101]).toList with
      | true =>
        simp only [cond_true]
        exact ⟨_, true, fun K => spec_FormatTable_n N n w (by omega) hn hw _, fun K => impl_FormatTable_n N n w (by omega) hn hw _⟩
      | false =>
        simp only [cond_false]
        cases (B a).toList == (strOf [97, 110, 102]).toList with
        | true =>
          simp only [cond_true]
          exact ⟨_, true, fun K => spec_FormatAnf_n N hN n w hn hw _, fun K => impl_FormatAnf_n N hN n w hn hw _⟩
        | false =>
          simp only [cond_false]
          cases (B a).toList == (strOf [115, 117, 109]).toList with
          | true =>
            simp only [cond_true]
            obtain ⟨b, e⟩ := spec_MinimalSum_n (β := β) N hN n w h4 hw
            refine ⟨fsum n (sumI n w), true, fun K => (e _).trans ?_, fun K => (impl_minimal_n N hN n w h4 hw _).trans ?_⟩
            · exact spec_FormatSum_n N hN n h4 _ (sumI_len n w) (sumI_good n w h4) _
            · exact impl_sumText_n N hN n h4 _ (sumI_len n w) (sumI_good n w h4) _
          | false =>
            simp only [cond_false]
            cases (B a).toList == (strOf [116, 114, 101, 101]).toList with
            | true =>
              simp only [cond_true]
              exact ⟨_, _, fun K => spec_BestTree_eq N (by omega) _ _ _, fun K => impl_BestTree_eq N (by omega) _ _ h2 _⟩
            | false =>
              simp only [cond_false]
              cases (B a).toList == (strOf [102, 111, 114, 109, 117, 108, 97]).toList with
              | true =>
                simp only [cond_true]
                obtain ⟨e1, e2⟩ := Smallest_both (β := β) N hN n w hn hw
                cases hd : decide (n ≤ 3) with
                | true => exact ⟨_, true, fun K => by rw [e1, hd]; rfl, fun K => by rw [e2, hd]; rfl⟩
                | false => exact ⟨_, false, fun K => by rw [e1, hd]; rfl, fun K => by rw [e2, hd]; rfl⟩
              | false => exact ⟨[], false, fun K => by rw [B_nil]; rfl, fun K => by rw [B_nil]; rfl⟩
    · simp only [decide_eq_true (by omega : (n : Int) > 4), decide_eq_false (by omega : ¬ (n : Int) ≤ 4), Bool.not_false, cond_true]
      exact ⟨[], false, fun K => by rw [B_nil], fun K => by rw [B_nil]⟩
theorem law_WriteAs (N : Nat) (hN : 1048576 < N) (a : ByteArray) (a1 a2 : Int) (ha : (a.size : Int) ≤ 9223372036854775807) (h1 : -9223372036854775808 ≤ a1 ∧ a1 ≤ 9223372036854775807) (h2 : -9223372036854775808 ≤ a2 ∧ a2 ≤ 9223372036854775807) (k : Bool → Option β) :
    laws_FnExactWriteAs N a a1 a2 k = k true := by
  unfold laws_FnExactWriteAs BV_laws_FnExactWriteAs
  by_cases h : (a.size : Int) > 1048576
  · rw [decide_eq_true h, cond_true]
  rw [decide_eq_false h, cond_false, ← B_data a]
  obtain ⟨s, b, e1, e2⟩ := Write_both (β := β) N hN a.data.toList a1 a2 (by omega)
  unfold zj24 zb24
  refine (e1 _).trans ((e2 _).trans ?_)
  rw [beq_self_eq_true, beq_self_eq_true]
  rfl
end Go.Proofs.YtemihnclhcobnaaGreatDoor
