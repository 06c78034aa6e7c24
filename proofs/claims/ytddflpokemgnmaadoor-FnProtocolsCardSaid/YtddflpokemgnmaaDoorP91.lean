/- Plain laws of the texts. -/
import Derived.Test.YtddflpokemgnmaaDoorT0
import Derived.Test.YtddflpokemgnmaaDoorRvNum
namespace Go.Proofs.YtddflpokemgnmaaDoor
open Go.Rv

variable {β : Type}
end Go.Proofs.YtddflpokemgnmaaDoor
namespace Go.Proofs.YtddflpokemgnmaaDoor
open Go.Rv
variable {β : Type}

end Go.Proofs.YtddflpokemgnmaaDoor
namespace Go.Proofs.YtddflpokemgnmaaDoor
open Go.Rv
set_option linter.unusedVariables false
variable {β : Type}
def tabw (g : Nat → Bool) : Nat → Nat
  | 0 => 0
  | i + 1 => tabw g i ||| (if g i then 2 ^ i else 0)
theorem tabw_lt (g : Nat → Bool) : ∀ i, tabw g i < 2 ^ i
  | 0 => by simp [tabw]
  | i + 1 => by
    have := tabw_lt g i
    unfold tabw
    have h2 : 2 ^ (i + 1) = 2 ^ i + 2 ^ i := by rw [Nat.pow_succ]; omega
    refine Nat.or_lt_two_pow (by omega) ?_
    split
    · have := Nat.two_pow_pos i; omega
    · exact Nat.two_pow_pos _
theorem tabw_congr {g h : Nat → Bool} : ∀ {n : Nat}, (∀ i, i < n → g i = h i) → tabw g n = tabw h n
  | 0, _ => rfl
  | n + 1, e => by
    unfold tabw
    rw [tabw_congr (n := n) fun i hi => e i (by omega), e n (by omega)]

theorem pow_le_64 {n : Nat} (h : n ≤ 62) : 2 ^ n < 9223372036854775808 := Nat.lt_of_le_of_lt (Nat.pow_le_pow_right (by decide) h) (by decide)
theorem size_le {n : Nat} (h : n ≤ 5) : 2 ^ n ≤ 32 := Nat.le_trans (Nat.pow_le_pow_right (by decide) h) (by decide)

theorem shl_one (n : Nat) (h : n ≤ 62) : shlI .i64 1 (n : Int) = ((2 ^ n : Nat) : Int) := by
  have := shl_nat 1 n (by omega) (by rw [Nat.one_mul]; exact pow_le_64 h)
  rw [Nat.one_mul] at this
  exact this

def ys (x i b : Nat) : Nat := x - (x &&& 2 ^ i) + b * 2 ^ i
theorem bit_at (w y : Nat) (hw : w < 9223372036854775808) : bits .and .i64 (shrI .i64 (w : Int) (y : Int)) 1 = ((if w.testBit y then 1 else 0 : Nat) : Int) := by
  rw [shr_nat w y hw]
  have h1 : w / 2 ^ y < 2 ^ 63 := Nat.lt_of_le_of_lt (Nat.div_le_self _ _) hw
  have := bAnd (w / 2 ^ y) 1 h1 (by decide)
  rw [show ((1 : Nat) : Int) = 1 from rfl] at this
  rw [this, Nat.and_one_is_mod]
  congr 1
  rw [Nat.testBit, Nat.shiftRight_eq_div_pow, Nat.and_comm, Nat.and_one_is_mod]
  have := Nat.mod_two_eq_zero_or_one (w / 2 ^ y)
  rcases this with h | h <;> simp [h]

def isT (a0 a1 : Int) : Bool := decide (0 ≤ a0) && decide (a0 ≤ 5) && decide (0 ≤ a1) && decide (a1 < 2 ^ 2 ^ a0.toNat)

theorem isT_nat {a0 a1 : Int} (h : isT a0 a1 = true) : ∃ n w : Nat, a0 = n ∧ a1 = w ∧ n ≤ 5 ∧ w < 2 ^ 2 ^ n ∧ w < 4294967296 := by
  simp only [isT, Bool.and_eq_true, decide_eq_true_eq] at h
  obtain ⟨⟨⟨h1, h2⟩, h3⟩, h4⟩ := h
  obtain ⟨n, rfl⟩ := Int.eq_ofNat_of_zero_le h1
  obtain ⟨w, rfl⟩ := Int.eq_ofNat_of_zero_le h3
  simp only [Int.toNat_natCast] at h4
  have h5 : w < 2 ^ 2 ^ n := by exact_mod_cast h4
  have h6 : 2 ^ 2 ^ n ≤ 2 ^ 32 := Nat.pow_le_pow_right (by decide) (size_le (by omega))
  exact ⟨n, w, rfl, rfl, by omega, h5, by omega⟩

theorem shl_u64 : ∀ n : Nat, n ≤ 5 → shlI .u64 1 (n : Int) = ((2 ^ n : Nat) : Int) := by decide +kernel

theorem spec_IsTable_eq (N : Nat) (a0 a1 : Int) (k : Bool → Option β) : zj59 N a0 a1 k = k (isT a0 a1) := by
  unfold zj59 zj58
  by_cases h0 : 0 ≤ a0
  · rw [decide_eq_true (by omega : a0 ≥ 0)]
    simp only [cond_true]
    by_cases h5 : a0 ≤ 5
    · rw [decide_eq_true h5]
      obtain ⟨n, rfl⟩ := Int.eq_ofNat_of_zero_le h0
      have hn : n ≤ 5 := by omega
      have hs := size_le hn
      have hp := pow_le_64 (n := 2 ^ n) (by omega)
      have hpos := Nat.two_pow_pos (2 ^ n)
      simp only [cond_true]
      rw [gd_true rfl, shl_u64 n hn, gd_true (decide_eq_true (Int.natCast_nonneg _)), shl_one (2 ^ n) (by omega), w64_id (by omega) (by omega)]
      have e : isT (n : Int) a1 = (decide (0 ≤ a1) && decide (a1 < ((2 ^ 2 ^ n : Nat) : Int))) := by
        simp only [isT, Int.toNat_natCast, decide_eq_true (by omega : 0 ≤ (n : Int)), decide_eq_true (by omega : (n : Int) ≤ 5), Bool.true_and]
        push_cast
        rfl
      rw [e]
      by_cases h1 : 0 ≤ a1
      · rw [decide_eq_true (by omega : a1 ≥ 0)]
        simp only [cond_true, Bool.true_and]
        congr 1
        exact decide_eq_decide.2 (by omega)
      · rw [decide_eq_false (by omega : ¬ a1 ≥ 0)]; rfl
    · rw [decide_eq_false h5]
      simp [isT, h5]
  · rw [decide_eq_false (by omega : ¬ a0 ≥ 0)]
    simp [isT, h0]

theorem impl_IsTable_eq (N : Nat) (a0 a1 : Int) (h : a1 < 9223372036854775808) (k : Bool → Option β) : zj30 N a0 a1 k = k (isT a0 a1) := by
  unfold zj30 zj28 zj29
  by_cases h0 : 0 ≤ a0
  · rw [decide_eq_true (by omega : a0 ≥ 0)]
    simp only [cond_true]
    by_cases h5 : a0 ≤ 5
    · rw [decide_eq_true h5]
      obtain ⟨n, rfl⟩ := Int.eq_ofNat_of_zero_le h0
      have hn : n ≤ 5 := by omega
      have hs := size_le hn
      have hpos := Nat.two_pow_pos (2 ^ n)
      simp only [cond_true]
      rw [gd_true rfl]
      have e : isT (n : Int) a1 = (decide (0 ≤ a1) && decide (a1 < ((2 ^ 2 ^ n : Nat) : Int))) := by
        simp only [isT, Int.toNat_natCast, decide_eq_true (by omega : 0 ≤ (n : Int)), decide_eq_true (by omega : (n : Int) ≤ 5), Bool.true_and]
        push_cast
        rfl
      rw [e]
      by_cases h1 : 0 ≤ a1
      · obtain ⟨w, rfl⟩ := Int.eq_ofNat_of_zero_le h1
        rw [decide_eq_true (by omega : (w : Int) ≥ 0), shl_one n (by omega)]
        simp only [cond_true, Bool.true_and]
        rw [gd_true (decide_eq_true (Int.natCast_nonneg _)), shr_nat w (2 ^ n) (by omega)]
        congr 1
        have : w / 2 ^ 2 ^ n = 0 ↔ w < 2 ^ 2 ^ n := by
          rw [Nat.div_eq_zero_iff]
          omega
        by_cases hw : w < 2 ^ 2 ^ n
        · rw [this.2 hw, decide_eq_true (by omega)]; rfl
        · rw [decide_eq_false (by omega)]
          have : ¬ w / 2 ^ 2 ^ n = 0 := fun h => hw (this.1 h)
          simp only [beq_eq_false_iff_ne, ne_eq]
          omega
      · rw [decide_eq_false (by omega : ¬ a1 ≥ 0)]; rfl
    · rw [decide_eq_false h5]
      simp [isT, h5]
  · rw [decide_eq_false (by omega : ¬ a0 ≥ 0)]
    simp [isT, h0]
end Go.Proofs.YtddflpokemgnmaaDoor
namespace Go.Proofs.YtddflpokemgnmaaDoor
open Go.Rv
set_option linter.unusedVariables false
variable {β : Type}
theorem tabw_bit (g : Nat → Bool) : ∀ (n x : Nat), (tabw g n).testBit x = (decide (x < n) && g x)
  | 0, x => by simp [tabw]
  | n + 1, x => by
    unfold tabw
    rw [Nat.testBit_or, tabw_bit g n x]
    by_cases hx : x = n
    · subst hx
      cases hg : g x <;> simp [Nat.testBit_two_pow_self]
    · have h1 : (if g n then 2 ^ n else 0 : Nat).testBit x = false := by
        split
        · exact Nat.testBit_two_pow_of_ne (Ne.symm hx)
        · exact Nat.zero_testBit _
      rw [h1, Bool.or_false]
      congr 1
      exact decide_eq_decide.2 (by omega)

def ins (x i b : Nat) : Nat := (x / 2 ^ i) * 2 ^ (i + 1) ||| b * 2 ^ i ||| (x &&& (2 ^ i - 1))
def dep (w n i : Nat) : Bool := tabw (fun x => w.testBit (ins x i 0)) (2 ^ (n - 1)) != tabw (fun x => w.testBit (ins x i 1)) (2 ^ (n - 1))

def vars (w n m : Nat) : List Int := ((List.range m).filter fun i => dep w n i).map Int.ofNat
end Go.Proofs.YtddflpokemgnmaaDoor
namespace Go.Proofs.YtddflpokemgnmaaDoor
open Go.Rv
set_option linter.unusedVariables false
variable {β : Type}
end Go.Proofs.YtddflpokemgnmaaDoor
namespace Go.Proofs.YtddflpokemgnmaaDoor
open Go.Rv
set_option linter.unusedVariables false
variable {β : Type}
def sees (w n x i b : Nat) : Bool := (w ^^^ tabw (fun x => w.testBit (ys x i b)) (2 ^ n)).testBit x
def addIf (c : Bool) (l : List Int) (v : Int) : List Int := if c then l ++ [v] else l
def seen (w n x : Nat) : Nat → List Int
  | 0 => []
  | i + 1 => addIf (sees w n x i 1) (addIf (sees w n x i 0) (seen w n x i) ((2 * i : Nat) : Int)) ((2 * i + 1 : Nat) : Int)
theorem isT_of {n w : Nat} (hn : n ≤ 5) (hw : w < 2 ^ 2 ^ n) : isT (n : Int) (w : Int) = true := by
  simp only [isT, Bool.and_eq_true, decide_eq_true_eq, Int.toNat_natCast]
  refine ⟨⟨⟨by omega, by omega⟩, by omega⟩, ?_⟩
  rw [show ((2 : Int) ^ 2 ^ n) = ((2 ^ 2 ^ n : Nat) : Int) by simp]
  omega

end Go.Proofs.YtddflpokemgnmaaDoor
namespace Go.Proofs.YtddflpokemgnmaaDoor
open Go.Rv
set_option linter.unusedVariables false
variable {β : Type}
theorem spec_l1In_eq (N : Nat) (a b c : Int) (k : Bool → Option β) : zj58 N a b c k = k (decide (b ≤ a) && decide (a ≤ c)) := by
  unfold zj58
  by_cases h : b ≤ a
  · rw [decide_eq_true (by omega : a ≥ b)]; rfl
  · rw [decide_eq_false (by omega : ¬ a ≥ b)]; rfl
theorem two32 {n w : Nat} (hn : n ≤ 5) (hw : w < 2 ^ 2 ^ n) : w < 4294967296 := Nat.lt_of_lt_of_le hw (Nat.pow_le_pow_right (by decide) (size_le hn) : 2 ^ 2 ^ n ≤ 2 ^ 32)

def addAll (s : Nat) (l : List Int) : Nat := l.foldl (fun s x => s ||| 2 ^ x.toNat) s

end Go.Proofs.YtddflpokemgnmaaDoor
namespace Go.Proofs.YtddflpokemgnmaaDoor
open Go.Rv
set_option linter.unusedVariables false
variable {β : Type}
structure IsMin (b0 : Nat) (S : Nat → Prop) (b : Nat) : Prop where
  le : b ≤ b0
  all : ∀ v, S v → b ≤ v
  one : b = b0 ∨ S b
theorem isMin_le {b0 b c : Nat} {S : Nat → Prop} (h : IsMin b0 S b) (k : IsMin b0 S c) : b ≤ c := by
  rcases k.one with e | e
  · have := h.le; omega
  · exact h.all _ e
theorem isMin_unique {b0 b c : Nat} {S : Nat → Prop} (h : IsMin b0 S b) (k : IsMin b0 S c) : b = c := Nat.le_antisymm (isMin_le h k) (isMin_le k h)
theorem isMin_add {b0 b : Nat} {S : Nat → Prop} (h : IsMin b0 S b) (u : Nat) : IsMin b0 (fun v => S v ∨ v = u) (min b u) where
  le := by have := h.le; omega
  all := by
    rintro v (hv | hv)
    · have := h.all v hv; omega
    · omega
  one := by
    by_cases e : b ≤ u
    · rw [Nat.min_eq_left e]
      exact h.one.imp id .inl
    · rw [Nat.min_eq_right (by omega)]
      exact .inr (.inr rfl)
theorem isMin_congr {b0 b : Nat} {S T : Nat → Prop} (h : IsMin b0 S b) (e : ∀ v, S v ↔ T v) : IsMin b0 T b := ⟨h.le, fun v hv => h.all v ((e v).2 hv), h.one.imp id (e b).1⟩
theorem isMin_join {b0 b c : Nat} {S T : Nat → Prop} (h : IsMin b0 S b) (k : IsMin b T c) : IsMin b0 (fun v => S v ∨ T v) c where
  le := by have := h.le; have := k.le; omega
  all := by
    rintro v (hv | hv)
    · have := h.all v hv; have := k.le; omega
    · exact k.all v hv
  one := by
    rcases k.one with e | e
    · rw [e]; exact h.one.imp id .inl
    · exact .inr (.inr e)

def qmin (B : Nat) (free : Nat → Bool) (val : Nat → Nat) : Nat → Nat
  | 0 => B
  | i + 1 => if free i then min (qmin B free val i) (val i) else qmin B free val i
theorem qmin_isMin (B : Nat) (free : Nat → Bool) (val : Nat → Nat) : ∀ n, IsMin B (fun v => ∃ i, i < n ∧ free i = true ∧ v = val i) (qmin B free val n)
  | 0 => ⟨Nat.le_refl _, fun v ⟨i, h, _⟩ => by omega, .inl rfl⟩
  | n + 1 => by
    have ih := qmin_isMin B free val n
    simp only [qmin]
    cases hf : free n with
    | true =>
      rw [if_pos rfl]
      refine isMin_congr (isMin_add ih (val n)) fun v => ⟨?_, ?_⟩
      · rintro (⟨i, h1, h2⟩ | h)
        · exact ⟨i, by omega, h2⟩
        · exact ⟨n, by omega, hf, h⟩
      · rintro ⟨i, h1, h2, h3⟩
        by_cases e : i = n
        · subst e; exact .inr h3
        · exact .inl ⟨i, by omega, h2, h3⟩
    | false =>
      rw [if_neg (by decide)]
      refine isMin_congr ih fun v => ⟨fun ⟨i, h1, h2⟩ => ⟨i, by omega, h2⟩, ?_⟩
      rintro ⟨i, h1, h2, h3⟩
      by_cases e : i = n
      · subst e; rw [hf] at h2; cases h2
      · exact ⟨i, by omega, h2, h3⟩
theorem qmin_congr {B C : Nat} (hB : B = C) {free : Nat → Bool} {val val' : Nat → Nat} : ∀ {n : Nat}, (∀ i, i < n → free i = true → val i = val' i) → qmin B free val n = qmin C free val' n
  | 0, _ => hB
  | n + 1, h => by
    simp only [qmin]
    rw [qmin_congr hB fun i hi hf => h i (by omega) hf]
    cases hf : free n with
    | true => rw [h n (by omega) hf]
    | false => rfl

def sub (A x : Nat) : Bool := x != 0 && (x != A && (x &&& A == x))
theorem sub_lt : ∀ A, A < 16 → ∀ x, x < 16 → sub A x = true → x < A ∧ 0 < x ∧ A - x < A ∧ 0 < A - x ∧ sub A (A - x) = true ∧ A - (A - x) = x := by decide +kernel
def lg (A : Nat) : Nat := [0, 0, 0, 1, 0, 1, 1, 2, 0, 1, 1, 2, 1, 2, 2, 2].getD A 0
theorem lg_le : ∀ A, A < 16 → lg A ≤ 2 := by decide +kernel
theorem lg_split : ∀ A, A < 16 → lg A ≠ 0 → ∃ x, x < 16 ∧ sub A x = true ∧ lg x < lg A ∧ lg (A - x) < lg A := by decide +kernel
theorem lg_zero1 : ∀ A, A < 16 → ∀ r, r < 4 → ∀ s, s < 4 → (lg A == 0 && (A.testBit r && A.testBit s)) = true → r = s := by decide +kernel
theorem lg_zero (A : Nat) (hA : A < 16) (r : Nat) (hr : r < 4) (s : Nat) (hs : s < 4) (h0 : lg A = 0) (h1 : A.testBit r = true) (h2 : A.testBit s = true) : r = s :=
  lg_zero1 A hA r hr s hs (by rw [h0, h1, h2]; rfl)

def nd (mx : Nat → Nat → Bool) : Nat → Nat → Nat → Nat
  | 0, _, _ => 0
  | f + 1, A, B => if mx A B then qmin (qmin 4 (sub A) (fun x => 1 + max (nd mx f (A - x) B) (nd mx f x B)) 16) (sub B) (fun y => 1 + max (nd mx f A (B - y)) (nd mx f A y)) 16 else 0
def need (mx : Nat → Nat → Bool) (A B : Nat) : Nat := nd mx (A + B + 1) A B
def rowV (mx : Nat → Nat → Bool) (A B x : Nat) : Nat := 1 + max (need mx (A - x) B) (need mx x B)
def colV (mx : Nat → Nat → Bool) (A B y : Nat) : Nat := 1 + max (need mx A (B - y)) (need mx A y)
theorem nd_fuel (mx : Nat → Nat → Bool) : ∀ f A B, A < 16 → B < 16 → A + B < f → nd mx f A B = need mx A B
  | 0, A, B, _, _, h => by omega
  | f + 1, A, B, hA, hB, h => by
    simp only [need, nd]
    cases hx : mx A B with
    | false => rfl
    | true =>
      rw [if_pos rfl, if_pos rfl]
      refine qmin_congr (qmin_congr rfl fun x hx hs => ?_) fun y hy hs => ?_
      · have := sub_lt A hA x hx hs
        rw [nd_fuel mx f (A - x) B (by omega) hB (by omega), nd_fuel mx f x B hx hB (by omega), nd_fuel mx (A + B) (A - x) B (by omega) hB (by omega), nd_fuel mx (A + B) x B hx hB (by omega)]
      · have := sub_lt B hB y hy hs
        rw [nd_fuel mx f A (B - y) hA (by omega) (by omega), nd_fuel mx f A y hA hy (by omega), nd_fuel mx (A + B) A (B - y) hA (by omega) (by omega), nd_fuel mx (A + B) A y hA hy (by omega)]
theorem need_eq (mx : Nat → Nat → Bool) (A B : Nat) (hA : A < 16) (hB : B < 16) : need mx A B = if mx A B then qmin (qmin 4 (sub A) (rowV mx A B) 16) (sub B) (colV mx A B) 16 else 0 := by
  have : need mx A B = nd mx (A + B + 1) A B := rfl
  rw [this]
  simp only [nd]
  cases hx : mx A B with
  | false => rfl
  | true =>
    rw [if_pos rfl, if_pos rfl]
    refine qmin_congr (qmin_congr rfl fun x hx hs => ?_) fun y hy hs => ?_
    · have := sub_lt A hA x hx hs
      rw [nd_fuel mx _ (A - x) B (by omega) hB (by omega), nd_fuel mx _ x B hx hB (by omega)]
      rfl
    · have := sub_lt B hB y hy hs
      rw [nd_fuel mx _ A (B - y) hA (by omega) (by omega), nd_fuel mx _ A y hA hy (by omega)]
      rfl

def rowS (mx : Nat → Nat → Bool) (A B v : Nat) : Prop := ∃ x, x < 16 ∧ sub A x = true ∧ v = rowV mx A B x
def colS (mx : Nat → Nat → Bool) (A B v : Nat) : Prop := ∃ y, y < 16 ∧ sub B y = true ∧ v = colV mx A B y
theorem need_isMin {mx : Nat → Nat → Bool} {A B : Nat} (hA : A < 16) (hB : B < 16) (hx : mx A B = true) : IsMin 4 (fun v => rowS mx A B v ∨ colS mx A B v) (need mx A B) := by
  rw [need_eq mx A B hA hB, if_pos hx]
  exact isMin_join (qmin_isMin 4 (sub A) (rowV mx A B) 16) (qmin_isMin _ (sub B) (colV mx A B) 16)

def Single (mx : Nat → Nat → Bool) : Prop := ∀ A B, A < 16 → B < 16 → lg A = 0 → lg B = 0 → mx A B = false
theorem need_le {mx : Nat → Nat → Bool} (hmx : Single mx) : ∀ s A B, A + B ≤ s → A < 16 → B < 16 → need mx A B ≤ lg A + lg B := by
  intro s
  induction s with
  | zero =>
    intro A B h hA hB
    rw [show A = 0 by omega, show B = 0 by omega] at *
    rw [need_eq mx 0 0 hA hB, hmx 0 0 hA hB rfl rfl, if_neg (by decide)]
    exact Nat.zero_le _
  | succ s ih =>
    intro A B h hA hB
    cases hx : mx A B with
    | false => rw [need_eq mx A B hA hB, hx, if_neg (by decide)]; exact Nat.zero_le _
    | true =>
      have hm := need_isMin hA hB hx
      by_cases h0 : lg A = 0
      · by_cases h1 : lg B = 0
        · rw [hmx A B hA hB h0 h1] at hx; cases hx
        · obtain ⟨y, hy, hs, hl, hr⟩ := lg_split B hB h1
          have hlt := sub_lt B hB y hy hs
          have h2 := hm.all _ (.inr ⟨y, hy, hs, rfl⟩)
          have h3 := ih A (B - y) (by omega) hA (by omega)
          have h4 := ih A y (by omega) hA hy
          unfold colV at h2
          omega
      · obtain ⟨x, hx', hs, hl, hr⟩ := lg_split A hA h0
        have hlt := sub_lt A hA x hx' hs
        have h2 := hm.all _ (.inl ⟨x, hx', hs, rfl⟩)
        have h3 := ih (A - x) B (by omega) (by omega) hB
        have h4 := ih x B (by omega) hx' hB
        unfold rowV at h2
        omega
theorem need_le4 {mx : Nat → Nat → Bool} (hmx : Single mx) (A B : Nat) (hA : A < 16) (hB : B < 16) : need mx A B ≤ 4 := by
  have h1 := need_le hmx (A + B) A B (Nat.le_refl _) hA hB
  have h2 := lg_le A hA
  have h3 := lg_le B hB
  omega
theorem need_some {mx : Nat → Nat → Bool} (hmx : Single mx) {A B : Nat} (hA : A < 16) (hB : B < 16) (hx : mx A B = true) : rowS mx A B (need mx A B) ∨ colS mx A B (need mx A B) := by
  have hm := need_isMin hA hB hx
  have key : ∃ v, v ≤ 4 ∧ (rowS mx A B v ∨ colS mx A B v) := by
    by_cases h0 : lg A = 0
    · by_cases h1 : lg B = 0
      · rw [hmx A B hA hB h0 h1] at hx; cases hx
      · obtain ⟨y, hy, hs, hl, hr⟩ := lg_split B hB h1
        have hlt := sub_lt B hB y hy hs
        have h3 := need_le hmx _ A (B - y) (Nat.le_refl _) hA (by omega)
        have h4 := need_le hmx _ A y (Nat.le_refl _) hA hy
        have h5 := lg_le A hA
        have h6 := lg_le B hB
        exact ⟨colV mx A B y, by unfold colV; omega, .inr ⟨y, hy, hs, rfl⟩⟩
    · obtain ⟨x, hx', hs, hl, hr⟩ := lg_split A hA h0
      have hlt := sub_lt A hA x hx' hs
      have h3 := need_le hmx _ (A - x) B (Nat.le_refl _) (by omega) hB
      have h4 := need_le hmx _ x B (Nat.le_refl _) hx' hB
      have h5 := lg_le A hA
      have h6 := lg_le B hB
      exact ⟨rowV mx A B x, by unfold rowV; omega, .inl ⟨x, hx', hs, rfl⟩⟩
  obtain ⟨v, hv, hS⟩ := key
  rcases hm.one with e | e
  · have := hm.all v hS
    have : v = need mx A B := by omega
    rw [← this]
    exact hS
  · exact e
theorem need_pos {mx : Nat → Nat → Bool} {A B : Nat} (hA : A < 16) (hB : B < 16) (hx : mx A B = true) : 0 < need mx A B := by
  rcases (need_isMin hA hB hx).one with e | ⟨x, _, _, e⟩ | ⟨x, _, _, e⟩
  · omega
  · unfold rowV at e; omega
  · unfold colV at e; omega
theorem least_eq {mx : Nat → Nat → Bool} (hmx : Single mx) {A B : Nat} (hA : A < 16) (hB : B < 16) (hx : mx A B = true) (b : Nat) {c : Nat}
    (h : IsMin b (fun v => rowS mx A B v ∨ colS mx A B v) c) : c = min (need mx A B) b := by
  have h1 := need_some hmx hA hB hx
  have h2 := h.all _ h1
  have h3 := h.le
  rcases h.one with e | e
  · omega
  · have := (need_isMin hA hB hx).all _ e
    omega

def hexs : ByteArray := strOf [48, 49, 50, 51, 52, 53, 54, 55, 56, 57, 97, 98, 99, 100, 101, 102]
def node (c : Int) (x : Nat) : ByteArray := strOf [c] ++ hexs.extract x (x + 1)
def ff (p : Nat → Bool) : Nat → Nat → Option Nat
  | 0, _ => none
  | d + 1, i => if p i then some i else ff p d (i + 1)
theorem ff_none (p : Nat → Bool) : ∀ d i, (∀ j, i ≤ j → j < i + d → p j = false) → ff p d i = none
  | 0, _, _ => rfl
  | d + 1, i, h => by
    simp only [ff]
    rw [h i (by omega) (by omega), if_neg (by decide), ff_none p d (i + 1) fun j h1 h2 => h j (by omega) (by omega)]
theorem ff_some (p : Nat → Bool) : ∀ d i x, ff p d i = some x → p x = true ∧ x < i + d
  | 0, _, _, h => by cases h
  | d + 1, i, x, h => by
    simp only [ff] at h
    cases hp : p i with
    | true => rw [hp, if_pos rfl] at h; cases h; exact ⟨hp, by omega⟩
    | false =>
      rw [hp, if_neg (by decide)] at h
      have := ff_some p d (i + 1) x h
      exact ⟨this.1, by omega⟩
def rowP (mx : Nat → Nat → Bool) (A B x : Nat) : Bool := sub A x && (decide (need mx (A - x) B < need mx A B) && decide (need mx x B < need mx A B))
def colP (mx : Nat → Nat → Bool) (A B y : Nat) : Bool := sub B y && (decide (need mx A (B - y) < need mx A B) && decide (need mx A y < need mx A B))
def bs (mx : Nat → Nat → Bool) (vl : Nat → Nat → Bool) : Nat → Nat → Nat → ByteArray
  | 0, _, _ => ByteArray.empty
  | f + 1, A, B => if mx A B then match ff (rowP mx A B) 16 0 with
      | some x => (node 65 x ++ bs mx vl f (A - x) B) ++ bs mx vl f x B
      | none => match ff (colP mx A B) 16 0 with
        | some y => (node 66 y ++ bs mx vl f A (B - y)) ++ bs mx vl f A y
        | none => ByteArray.empty
    else strOf [if vl A B then 49 else 48]
theorem size_node : ∀ x, x < 16 → (node 65 x).size = 2 ∧ (node 66 x).size = 2 := by decide +kernel
theorem size_ap (a b : ByteArray) : (a ++ b).size = a.size + b.size := ByteArray.size_append
theorem bs_size (mx vl : Nat → Nat → Bool) : ∀ f A B, A < 16 → B < 16 → (bs mx vl f A B).size + 2 ≤ 3 * 2 ^ (A + B)
  | 0, A, B, _, _ => by
    have := Nat.two_pow_pos (A + B)
    have e : (bs mx vl 0 A B).size = 0 := rfl
    omega
  | f + 1, A, B, hA, hB => by
    have hpos := Nat.two_pow_pos (A + B)
    have half : ∀ C D, C + D < A + B → 2 * 2 ^ (C + D) ≤ 2 ^ (A + B) := fun C D h => by
      have : 2 ^ (C + D + 1) ≤ 2 ^ (A + B) := Nat.pow_le_pow_right (by decide) h
      rw [Nat.pow_succ] at this
      omega
    simp only [bs]
    cases hx : mx A B with
    | false =>
      rw [if_neg (by decide)]
      have : (strOf [if vl A B then 49 else 48]).size = 1 := by cases vl A B <;> rfl
      omega
    | true =>
      rw [if_pos rfl]
      cases h1 : ff (rowP mx A B) 16 0 with
      | some x =>
        have hp := ff_some _ _ _ _ h1
        have hs : sub A x = true := by
          have := hp.1
          simp only [rowP, Bool.and_eq_true] at this
          exact this.1
        have hlt := sub_lt A hA x (by omega) hs
        have i1 := bs_size mx vl f (A - x) B (by omega) hB
        have i2 := bs_size mx vl f x B (by omega) hB
        have e1 := half (A - x) B (by omega)
        have e2 := half x B (by omega)
        have e3 := (size_node x (by omega)).1
        simp only [size_ap]
        omega
      | none =>
        cases h2 : ff (colP mx A B) 16 0 with
        | some y =>
          have hp := ff_some _ _ _ _ h2
          have hs : sub B y = true := by
            have := hp.1
            simp only [colP, Bool.and_eq_true] at this
            exact this.1
          have hlt := sub_lt B hB y (by omega) hs
          have i1 := bs_size mx vl f A (B - y) hA (by omega)
          have i2 := bs_size mx vl f A y hA (by omega)
          have e1 := half A (B - y) (by omega)
          have e2 := half A y (by omega)
          have e3 := (size_node y (by omega)).2
          simp only [size_ap]
          omega
        | none =>
          have e : ByteArray.empty.size = 0 := rfl
          simp only [e]
          omega
theorem bs_small (mx vl : Nat → Nat → Bool) (f A B : Nat) (hA : A < 16) (hB : B < 16) : (bs mx vl f A B).size ≤ 4000000000 := by
  have h1 := bs_size mx vl f A B hA hB
  have h2 : 2 ^ (A + B) ≤ 2 ^ 30 := Nat.pow_le_pow_right (by decide) (by omega)
  have h3 : (2 : Nat) ^ 30 = 1073741824 := by decide
  omega
end Go.Proofs.YtddflpokemgnmaaDoor
namespace Go.Proofs.YtddflpokemgnmaaDoor
open Go.Rv
set_option linter.unusedVariables false
variable {β : Type}
theorem bit_zero (b : Bool) : (((if b then 1 else 0 : Nat) : Int) == 0) = !b := by cases b <;> rfl
def enc (f t : Bool) : Int := cond f (cond t 2 0) (cond t 1 (-1))
def encI (f t : Bool) : Int := cond f (cond t (-1) 0) (cond t 1 (-1))

def hcr (B row : Nat) (v : Bool) : Nat → Nat → Bool
  | 0, _ => false
  | d + 1, j => (B.testBit j && (row.testBit j == v)) || hcr B row v d (j + 1)
def hrr (A B : Nat) (rw_ : Nat → Nat) (v : Bool) : Nat → Nat → Bool
  | 0, _ => false
  | d + 1, i => (A.testBit i && hcr B (rw_ i) v 4 0) || hrr A B rw_ v d (i + 1)
def hx (w k A B : Nat) (v : Bool) : Nat → Nat → Bool
  | 0, _ => false
  | d + 1, x => (A.testBit (x % 2 ^ k) && (B.testBit (x / 2 ^ k) && (w.testBit x == v))) || hx w k A B v d (x + 1)
theorem hcr_iff (B row : Nat) (v : Bool) : ∀ d j, hcr B row v d j = true ↔ ∃ c, j ≤ c ∧ c < j + d ∧ B.testBit c = true ∧ row.testBit c = v
  | 0, j => by
    constructor
    · intro h; cases h
    · rintro ⟨c, h1, h2, _⟩; omega
  | d + 1, j => by
    simp only [hcr, Bool.or_eq_true, Bool.and_eq_true, beq_iff_eq, hcr_iff B row v d (j + 1)]
    constructor
    · rintro (h | ⟨c, h1, h2, h3⟩)
      · exact ⟨j, by omega, by omega, h⟩
      · exact ⟨c, by omega, by omega, h3⟩
    · rintro ⟨c, h1, h2, h3⟩
      by_cases e : c = j
      · subst e; exact .inl h3
      · exact .inr ⟨c, by omega, by omega, h3⟩
theorem hrr_iff (A B : Nat) (rw_ : Nat → Nat) (v : Bool) : ∀ d i, hrr A B rw_ v d i = true ↔ ∃ r, i ≤ r ∧ r < i + d ∧ A.testBit r = true ∧ hcr B (rw_ r) v 4 0 = true
  | 0, j => by
    constructor
    · intro h; cases h
    · rintro ⟨c, h1, h2, _⟩; omega
  | d + 1, j => by
    simp only [hrr, Bool.or_eq_true, Bool.and_eq_true, hrr_iff A B rw_ v d (j + 1)]
    constructor
    · rintro (h | ⟨c, h1, h2, h3⟩)
      · exact ⟨j, by omega, by omega, h⟩
      · exact ⟨c, by omega, by omega, h3⟩
    · rintro ⟨c, h1, h2, h3⟩
      by_cases e : c = j
      · subst e; exact .inl h3
      · exact .inr ⟨c, by omega, by omega, h3⟩
theorem hx_iff (w k A B : Nat) (v : Bool) : ∀ d x, hx w k A B v d x = true ↔ ∃ y, x ≤ y ∧ y < x + d ∧ A.testBit (y % 2 ^ k) = true ∧ B.testBit (y / 2 ^ k) = true ∧ w.testBit y = v
  | 0, j => by
    constructor
    · intro h; cases h
    · rintro ⟨c, h1, h2, _⟩; omega
  | d + 1, j => by
    simp only [hx, Bool.or_eq_true, Bool.and_eq_true, beq_iff_eq, hx_iff w k A B v d (j + 1)]
    constructor
    · rintro (h | ⟨c, h1, h2, h3⟩)
      · exact ⟨j, by omega, by omega, h⟩
      · exact ⟨c, by omega, by omega, h3⟩
    · rintro ⟨c, h1, h2, h3⟩
      by_cases e : c = j
      · subst e; exact .inl h3
      · exact .inr ⟨c, by omega, by omega, h3⟩
theorem hcr_zero (B row : Nat) (v : Bool) (d j : Nat) (h : B < 2 ^ j) : hcr B row v d j = false := by
  cases hh : hcr B row v d j with
  | false => rfl
  | true =>
    obtain ⟨c, h1, _, h2, _⟩ := (hcr_iff B row v d j).1 hh
    have := Nat.testBit_lt_two_pow (Nat.lt_of_lt_of_le h (Nat.pow_le_pow_right (by decide) h1))
    rw [this] at h2
    cases h2

theorem one_inner (N : Nat) (m : List Int) (A B row i : Nat) (hB : B < 16) (hrow : row < 16) (hi : i < m.length) (hm : rd 0 m (i : Int) = (row : Int)) (k0 : Int → Option β) (k1 : List Int → Int → Int → Int → Int → Option β) :
    ∀ (d j G : Nat) (f t : Bool), j + d = 4 → d < G → (f && t) = false →
      zj67 N G m (A : Int) (B : Int) (enc f t) (i : Int) (j : Int) k0 k1 =
        cond ((f || hcr B row false d j) && (t || hcr B row true d j)) (k0 2) (k1 m (A : Int) (B : Int) (enc (f || hcr B row false d j) (t || hcr B row true d j)) (i : Int)) := by
  intro d
  induction d with
  | zero =>
    intro j G f t hj hG hft
    obtain ⟨G, rfl⟩ : ∃ H, G = H + 1 := ⟨G - 1, by omega⟩
    simp only [zj67, zj66, hcr, Bool.or_false]
    rw [hft, cond_false, gd_true (decide_eq_true (by omega : (0 : Int) ≤ (j : Int))), shr_nat B j (by omega), show j = 4 by omega, show B / 2 ^ 4 = 0 by omega]
    rfl
  | succ d ih =>
    intro j G f t hj hG hft
    obtain ⟨G, rfl⟩ : ∃ H, G = H + 1 := ⟨G - 1, by omega⟩
    simp only [zj67, zj66]
    simp only [gd_true (decide_eq_true (by omega : (0 : Int) ≤ (j : Int)))]
    by_cases hz : B < 2 ^ j
    · rw [hcr_zero B row false _ j hz, hcr_zero B row true _ j hz, Bool.or_false, Bool.or_false, hft, cond_false, shr_nat B j (by omega), Nat.div_eq_of_lt hz]
      rfl
    · have hpos : 0 < B / 2 ^ j := Nat.div_pos (by omega) (Nat.two_pow_pos j)
      rw [bit_at B j (by omega), hm, bit_at row j (by omega), shr_nat B j (by omega), decide_eq_true (by omega : ((B / 2 ^ j : Nat) : Int) > 0), cond_true, bit_zero, w64_succ j (by omega)]
      simp only [gd_true (decide_eq_true (by omega : (0 : Int) ≤ (i : Int))), gd_true (decide_eq_true (by omega : (i : Int) < (m.length : Int))), hcr]
      cases hb : B.testBit j with
      | false =>
        simp only [Bool.false_and, Bool.false_or, Bool.not_false, cond_true]
        exact ih (j + 1) G f t (by omega) (by omega) hft
      | true =>
        simp only [Bool.true_and, Bool.not_true, cond_false]
        cases hr : row.testBit j with
        | false =>
          have h1 := ih (j + 1) G true t (by omega) (by omega)
          cases t with
          | true =>
            cases f with
            | true => cases hft
            | false => simp [enc]
          | false =>
            have h1 := h1 rfl
            cases f <;> simpa [enc] using h1
        | true =>
          have h1 := ih (j + 1) G f true (by omega) (by omega)
          cases f with
          | true =>
            cases t with
            | true => cases hft
            | false => simp [enc]
          | false =>
            have h1 := h1 rfl
            cases t <;> simpa [enc] using h1
theorem one_outer (N : Nat) (hN : 64 < N) (m : List Int) (A B : Nat) (rw_ : Nat → Nat) (hA : A < 16) (hB : B < 16) (hlen : m.length ≤ 4) (hm : ∀ i, i < m.length → rd 0 m (i : Int) = (rw_ i : Int) ∧ rw_ i < 16) (k0 k1 : Int → Option β) :
    ∀ (d i G : Nat) (f t : Bool), i + d = m.length → d < G → (f && t) = false →
      zj69 N G m (A : Int) (B : Int) (enc f t) (i : Int) k0 k1 =
        cond ((f || hrr A B rw_ false d i) && (t || hrr A B rw_ true d i)) (k0 2) (k1 (enc (f || hrr A B rw_ false d i) (t || hrr A B rw_ true d i))) := by
  intro d
  induction d with
  | zero =>
    intro i G f t hi hG hft
    obtain ⟨G, rfl⟩ : ∃ H, G = H + 1 := ⟨G - 1, by omega⟩
    simp only [zj69, zj68, hrr, Bool.or_false]
    rw [hft, cond_false, decide_eq_false (by omega : ¬ (i : Int) < (m.length : Int)), cond_false]
  | succ d ih =>
    intro i G f t hi hG hft
    obtain ⟨G, rfl⟩ : ∃ H, G = H + 1 := ⟨G - 1, by omega⟩
    simp only [zj69, zj68]
    rw [decide_eq_true (by omega : (i : Int) < (m.length : Int)), cond_true, gd_true (decide_eq_true (by omega : (0 : Int) ≤ (i : Int))), bit_at A i (by omega), bit_zero]
    simp only [w64_succ i (by omega)]
    have hmi := hm i (by omega)
    have h0 := one_inner (β := β) N m A B (rw_ i) i hB hmi.2 (by omega) hmi.1 (fun e => k0 e) (fun e0 e1 e2 e3 e4 => zj69 N G e0 e1 e2 e3 (w64 (e4 + 1)) k0 k1) 4 0 N f t (by omega) (by omega) hft
    simp only [Int.natCast_zero] at h0
    cases ha : A.testBit i with
    | false =>
      simp only [hrr, ha, Bool.false_and, Bool.false_or, Bool.not_false, cond_true]
      exact ih (i + 1) G f t (by omega) (by omega) hft
    | true =>
      simp only [hrr, ha, Bool.true_and, Bool.not_true, cond_false]
      rw [h0]
      generalize hcr B (rw_ i) false 4 0 = cf
      generalize hcr B (rw_ i) true 4 0 = ct
      cases hb : (f || cf) && (t || ct) with
      | true =>
        simp only [Bool.and_eq_true, Bool.or_eq_true] at hb
        rw [cond_true]
        have e1 : (f || (cf || hrr A B rw_ false d (i + 1))) = true := by rcases hb.1 with e | e <;> simp [e]
        have e2 : (t || (ct || hrr A B rw_ true d (i + 1))) = true := by rcases hb.2 with e | e <;> simp [e]
        rw [e1, e2]
        rfl
      | false =>
        rw [cond_false, w64_succ i (by omega)]
        have h1 := ih (i + 1) G (f || cf) (t || ct) (by omega) (by omega) hb
        rw [Bool.or_assoc, Bool.or_assoc] at h1
        exact h1
theorem spec_l21One_eq (N : Nat) (hN : 64 < N) (m : List Int) (A B : Nat) (rw_ : Nat → Nat) (hA : A < 16) (hB : B < 16) (hlen : m.length ≤ 4) (hm : ∀ i, i < m.length → rd 0 m (i : Int) = (rw_ i : Int) ∧ rw_ i < 16) (k : Int → Option β) :
    zj70 N m (A : Int) (B : Int) k = k (enc (hrr A B rw_ false m.length 0) (hrr A B rw_ true m.length 0)) := by
  unfold zj70
  have h := one_outer (β := β) N hN m A B rw_ hA hB hlen hm (fun e => k e) (fun e => k e) m.length 0 N false false (by omega) (by omega) rfl
  simp only [Int.natCast_zero, Bool.false_or] at h
  refine Eq.trans h ?_
  cases hrr A B rw_ false m.length 0 <;> cases hrr A B rw_ true m.length 0 <;> rfl

theorem mask_eq (x k : Nat) (hx : x < 64) (hk : k ≤ 5) : bits .and .i64 (x : Int) (w64 (shlI .i64 1 (k : Int) - 1)) = ((x % 2 ^ k : Nat) : Int) := by
  have hp := Nat.two_pow_pos k
  have hs := size_le hk
  rw [shl_one k (by omega), show ((2 ^ k : Nat) : Int) - 1 = ((2 ^ k - 1 : Nat) : Int) by omega, w64_nat _ (by omega), bAnd x _ (by omega) (by omega), Nat.and_two_pow_sub_one_eq_mod]
theorem impl_at_eq (N n w x : Nat) (hw : w < 4294967296) (k : Int → Option β) : zj38 N (n : Int) (w : Int) (x : Int) k = k ((if w.testBit x then 1 else 0 : Nat) : Int) := by
  unfold zj38
  rw [gd_true (decide_eq_true (by omega : (0 : Int) ≤ (x : Int))), bit_at w x (by omega)]
theorem value_loop (N : Nat) (n w k A B : Nat) (hn : n ≤ 5) (hk : k ≤ 5) (hw : w < 4294967296) (hA : A < 16) (hB : B < 16) (mp : Mp) (k0 k1 : Int → Int → Int → Int → Mp → Option β) :
    ∀ (d x G : Nat) (f t : Bool), x + d = 2 ^ n → d < G → (f && t) = false →
      zj40 N G (encI f t) ((2 ^ n : Nat) : Int) (x : Int) (n : Int) (w : Int) (k : Int) mp (A : Int) (B : Int) k0 k1 =
        cond ((f || hx w k A B false d x) && (t || hx w k A B true d x)) (k0 (-1) n w k mp) (k1 (encI (f || hx w k A B false d x) (t || hx w k A B true d x)) n w k mp) := by
  have hs := size_le hn
  intro d
  induction d with
  | zero =>
    intro x G f t hx' hG hft
    obtain ⟨G, rfl⟩ : ∃ H, G = H + 1 := ⟨G - 1, by omega⟩
    simp only [zj40, zj39, hx, Bool.or_false]
    rw [hft, cond_false, decide_eq_false (by omega : ¬ (x : Int) < ((2 ^ n : Nat) : Int)), cond_false]
  | succ d ih =>
    intro x G f t hx' hG hft
    obtain ⟨G, rfl⟩ : ∃ H, G = H + 1 := ⟨G - 1, by omega⟩
    simp only [zj40, zj39]
    rw [decide_eq_true (by omega : (x : Int) < ((2 ^ n : Nat) : Int)), cond_true, mask_eq x k (by omega) hk, shr_nat x k (by omega)]
    simp only [gd_true (decide_eq_true (by omega : (0 : Int) ≤ (k : Int))), gd_true (decide_eq_true (Int.natCast_nonneg (x % 2 ^ k))), gd_true (decide_eq_true (Int.natCast_nonneg (x / 2 ^ k))), bit_at A _ (by omega : A < 9223372036854775808), bit_at B _ (by omega : B < 9223372036854775808), bit_zero, impl_at_eq N n w x hw, w64_succ x (by omega), hx]
    cases ha : A.testBit (x % 2 ^ k) with
    | false =>
      simp only [Bool.false_and, Bool.false_or, Bool.not_false, cond_true]
      exact ih (x + 1) G f t (by omega) (by omega) hft
    | true =>
      cases hb : B.testBit (x / 2 ^ k) with
      | false =>
        simp only [Bool.false_and, Bool.and_false, Bool.false_or, Bool.not_false, Bool.not_true, cond_true, cond_false]
        exact ih (x + 1) G f t (by omega) (by omega) hft
      | true =>
        simp only [Bool.true_and, Bool.not_true, cond_false]
        cases hr : w.testBit x with
        | false =>
          have h1 := ih (x + 1) G true t (by omega) (by omega)
          cases t with
          | true =>
            cases f with
            | true => cases hft
            | false => simp [encI]
          | false =>
            have h1 := h1 rfl
            cases f <;> simpa [encI] using h1
        | true =>
          have h1 := ih (x + 1) G f true (by omega) (by omega)
          cases f with
          | true =>
            cases t with
            | true => cases hft
            | false => simp [encI]
          | false =>
            have h1 := h1 rfl
            cases t <;> simpa [encI] using h1
theorem impl_value_eq (N : Nat) (hN : 64 < N) (n w k A B : Nat) (hn : n ≤ 5) (hk : k ≤ 5) (hw : w < 4294967296) (hA : A < 16) (hB : B < 16) (mp : Mp) (k0 : Int → Int → Int → Int → Mp → Option β) :
    zj41 N (A : Int) (B : Int) (n : Int) (w : Int) (k : Int) mp k0 = k0 (encI (hx w k A B false (2 ^ n) 0) (hx w k A B true (2 ^ n) 0)) n w k mp := by
  have hs := size_le hn
  unfold zj41 zj29
  rw [gd_true (decide_eq_true (by omega : (0 : Int) ≤ (n : Int))), shl_one n (by omega)]
  have h := value_loop (β := β) N n w k A B hn hk hw hA hB mp (fun e0 e1 e2 e3 e4 => k0 e0 e1 e2 e3 e4) (fun e0 e1 e2 e3 e4 => k0 e0 e1 e2 e3 e4) (2 ^ n) 0 N false false (by omega) (by omega) rfl
  simp only [Int.natCast_zero, Bool.false_or] at h
  refine Eq.trans h ?_
  cases hx w k A B false (2 ^ n) 0 <;> cases hx w k A B true (2 ^ n) 0 <;> rfl

def mrow (w k q r : Nat) : Nat := tabw (fun c => w.testBit (r ||| c * 2 ^ k)) q
def rows (w k q a : Nat) : List Int := (List.range a).map fun r => ((mrow w k q r : Nat) : Int)
theorem rows_len (w k q a : Nat) : (rows w k q a).length = a := by simp [rows]
theorem rows_succ (w k q a : Nat) : rows w k q (a + 1) = rows w k q a ++ [((mrow w k q a : Nat) : Int)] := by simp [rows, List.range_succ]
theorem rows_rd (w k q a i : Nat) (h : i < a) : rd 0 (rows w k q a) (i : Int) = ((mrow w k q i : Nat) : Int) := by
  rw [rd_nat 0 _ i (by rw [rows_len]; exact h)]
  simp [rows]
set_option synthInstance.maxHeartbeats 1000000 in
set_option synthInstance.maxSize 2000 in
theorem small_parts : ∀ k, k ≤ 2 → ∀ j, j ≤ 2 → ∀ r, r < 2 ^ k → ∀ c, c < 2 ^ j → (r ||| c * 2 ^ k) < 2 ^ (k + j) ∧ (r ||| c * 2 ^ k) % 2 ^ k = r ∧ (r ||| c * 2 ^ k) / 2 ^ k = c := by decide +kernel
theorem small_whole : ∀ k, k ≤ 2 → ∀ j, j ≤ 2 → ∀ x, x < 2 ^ (k + j) → (x % 2 ^ k ||| x / 2 ^ k * 2 ^ k) = x ∧ x / 2 ^ k < 2 ^ j := by decide +kernel
theorem mat_inner (N : Nat) (n w k a : Nat) (hk : k ≤ 2) (hkn : k ≤ n) (hq : n - k ≤ 2) (hw : w < 4294967296) (ha : a < 2 ^ k) (out : List Int) (K : Int → Int → Int → Int → Int → List Int → Option β) :
    ∀ (d b G : Nat), b + d = 2 ^ (n - k) → d < G →
      zj62 N G (k : Int) (a : Int) (tabw (fun c => w.testBit (a ||| c * 2 ^ k)) b : Int) (b : Int) (n : Int) (w : Int) out K = K k a (mrow w k (2 ^ (n - k)) a : Int) n w out := by
  have h4 : 2 ^ (n - k) ≤ 4 := Nat.pow_le_pow_right (by decide) hq
  have h4k : 2 ^ k ≤ 4 := Nat.pow_le_pow_right (by decide) hk
  intro d
  induction d with
  | zero =>
    intro b G hb hG
    obtain ⟨G, rfl⟩ : ∃ H, G = H + 1 := ⟨G - 1, by omega⟩
    simp only [zj62, zj61]
    rw [show ((n : Int) - (k : Int)) = ((n - k : Nat) : Int) by omega, w64_nat _ (by omega), gd_true (decide_eq_true (by omega : (0 : Int) ≤ ((n - k : Nat) : Int))), shl_one _ (by omega), decide_eq_false (by omega : ¬ (b : Int) < ((2 ^ (n - k) : Nat) : Int)), cond_false, show b = 2 ^ (n - k) by omega]
    rfl
  | succ d ih =>
    intro b G hb hG
    obtain ⟨G, rfl⟩ : ∃ H, G = H + 1 := ⟨G - 1, by omega⟩
    have hsp := small_parts k hk (n - k) hq a ha b (by omega)
    have hn4 : 2 ^ (k + (n - k)) ≤ 2 ^ 4 := Nat.pow_le_pow_right (by decide) (by omega)
    have hbk : b * 2 ^ k < 64 := Nat.lt_of_le_of_lt (Nat.mul_le_mul (by omega : b ≤ 4) h4k) (by decide)
    have hlt := tabw_lt (fun c => w.testBit (a ||| c * 2 ^ k)) b
    have hb2 : 2 ^ b ≤ 2 ^ 4 := Nat.pow_le_pow_right (by decide) (by omega)
    simp only [zj62, zj61]
    rw [show ((n : Int) - (k : Int)) = ((n - k : Nat) : Int) by omega, w64_nat _ (by omega), gd_true (decide_eq_true (by omega : (0 : Int) ≤ ((n - k : Nat) : Int))), shl_one _ (by omega), decide_eq_true (by omega : (b : Int) < ((2 ^ (n - k) : Nat) : Int)), cond_true,
      gd_true (decide_eq_true (by omega : (0 : Int) ≤ (k : Int))), shl_nat b k (by omega) (by omega), bOr a _ (by omega) (by omega), gd_true (decide_eq_true (by omega : (0 : Int) ≤ ((a ||| b * 2 ^ k : Nat) : Int))), gd_true (decide_eq_true (by omega : (0 : Int) ≤ (b : Int))), bit_at w _ (by omega), w64_succ b (by omega)]
    have h1 := ih (b + 1) G (by omega) (by omega)
    have e : bits .or .i64 ((tabw (fun c => w.testBit (a ||| c * 2 ^ k)) b : Nat) : Int) (shlI .i64 ((if w.testBit (a ||| b * 2 ^ k) then 1 else 0 : Nat) : Int) (b : Int)) = ((tabw (fun c => w.testBit (a ||| c * 2 ^ k)) (b + 1) : Nat) : Int) := by
      cases hbit : w.testBit (a ||| b * 2 ^ k) with
      | true =>
        rw [if_pos rfl, show ((1 : Nat) : Int) = 1 from rfl, shl_one b (by omega), bOr _ _ (by omega) (by omega)]
        simp [tabw, hbit]
      | false =>
        rw [if_neg (by decide), shl_nat 0 b (by omega) (by omega), bOr _ _ (by omega) (by omega)]
        simp [tabw, hbit]
    rw [e]
    exact h1
theorem mat_outer (N : Nat) (hN : 64 < N) (n w k : Nat) (hk : k ≤ 2) (hkn : k ≤ n) (hq : n - k ≤ 2) (hw : w < 4294967296) (K : List Int → Option β) :
    ∀ (d a G : Nat), a + d = 2 ^ k → d < G →
      zj64 N G (k : Int) (a : Int) (n : Int) (w : Int) (rows w k (2 ^ (n - k)) a) K = K (rows w k (2 ^ (n - k)) (2 ^ k)) := by
  have h4 : 2 ^ (n - k) ≤ 4 := Nat.pow_le_pow_right (by decide) hq
  have h4k : 2 ^ k ≤ 4 := Nat.pow_le_pow_right (by decide) hk
  intro d
  induction d with
  | zero =>
    intro a G ha hG
    obtain ⟨G, rfl⟩ : ∃ H, G = H + 1 := ⟨G - 1, by omega⟩
    simp only [zj64, zj63]
    rw [gd_true (decide_eq_true (by omega : (0 : Int) ≤ (k : Int))), shl_one k (by omega), decide_eq_false (by omega : ¬ (a : Int) < ((2 ^ k : Nat) : Int)), cond_false, show a = 2 ^ k by omega]
  | succ d ih =>
    intro a G ha hG
    obtain ⟨G, rfl⟩ : ∃ H, G = H + 1 := ⟨G - 1, by omega⟩
    simp only [zj64, zj63]
    rw [gd_true (decide_eq_true (by omega : (0 : Int) ≤ (k : Int))), shl_one k (by omega), decide_eq_true (by omega : (a : Int) < ((2 ^ k : Nat) : Int)), cond_true]
    have h0 := mat_inner (β := β) N n w k a hk hkn hq hw (by omega) (rows w k (2 ^ (n - k)) a) (fun e7_0 e7_1 e7_2 e7_3 e7_4 e7_5 =>
      (gd ((decide ((e7_5.length + ((([] : List Int) ++ [e7_2])).length) * 8 ≤ 140737488355328)))
      (zj64 N G e7_0 ((w64 (e7_1 + 1))) e7_3 e7_4 ((e7_5 ++ (([] : List Int) ++ [e7_2]))) K))) (2 ^ (n - k)) 0 N (by omega) (by omega)
    simp only [tabw, Int.natCast_zero] at h0
    refine Eq.trans h0 ?_
    have hl := rows_len w k (2 ^ (n - k)) a
    rw [gd_true (decide_eq_true (by rw [hl]; simp only [List.nil_append, List.length_cons, List.length_nil]; omega)), w64_succ a (by omega), List.nil_append, ← rows_succ]
    exact ih (a + 1) G (by omega) (by omega)
theorem mrow_lt (w k q r : Nat) (hq : q ≤ 4) : mrow w k q r < 16 := Nat.lt_of_lt_of_le (tabw_lt _ _) (Nat.pow_le_pow_right (by decide) hq : 2 ^ q ≤ 2 ^ 4)

def bothOn (w n k A B : Nat) : Bool := hx w k A B false (2 ^ n) 0 && hx w k A B true (2 ^ n) 0
def isOne (w n k A B : Nat) : Bool := hx w k A B true (2 ^ n) 0
theorem scan_eq (w n k A B : Nat) (hk : k ≤ 2) (hkn : k ≤ n) (hq : n - k ≤ 2) (hB : B < 2 ^ 2 ^ (n - k)) (v : Bool) : hrr A B (mrow w k (2 ^ (n - k))) v (2 ^ k) 0 = hx w k A B v (2 ^ n) 0 := by
  have h4 : 2 ^ (n - k) ≤ 4 := Nat.pow_le_pow_right (by decide) hq
  have en : k + (n - k) = n := by omega
  rw [Bool.eq_iff_iff, hrr_iff, hx_iff]
  constructor
  · rintro ⟨r, _, h1, h2, h3⟩
    obtain ⟨c, _, h4', h5, h6⟩ := (hcr_iff _ _ _ _ _).1 h3
    have hc : c < 2 ^ (n - k) := by
      by_cases hge : c < 2 ^ (n - k)
      · exact hge
      · have := Nat.testBit_lt_two_pow (Nat.lt_of_lt_of_le hB (Nat.pow_le_pow_right (by decide) (by omega : 2 ^ (n - k) ≤ c)))
        rw [this] at h5; cases h5
    have hsp := small_parts k hk (n - k) hq r (by omega) c hc
    rw [en] at hsp
    refine ⟨r ||| c * 2 ^ k, by omega, by omega, by rw [hsp.2.1]; exact h2, by rw [hsp.2.2]; exact h5, ?_⟩
    unfold mrow at h6
    rw [tabw_bit, decide_eq_true hc, Bool.true_and] at h6
    exact h6
  · rintro ⟨x, _, h1, h2, h3, h5⟩
    have hsw := small_whole k hk (n - k) hq x (by rw [en]; omega)
    refine ⟨x % 2 ^ k, by omega, by have := Nat.mod_lt x (Nat.two_pow_pos k); omega, h2, (hcr_iff _ _ _ _ _).2 ⟨x / 2 ^ k, Nat.zero_le _, by rw [Nat.zero_add]; exact Nat.lt_of_lt_of_le hsw.2 h4, h3, ?_⟩⟩
    unfold mrow
    rw [tabw_bit, decide_eq_true hsw.2, Bool.true_and]
    rw [hsw.1]
    exact h5
theorem some_bit (A k : Nat) (h0 : A ≠ 0) (h : A < 2 ^ 2 ^ k) : ∃ r, r < 2 ^ k ∧ A.testBit r = true := by
  obtain ⟨r, hr⟩ := Nat.exists_testBit_of_ne_zero h0
  refine ⟨r, ?_, hr⟩
  by_cases hge : r < 2 ^ k
  · exact hge
  · have := Nat.testBit_lt_two_pow (Nat.lt_of_lt_of_le h (Nat.pow_le_pow_right (by decide) (by omega : 2 ^ k ≤ r)))
    rw [this] at hr; cases hr
theorem some_value (w n k A B : Nat) (hk : k ≤ 2) (hkn : k ≤ n) (hq : n - k ≤ 2) (hA : A < 2 ^ 2 ^ k) (hB : B < 2 ^ 2 ^ (n - k)) (hA0 : A ≠ 0) (hB0 : B ≠ 0) : (hx w k A B false (2 ^ n) 0 || hx w k A B true (2 ^ n) 0) = true := by
  obtain ⟨r, hr, hra⟩ := some_bit A k hA0 hA
  obtain ⟨c, hc, hcb⟩ := some_bit B (n - k) hB0 hB
  have hsp := small_parts k hk (n - k) hq r hr c hc
  rw [show k + (n - k) = n by omega] at hsp
  have key : hx w k A B (w.testBit (r ||| c * 2 ^ k)) (2 ^ n) 0 = true := (hx_iff _ _ _ _ _ _ _).2 ⟨r ||| c * 2 ^ k, by omega, by omega, by rw [hsp.2.1]; exact hra, by rw [hsp.2.2]; exact hcb, rfl⟩
  cases hb : w.testBit (r ||| c * 2 ^ k) <;> rw [hb] at key <;> simp [key]
theorem mixed_single (w n k : Nat) (hk : k ≤ 2) (hkn : k ≤ n) (hq : n - k ≤ 2) : Single (bothOn w n k) := by
  intro A B hA hB h0 h1
  have h4 : 2 ^ (n - k) ≤ 4 := Nat.pow_le_pow_right (by decide) hq
  have h4k : 2 ^ k ≤ 4 := Nat.pow_le_pow_right (by decide) hk
  cases hm : bothOn w n k A B with
  | false => rfl
  | true =>
    exfalso
    unfold bothOn at hm
    simp only [Bool.and_eq_true, hx_iff] at hm
    obtain ⟨⟨x, _, hx1, hx2, hx3, hx4⟩, y, _, hy1, hy2, hy3, hy4⟩ := hm
    have ex := small_whole k hk (n - k) hq x (by rw [show k + (n - k) = n by omega]; omega)
    have ey := small_whole k hk (n - k) hq y (by rw [show k + (n - k) = n by omega]; omega)
    have mx := Nat.mod_lt x (Nat.two_pow_pos k)
    have my := Nat.mod_lt y (Nat.two_pow_pos k)
    have e1 := lg_zero A hA _ (by omega) _ (by omega) h0 hx2 hy2
    have e2 := lg_zero B hB _ (by omega) _ (by omega) h1 hx3 hy3
    have : x = y := by rw [← ex.1, ← ey.1, e1, e2]
    rw [this, hy4] at hx4
    cases hx4

theorem enc_mixed (w n k A B : Nat) : decide (enc (hx w k A B false (2 ^ n) 0) (hx w k A B true (2 ^ n) 0) < 2) = !bothOn w n k A B := by
  unfold bothOn
  cases hx w k A B false (2 ^ n) 0 <;> cases hx w k A B true (2 ^ n) 0 <;> rfl
theorem encI_mixed (w n k A B : Nat) (h : (hx w k A B false (2 ^ n) 0 || hx w k A B true (2 ^ n) 0) = true) : decide (encI (hx w k A B false (2 ^ n) 0) (hx w k A B true (2 ^ n) 0) < 0) = bothOn w n k A B := by
  unfold bothOn
  revert h
  cases hx w k A B false (2 ^ n) 0 <;> cases hx w k A B true (2 ^ n) 0 <;> intro h <;> first | rfl | cases h
theorem enc_value (w n k A B : Nat) (h : (hx w k A B false (2 ^ n) 0 || hx w k A B true (2 ^ n) 0) = true) (hm : bothOn w n k A B = false) : enc (hx w k A B false (2 ^ n) 0) (hx w k A B true (2 ^ n) 0) = ((if isOne w n k A B then 1 else 0 : Nat) : Int) ∧ encI (hx w k A B false (2 ^ n) 0) (hx w k A B true (2 ^ n) 0) = ((if isOne w n k A B then 1 else 0 : Nat) : Int) := by
  unfold bothOn at hm
  unfold isOne
  revert h hm
  cases hx w k A B false (2 ^ n) 0 <;> cases hx w k A B true (2 ^ n) 0 <;> intro h hm <;> first | exact ⟨rfl, rfl⟩ | exact absurd h (by decide) | exact absurd hm (by decide)
end Go.Proofs.YtddflpokemgnmaaDoor
namespace Go.Proofs.YtddflpokemgnmaaDoor
open Go.Rv
set_option linter.unusedVariables false
variable {β : Type}
theorem mnI_nat1 (a b : Nat) : mnI (a : Int) (b : Int) = ((min a b : Nat) : Int) := by unfold mnI; split <;> omega
theorem mxI_nat1 (a b : Nat) : mxI (a : Int) (b : Int) = ((max a b : Nat) : Int) := by unfold mxI; split <;> omega

theorem next_low : ∀ A, A < 16 → ∀ x, x < 16 → x ≠ 0 → x ≤ A → (x - 1) &&& A < x ∧ ((x - 1) &&& A = 0 ∨ sub A ((x - 1) &&& A) = true) := by decide +kernel
set_option synthInstance.maxHeartbeats 1000000 in
set_option synthInstance.maxSize 2000 in
theorem next_all1 : ∀ A, A < 16 → ∀ x, x < 16 → ∀ y, y < 16 → (x &&& A == x && sub A y) = true → y < x → y ≤ (x - 1) &&& A := by decide +kernel
theorem next_all (A : Nat) (hA : A < 16) (x : Nat) (hx : x < 16) (he : x &&& A = x) (y : Nat) (hy : y < 16) (hs : sub A y = true) (hlt : y < x) : y ≤ (x - 1) &&& A :=
  next_all1 A hA x hx y hy (by rw [he, hs, Bool.and_true]; exact beq_self_eq_true x) hlt
theorem sub_and {A x : Nat} (h : sub A x = true) : x &&& A = x := by
  simp only [sub, Bool.and_eq_true, bne_iff_ne, beq_iff_eq] at h
  exact h.2.2

def upS (A : Nat) (val : Nat → Nat) (x v : Nat) : Prop := ∃ y, x < y ∧ y < 16 ∧ sub A y = true ∧ A - y ≤ y ∧ v = val y
theorem up_step (A : Nat) (hA : A < 16) (val : Nat → Nat) (x : Nat) (hx : x < 16) (hs : sub A x = true) (v : Nat) : upS A val ((x - 1) &&& A) v ↔ upS A val x v ∨ (A - x ≤ x ∧ v = val x) := by
  have hlt := sub_lt A hA x hx hs
  have hn := next_low A hA x hx (by omega) (by omega)
  constructor
  · rintro ⟨y, h1, h2, h3, h4, h5⟩
    by_cases e : y = x
    · subst e; exact .inr ⟨h4, h5⟩
    · refine .inl ⟨y, ?_, h2, h3, h4, h5⟩
      by_cases hlt : y < x
      · have := next_all A hA x hx (sub_and hs) y h2 h3 hlt; omega
      · omega
  · rintro (⟨y, h1, h2, h3, h4, h5⟩ | ⟨h4, h5⟩)
    · exact ⟨y, by omega, h2, h3, h4, h5⟩
    · exact ⟨x, hn.1, hx, hs, h4, h5⟩
theorem up_start (A : Nat) (hA : A < 16) (val : Nat → Nat) (v : Nat) : ¬ upS A val ((A - 1) &&& A) v := by
  rintro ⟨y, h1, h2, h3, h4, h5⟩
  have hlt := sub_lt A hA y h2 h3
  have := next_all A hA A hA (Nat.and_self A) y h2 h3 hlt.1
  omega
theorem up_zero (A : Nat) (hA : A < 16) (val : Nat → Nat) (hsym : ∀ y, y < 16 → sub A y = true → val (A - y) = val y) (v : Nat) : upS A val 0 v ↔ ∃ y, y < 16 ∧ sub A y = true ∧ v = val y := by
  constructor
  · rintro ⟨y, h1, h2, h3, h4, h5⟩
    exact ⟨y, h2, h3, h5⟩
  · rintro ⟨y, h2, h3, h5⟩
    have hlt := sub_lt A hA y h2 h3
    by_cases h4 : A - y ≤ y
    · exact ⟨y, by omega, h2, h3, h4, h5⟩
    · exact ⟨A - y, by omega, by omega, hlt.2.2.2.2.1, by omega, by rw [hsym y h2 h3]; exact h5⟩
section
variable (N n w k : Nat) (hN : 64 < N) (hk : k ≤ 2) (hkn : k ≤ n) (hq : n - k ≤ 2)
include hN hk hkn hq
theorem one_eq (A B : Nat) (hA : A < 16) (hB : B < 2 ^ 2 ^ (n - k)) (K : Int → Option β) :
    zj70 N (rows w k (2 ^ (n - k)) (2 ^ k)) (A : Int) (B : Int) K = K (enc (hx w k A B false (2 ^ n) 0) (hx w k A B true (2 ^ n) 0)) := by
  have h4 : 2 ^ (n - k) ≤ 4 := Nat.pow_le_pow_right (by decide) hq
  have h4k : 2 ^ k ≤ 4 := Nat.pow_le_pow_right (by decide) hk
  have hB16 : B < 16 := Nat.lt_of_lt_of_le hB (Nat.pow_le_pow_right (by decide) h4 : 2 ^ 2 ^ (n - k) ≤ 2 ^ 4)
  rw [spec_l21One_eq N hN _ A B (mrow w k (2 ^ (n - k))) hA hB16 (by rw [rows_len]; omega) (fun i hi => ⟨rows_rd _ _ _ _ _ (by rwa [rows_len] at hi), mrow_lt _ _ _ _ h4⟩), rows_len, scan_eq w n k A B hk hkn hq hB, scan_eq w n k A B hk hkn hq hB]
omit hN hk hkn hq in
theorem mixed_ne (A B : Nat) (h : bothOn w n k A B = true) : A ≠ 0 ∧ B ≠ 0 := by
  unfold bothOn at h
  simp only [Bool.and_eq_true, hx_iff] at h
  obtain ⟨⟨x, _, _, h1, h2, _⟩, _⟩ := h
  constructor
  · intro e; rw [e, Nat.zero_testBit] at h1; cases h1
  · intro e; rw [e, Nat.zero_testBit] at h2; cases h2

def LeastOK (N n w k : Nat) (F s : Nat) : Prop := ∀ {β : Type} (A B b : Nat), A + B < s → A < 16 → B < 2 ^ 2 ^ (n - k) → b ≤ 100 → ∀ K : Int → Option β,
  zj76 N F (rows w k (2 ^ (n - k)) (2 ^ k)) (A : Int) (B : Int) (b : Int) K = K ((min (need (bothOn w n k) A B) (b + 1) : Nat) : Int)

omit hN hk hkn hq in
theorem row_loop (F A B : Nat) (hA : A < 16) (hB : B < 2 ^ 2 ^ (n - k)) (b : Nat) (hb : b ≤ 100) (ih : LeastOK N n w k F (A + B)) (k0 : Int → Option β) (k1 : List Int → Int → Int → Int → Option β) :
    ∀ (x G best : Nat), x < G → x < 16 → (x = 0 ∨ sub A x = true) → 2 ≤ best → IsMin (b + 1) (upS A (rowV (bothOn w n k) A B) x) best →
      zj72 N (zj76 N F) G (rows w k (2 ^ (n - k)) (2 ^ k)) (A : Int) (B : Int) (best : Int) (x : Int) k0 k1 =
        cond (qmin (b + 1) (sub A) (rowV (bothOn w n k) A B) 16 == 1) (k0 1) (k1 (rows w k (2 ^ (n - k)) (2 ^ k)) (A : Int) (B : Int) (qmin (b + 1) (sub A) (rowV (bothOn w n k) A B) 16 : Int)) := by
  intro x
  have hfull := qmin_isMin (b + 1) (sub A) (rowV (bothOn w n k) A B) 16
  have hsym : ∀ y, y < 16 → sub A y = true → rowV (bothOn w n k) A B (A - y) = rowV (bothOn w n k) A B y := fun y hy hs => by
    unfold rowV
    rw [(sub_lt A hA y hy hs).2.2.2.2.2, Nat.max_comm]
  induction x using Nat.strongRecOn with
  | ind x ihx =>
    intro G best hG hx' hs hb2 hm
    obtain ⟨G, rfl⟩ : ∃ H, G = H + 1 := ⟨G - 1, by omega⟩
    have hle := hm.le
    simp only [zj72, zj71]
    rcases hs with rfl | hs
    · rw [decide_eq_false (by omega : ¬ ((0 : Nat) : Int) > 0), cond_false]
      have e := isMin_unique (isMin_congr hm (up_zero A hA _ hsym)) hfull
      rw [← e, show (best == 1) = false by simp; omega, cond_false]
    · have hlt := sub_lt A hA x hx' hs
      have hn := next_low A hA x hx' (by omega) (by omega)
      have hup := up_step A hA (rowV (bothOn w n k) A B) x hx' hs
      have e1 : ((A : Int) - (x : Int)) = ((A - x : Nat) : Int) := by omega
      rw [decide_eq_true (by omega : (x : Int) > 0), cond_true]
      rw [show ((x : Int) - 1) = ((x - 1 : Nat) : Int) by omega, w64_nat (x - 1) (by omega), bAnd (x - 1) A (by omega) (by omega), e1, w64_nat (A - x) (by omega), show ((best : Int) - 2) = ((best - 2 : Nat) : Int) by omega, w64_nat (best - 2) (by omega)]
      by_cases hskip : x < A - x
      · rw [decide_eq_true (by omega : (x : Int) < ((A - x : Nat) : Int)), cond_true]
        refine ihx _ hn.1 G best (by omega) (by omega) hn.2 hb2 (isMin_congr hm fun v => ?_)
        rw [hup]
        constructor
        · exact .inl
        · rintro (h | h)
          · exact h
          · omega
      · rw [decide_eq_false (by omega : ¬ (x : Int) < ((A - x : Nat) : Int)), cond_false, ih x B (best - 2) (by omega) hx' hB (by omega)]
        have hadd : IsMin (b + 1) (upS A (rowV (bothOn w n k) A B) ((x - 1) &&& A)) (min best (rowV (bothOn w n k) A B x)) := isMin_congr (isMin_add hm (rowV (bothOn w n k) A B x)) fun v => by
          rw [hup]
          constructor
          · rintro (h | h)
            · exact .inl h
            · exact .inr ⟨by omega, h⟩
          · rintro (h | ⟨_, h⟩)
            · exact .inl h
            · exact .inr h
        have e2 : w64 (1 + ((min (need (bothOn w n k) x B) (best - 2 + 1) : Nat) : Int)) = ((min (1 + need (bothOn w n k) x B) best : Nat) : Int) := by
          rw [w64_id] <;> omega
        rw [e2]
        by_cases hmore : 1 + need (bothOn w n k) x B < best
        · rw [decide_eq_true (by omega : ((min (1 + need (bothOn w n k) x B) best : Nat) : Int) < (best : Int)), cond_true, ih (A - x) B (best - 2) (by omega) (by omega) hB (by omega)]
          have e3 : w64 (1 + ((min (need (bothOn w n k) (A - x) B) (best - 2 + 1) : Nat) : Int)) = ((min (1 + need (bothOn w n k) (A - x) B) best : Nat) : Int) := by
            rw [w64_id] <;> omega
          have e4 : min best (max (min (1 + need (bothOn w n k) x B) best) (min (1 + need (bothOn w n k) (A - x) B) best)) = min best (rowV (bothOn w n k) A B x) := by
            unfold rowV; omega
          rw [e3, mxI_nat1, mnI_nat1, e4]
          by_cases h1 : min best (rowV (bothOn w n k) A B x) = 1
          · have hq1 : qmin (b + 1) (sub A) (rowV (bothOn w n k) A B) 16 = 1 := by
              have hup1 : qmin (b + 1) (sub A) (rowV (bothOn w n k) A B) 16 ≤ min best (rowV (bothOn w n k) A B x) := by
                refine Nat.le_min.2 ⟨?_, hfull.all _ ⟨x, hx', hs, rfl⟩⟩
                rcases hm.one with e | ⟨y, _, hy, hsy, _, e⟩
                · rw [e]; exact hfull.le
                · exact hfull.all _ ⟨y, hy, hsy, e⟩
              rcases hfull.one with e | ⟨y, _, _, e⟩
              · omega
              · unfold rowV at e hup1 ⊢; omega
            rw [h1, hq1]
            rfl
          · rw [show (((min best (rowV (bothOn w n k) A B x) : Nat) : Int) == 1) = false by simp only [beq_eq_false_iff_ne, ne_eq]; omega, cond_false]
            refine ihx _ hn.1 G _ (by omega) (by omega) hn.2 ?_ hadd
            unfold rowV at h1 ⊢
            omega
        · have e5 : min best (rowV (bothOn w n k) A B x) = best := by unfold rowV; omega
          rw [decide_eq_false (by omega : ¬ ((min (1 + need (bothOn w n k) x B) best : Nat) : Int) < (best : Int)), cond_false, show ((best : Int) == 1) = false by simp only [beq_eq_false_iff_ne, ne_eq]; omega, cond_false]
          rw [e5] at hadd
          exact ihx _ hn.1 G best (by omega) (by omega) hn.2 hb2 hadd

omit hN hk hkn in
theorem col_loop (F A B : Nat) (hA : A < 16) (hB : B < 2 ^ 2 ^ (n - k)) (b : Nat) (hb : b ≤ 101) (ih : LeastOK N n w k F (A + B)) (k0 : Int → Option β) :
    ∀ (x G best : Nat), x < G → x < 16 → (x = 0 ∨ sub B x = true) → 1 ≤ best → IsMin b (upS B (colV (bothOn w n k) A B) x) best →
      zj74 N (zj76 N F) G (rows w k (2 ^ (n - k)) (2 ^ k)) (A : Int) (B : Int) (best : Int) (x : Int) k0 =
        k0 (qmin b (sub B) (colV (bothOn w n k) A B) 16 : Int) := by
  intro x
  have h4 : 2 ^ (n - k) ≤ 4 := Nat.pow_le_pow_right (by decide) hq
  have hB16 : B < 16 := Nat.lt_of_lt_of_le hB (Nat.pow_le_pow_right (by decide) h4 : 2 ^ 2 ^ (n - k) ≤ 2 ^ 4)
  have hfull := qmin_isMin b (sub B) (colV (bothOn w n k) A B) 16
  have hsym : ∀ y, y < 16 → sub B y = true → colV (bothOn w n k) A B (B - y) = colV (bothOn w n k) A B y := fun y hy hs => by
    unfold colV
    rw [(sub_lt B hB16 y hy hs).2.2.2.2.2, Nat.max_comm]
  induction x using Nat.strongRecOn with
  | ind x ihx =>
    intro G best hG hx' hs hb2 hm
    obtain ⟨G, rfl⟩ : ∃ H, G = H + 1 := ⟨G - 1, by omega⟩
    have hle := hm.le
    simp only [zj74, zj73]
    rcases hs with rfl | hs
    · rw [decide_eq_false (by omega : ¬ ((0 : Nat) : Int) > 0), cond_false]
      have e := isMin_unique (isMin_congr hm (up_zero B hB16 _ hsym)) hfull
      rw [← e]
    · have hlt := sub_lt B hB16 x hx' hs
      have hn := next_low B hB16 x hx' (by omega) (by omega)
      have hup := up_step B hB16 (colV (bothOn w n k) A B) x hx' hs
      have e1 : ((B : Int) - (x : Int)) = ((B - x : Nat) : Int) := by omega
      rw [decide_eq_true (by omega : (x : Int) > 0), cond_true]
      rw [show ((x : Int) - 1) = ((x - 1 : Nat) : Int) by omega, w64_nat (x - 1) (by omega), bAnd (x - 1) B (by omega) (by omega), e1, w64_nat (B - x) (by omega)]
      by_cases hskip : x < B - x
      · rw [decide_eq_true (by omega : (x : Int) < ((B - x : Nat) : Int)), cond_true]
        refine ihx _ hn.1 G best (by omega) (by omega) hn.2 hb2 (isMin_congr hm fun v => ?_)
        rw [hup]
        constructor
        · exact .inl
        · rintro (h | h)
          · exact h
          · omega
      · rw [decide_eq_false (by omega : ¬ (x : Int) < ((B - x : Nat) : Int)), cond_false]
        have hadd : IsMin b (upS B (colV (bothOn w n k) A B) ((x - 1) &&& B)) (min best (colV (bothOn w n k) A B x)) := isMin_congr (isMin_add hm (colV (bothOn w n k) A B x)) fun v => by
          rw [hup]
          constructor
          · rintro (h | h)
            · exact .inl h
            · exact .inr ⟨by omega, h⟩
          · rintro (h | ⟨_, h⟩)
            · exact .inl h
            · exact .inr h
        by_cases h1 : best = 1
        · rw [h1, show (((1 : Nat) : Int) == 1) = true from rfl, cond_true]
          rw [show min best (colV (bothOn w n k) A B x) = 1 by unfold colV; omega] at hadd
          exact ihx _ hn.1 G 1 (by omega) (by omega) hn.2 (by omega) hadd
        · rw [show ((best : Int) == 1) = false by simp only [beq_eq_false_iff_ne, ne_eq]; omega, cond_false, show ((best : Int) - 2) = ((best - 2 : Nat) : Int) by omega, w64_nat (best - 2) (by omega), ih A x (best - 2) (by omega) hA (by omega) (by omega)]
          have e2 : w64 (1 + ((min (need (bothOn w n k) A x) (best - 2 + 1) : Nat) : Int)) = ((min (1 + need (bothOn w n k) A x) best : Nat) : Int) := by
            rw [w64_id] <;> omega
          rw [e2]
          by_cases hmore : 1 + need (bothOn w n k) A x < best
          · rw [decide_eq_true (by omega : ((min (1 + need (bothOn w n k) A x) best : Nat) : Int) < (best : Int)), cond_true, ih A (B - x) (best - 2) (by omega) hA (by omega) (by omega)]
            have e3 : w64 (1 + ((min (need (bothOn w n k) A (B - x)) (best - 2 + 1) : Nat) : Int)) = ((min (1 + need (bothOn w n k) A (B - x)) best : Nat) : Int) := by
              rw [w64_id] <;> omega
            have e4 : min best (max (min (1 + need (bothOn w n k) A x) best) (min (1 + need (bothOn w n k) A (B - x)) best)) = min best (colV (bothOn w n k) A B x) := by
              unfold colV; omega
            rw [e3, mxI_nat1, mnI_nat1, e4]
            refine ihx _ hn.1 G _ (by omega) (by omega) hn.2 ?_ hadd
            unfold colV
            omega
          · have e5 : min best (colV (bothOn w n k) A B x) = best := by unfold colV; omega
            rw [decide_eq_false (by omega : ¬ ((min (1 + need (bothOn w n k) A x) best : Nat) : Int) < (best : Int)), cond_false]
            rw [e5] at hadd
            exact ihx _ hn.1 G best (by omega) (by omega) hn.2 hb2 hadd

theorem spec_least (F : Nat) : LeastOK N n w k F F := by
  have h4 : 2 ^ (n - k) ≤ 4 := Nat.pow_le_pow_right (by decide) hq
  induction F with
  | zero => intro β A B b h; omega
  | succ F ih =>
    intro β A B b hAB hA hB hb K
    have hB16 : B < 16 := Nat.lt_of_lt_of_le hB (Nat.pow_le_pow_right (by decide) h4 : 2 ^ 2 ^ (n - k) ≤ 2 ^ 4)
    have hS := mixed_single w n k hk hkn hq
    simp only [zj76, zj75]
    rw [one_eq N n w k hN hk hkn hq A B hA hB, enc_mixed]
    cases hx : bothOn w n k A B with
    | false =>
      rw [Bool.not_false, cond_true, need_eq _ A B hA hB16, hx, if_neg (by decide), Nat.zero_min]
      rfl
    | true =>
      have hpos := need_pos hA hB16 hx
      have hne := mixed_ne n w k A B hx
      rw [Bool.not_true, cond_false]
      by_cases h0 : b = 0
      · subst h0
        rw [show (((0 : Nat) : Int) == 0) = true from rfl, cond_true, show min (need (bothOn w n k) A B) (0 + 1) = 1 by omega]
        rfl
      · rw [show ((b : Int) == 0) = false by simp only [beq_eq_false_iff_ne, ne_eq]; omega, cond_false, show ((A : Int) - 1) = ((A - 1 : Nat) : Int) by omega, w64_nat (A - 1) (by omega), bAnd (A - 1) A (by omega) (by omega), w64_succ b (by omega)]
        have ihs : LeastOK N n w k F (A + B) := fun A' B' b' h => ih A' B' b' (by omega)
        have na := next_low A hA A hA hne.1 (Nat.le_refl _)
        have nb := next_low B hB16 B hB16 hne.2 (Nat.le_refl _)
        have hrow := row_loop (β := β) N n w k F A B hA hB b hb ihs (fun e8_0 => K e8_0) (fun e9_0 e9_1 e9_2 e9_3 => zj74 N (zj76 N F) N e9_0 e9_1 e9_2 e9_3 ((bits .and .i64 (w64 (e9_2 - 1)) e9_2)) (fun e12_0 => K e12_0))
          ((A - 1) &&& A) N (b + 1) (by omega) (by omega) na.2 (by omega) ⟨Nat.le_refl _, fun v hv => absurd hv (up_start A hA _ v), .inl rfl⟩
        refine Eq.trans hrow ?_
        have hj := isMin_join (qmin_isMin (b + 1) (sub A) (rowV (bothOn w n k) A B) 16) (qmin_isMin (qmin (b + 1) (sub A) (rowV (bothOn w n k) A B) 16) (sub B) (colV (bothOn w n k) A B) 16)
        have hval := least_eq hS hA hB16 hx (b + 1) hj
        have hqle : qmin (b + 1) (sub A) (rowV (bothOn w n k) A B) 16 ≤ b + 1 := (qmin_isMin (b + 1) (sub A) (rowV (bothOn w n k) A B) 16).le
        have hqpos : 1 ≤ qmin (b + 1) (sub A) (rowV (bothOn w n k) A B) 16 := by
          rcases (qmin_isMin (b + 1) (sub A) (rowV (bothOn w n k) A B) 16).one with e | ⟨y, _, _, e⟩
          · omega
          · unfold rowV at e ⊢; omega
        cases hone : qmin (b + 1) (sub A) (rowV (bothOn w n k) A B) 16 == 1 with
        | true =>
          have hone : qmin (b + 1) (sub A) (rowV (bothOn w n k) A B) 16 = 1 := by simpa using hone
          have hle := (qmin_isMin (qmin (b + 1) (sub A) (rowV (bothOn w n k) A B) 16) (sub B) (colV (bothOn w n k) A B) 16).le
          rw [cond_true, show min (need (bothOn w n k) A B) (b + 1) = 1 by omega]
          rfl
        | false =>
          rw [cond_false]
          show zj74 N (zj76 N F) N _ _ _ _ (bits .and .i64 (w64 ((B : Int) - 1)) (B : Int)) _ = _
          rw [show ((B : Int) - 1) = ((B - 1 : Nat) : Int) by omega, w64_nat (B - 1) (by omega), bAnd (B - 1) B (by omega) (by omega)]
          refine Eq.trans (col_loop (β := β) N n w k hq F A B hA hB _ (by omega) ihs _ ((B - 1) &&& B) N _ (by omega) (by omega) nb.2 hqpos ⟨Nat.le_refl _, fun v hv => absurd hv (up_start B hB16 _ v), .inl rfl⟩) ?_
          rw [hval]
end
end Go.Proofs.YtddflpokemgnmaaDoor
namespace Go.Proofs.YtddflpokemgnmaaDoor
open Go.Rv
set_option linter.unusedVariables false
variable {β : Type}
theorem gd_t (x : Option β) : gd true x = x := rfl
theorem not_in : ∀ A, A < 16 → ∀ d, d < 16 → (d ^^^ (d &&& A) == 0) = (d &&& A == d) := by decide +kernel
theorem out_of : ∀ A, A < 16 → ∀ d, d < 16 → sub A d = true → A ^^^ (A &&& d) = A - d := by decide +kernel
theorem nat_beq (a b : Nat) : ((a : Int) == (b : Int)) = (a == b) := by
  rw [Bool.eq_iff_iff, beq_iff_eq, beq_iff_eq]
  omega
theorem nat_bne0 (a : Nat) : ((a : Int) != 0) = !(a == 0) := by
  have := nat_beq a 0
  simp only [Int.natCast_zero] at this
  simp only [bne, this]
theorem parted_row (N A B d : Nat) (hA : A < 16) (hd : d < 16) (K : Int → Int → Int → Int → Bool → Option β) :
    zj37 N (A : Int) (B : Int) 65 (d : Int) K = if sub A d then K ((A - d : Nat) : Int) (B : Int) (d : Int) (B : Int) true else K (A : Int) (B : Int) (A : Int) (B : Int) false := by
  have e0 : ((65 : Int) == 66) = false := rfl
  have e1 : ((d : Int) == 0) = (d == 0) := nat_beq d 0
  have h1 := out_of A hA d hd
  simp only [zj37, zj34, zj35, zj36, beq_self_eq_true, gd_t, e0, cond_false, cond_true, e1, nat_beq, bAndNot d A (by omega) (by omega), bAndNot A d (by omega) (by omega), nat_bne0, not_in A hA d hd]
  unfold sub at h1 ⊢
  cases h2 : d == 0 <;> cases h3 : d == A <;> cases h4 : (d &&& A == d) <;> simp_all [bne]
theorem parted_col (N A B d : Nat) (hB : B < 16) (hd : d < 16) (K : Int → Int → Int → Int → Bool → Option β) :
    zj37 N (A : Int) (B : Int) 66 (d : Int) K = if sub B d then K (A : Int) ((B - d : Nat) : Int) (A : Int) (d : Int) true else K (A : Int) (B : Int) (A : Int) (B : Int) false := by
  have e0 : ((66 : Int) == 65) = false := rfl
  have e1 : ((d : Int) == 0) = (d == 0) := nat_beq d 0
  have h1 := out_of B hB d hd
  simp only [zj37, zj34, zj35, zj36, beq_self_eq_true, gd_t, e0, cond_false, cond_true, e1, nat_beq, bAndNot d B (by omega) (by omega), bAndNot B d (by omega) (by omega), nat_bne0, not_in B hB d hd]
  unfold sub at h1 ⊢
  cases h2 : d == 0 <;> cases h3 : d == B <;> cases h4 : (d &&& B == d) <;> simp_all [bne]

theorem eqK_two1 (p : Int × Int) (a b : Int) : eqK ⟨true, false⟩ p a b = (p.1 == a && p.2 == b) := by simp [eqK]
theorem has_put1 (mp : Mp) (a b x c d : Int) : hasM ⟨true, false⟩ (putM ⟨true, false⟩ mp a b x) c d = ((a == c && b == d) || hasM ⟨true, false⟩ mp c d) := by
  induction mp with
  | nil => simp [putM, hasM, eqK_two1]
  | cons p l ih =>
    simp only [putM]
    cases he : eqK ⟨true, false⟩ p.1 a b with
    | true =>
      rw [cond_true]
      simp only [hasM]
      rw [eqK_two1] at he ⊢
      simp only [Bool.and_eq_true, beq_iff_eq] at he
      rw [eqK_two1, he.1, he.2]
      cases (a == c && b == d) <;> simp
    | false =>
      rw [cond_false]
      simp only [hasM, ih]
      rw [Bool.or_left_comm]
theorem get_put1 (mp : Mp) (a b x c d : Int) : getM ⟨true, false⟩ (putM ⟨true, false⟩ mp a b x) c d = if (a == c && b == d) then x else getM ⟨true, false⟩ mp c d := by
  induction mp with
  | nil =>
    simp only [putM, getM, eqK_two1]
    cases (a == c && b == d) <;> rfl
  | cons p l ih =>
    simp only [putM]
    cases he : eqK ⟨true, false⟩ p.1 a b with
    | true =>
      rw [cond_true]
      simp only [getM]
      rw [eqK_two1] at he ⊢
      simp only [Bool.and_eq_true, beq_iff_eq] at he
      rw [eqK_two1, he.1, he.2]
      cases (a == c && b == d) <;> simp
    | false =>
      rw [cond_false]
      simp only [getM, ih]
      cases hp : eqK ⟨true, false⟩ p.1 c d with
      | false => rfl
      | true =>
        rw [cond_true]
        cases hc : (a == c && b == d) with
        | false => rfl
        | true =>
          exfalso
          rw [eqK_two1] at hp he
          simp only [Bool.and_eq_true, beq_iff_eq] at hp hc
          rw [hp.1, hp.2, hc.1, hc.2] at he
          simp at he

abbrev hasN (mp : Mp) (A B : Nat) : Bool := hasM ⟨true, false⟩ mp (A : Int) (B : Int)
def Parts (mp : Mp) (A B : Nat) : Prop :=
  (∀ x, x < 16 → sub A x = true → hasN mp (A - x) B = true ∧ hasN mp x B = true) ∧ (∀ y, y < 16 → sub B y = true → hasN mp A (B - y) = true ∧ hasN mp A y = true)
def SubM (mp mp' : Mp) : Prop := ∀ A B : Nat, hasN mp A B = true → hasN mp' A B = true
theorem SubM.refl (mp : Mp) : SubM mp mp := fun _ _ h => h
theorem SubM.trans {a b c : Mp} (h : SubM a b) (k : SubM b c) : SubM a c := fun A B e => k A B (h A B e)
theorem Parts.sub {mp mp' : Mp} {A B : Nat} (h : Parts mp A B) (k : SubM mp mp') : Parts mp' A B :=
  ⟨fun x hx hs => ⟨k _ _ (h.1 x hx hs).1, k _ _ (h.1 x hx hs).2⟩, fun x hx hs => ⟨k _ _ (h.2 x hx hs).1, k _ _ (h.2 x hx hs).2⟩⟩
def GoodM (mx : Nat → Nat → Bool) (mp : Mp) : Prop := ∀ A B : Nat, hasN mp A B = true → getM ⟨true, false⟩ mp (A : Int) (B : Int) = (need mx A B : Int) ∧ (mx A B = true → Parts mp A B)
theorem sub_put (mp : Mp) (A B : Nat) (x : Int) : SubM mp (putM ⟨true, false⟩ mp (A : Int) (B : Int) x) := fun C D h => by
  unfold hasN at h ⊢
  rw [has_put1, h, Bool.or_true]
theorem has_put_self (mp : Mp) (A B : Nat) (x : Int) : hasN (putM ⟨true, false⟩ mp (A : Int) (B : Int) x) A B = true := by
  unfold hasN
  rw [has_put1]
  simp
theorem GoodM.put {mx : Nat → Nat → Bool} {mp : Mp} (h : GoodM mx mp) (A B : Nat) {x : Int} (hx : x = (need mx A B : Int)) (hp : mx A B = true → Parts mp A B) : GoodM mx (putM ⟨true, false⟩ mp (A : Int) (B : Int) x) := by
  intro C D hh
  have hs := sub_put mp A B x
  unfold hasN at hh
  rw [has_put1] at hh
  rw [get_put1]
  cases he : (((A : Int) == (C : Int)) && ((B : Int) == (D : Int))) with
  | true =>
    simp only [Bool.and_eq_true, beq_iff_eq] at he
    have e1 : A = C := by omega
    have e2 : B = D := by omega
    subst e1 e2
    exact ⟨by rw [if_pos rfl, hx], fun hm => (hp hm).sub hs⟩
  | false =>
    rw [he, Bool.false_or] at hh
    have := h C D hh
    exact ⟨by rw [if_neg (by decide)]; exact this.1, fun hm => (this.2 hm).sub hs⟩

section
variable (N n w k : Nat)
def NeedOK (F s : Nat) : Prop := ∀ (A B : Nat) (mp : Mp), A + B < s → A ≠ 0 → B ≠ 0 → A < 2 ^ 2 ^ k → B < 2 ^ 2 ^ (n - k) → GoodM (bothOn w n k) mp →
  ∃ mp', GoodM (bothOn w n k) mp' ∧ SubM mp mp' ∧ hasN mp' A B = true ∧ (hasN mp A B = true → mp' = mp) ∧
    ∀ {β : Type} (k0 : Int → Int → Int → Int → Mp → Option β), zj47 N F (A : Int) (B : Int) (n : Int) (w : Int) (k : Int) mp k0 = k0 (need (bothOn w n k) A B : Int) n w k mp'

structure Way (A B : Nat) (c : Int) (q : Nat → Bool) (zA zB oA oB : Nat → Nat) : Prop where
  part : ∀ {β : Type} (d : Nat), d < 16 → ∀ K : Int → Int → Int → Int → Bool → Option β, zj37 N (A : Int) (B : Int) c (d : Int) K = if q d then K (zA d : Int) (zB d : Int) (oA d : Int) (oB d : Int) true else K (A : Int) (B : Int) (A : Int) (B : Int) false
  zero : ∀ d, d < 16 → q d = true → zA d + zB d < A + B ∧ zA d ≠ 0 ∧ zB d ≠ 0 ∧ zA d ≤ A ∧ zB d ≤ B
  one : ∀ d, d < 16 → q d = true → oA d + oB d < A + B ∧ oA d ≠ 0 ∧ oB d ≠ 0 ∧ oA d ≤ A ∧ oB d ≤ B
theorem way_row {A B : Nat} (hA : A < 16) (hB0 : B ≠ 0) : Way N A B 65 (sub A) (fun d => A - d) (fun _ => B) (fun d => d) (fun _ => B) where
  part := fun d hd K => parted_row N A B d hA hd K
  zero := fun d hd hq => by have := sub_lt A hA d hd hq; omega
  one := fun d hd hq => by have := sub_lt A hA d hd hq; omega
theorem way_col {A B : Nat} (hB : B < 16) (hA0 : A ≠ 0) : Way N A B 66 (sub B) (fun _ => A) (fun d => B - d) (fun _ => A) (fun d => d) where
  part := fun d hd K => parted_col N A B d hB hd K
  zero := fun d hd hq => by have := sub_lt B hB d hd hq; omega
  one := fun d hd hq => by have := sub_lt B hB d hd hq; omega

theorem need_digits {A B : Nat} {c : Int} {q : Nat → Bool} {zA zB oA oB : Nat → Nat} (hS : Single (bothOn w n k)) (hW : Way N A B c q zA zB oA oB) (hA : A < 2 ^ 2 ^ k) (hB : B < 2 ^ 2 ^ (n - k)) (hA16 : A < 16) (hB16 : B < 16) (F : Nat) (ih : NeedOK N n w k F (A + B)) (b0 : Nat) (hb : b0 ≤ 4) (sz i : Int) (lst : List Int) :
    ∀ (e d G : Nat) (mp : Mp), d + e = 16 → e < G → GoodM (bothOn w n k) mp →
      ∃ mp', GoodM (bothOn w n k) mp' ∧ SubM mp mp' ∧ (∀ x, d ≤ x → x < 16 → q x = true → hasN mp' (zA x) (zB x) = true ∧ hasN mp' (oA x) (oB x) = true) ∧
        ∀ {β : Type} (K : Int → Int → Int → Int → Int → Int → Mp → Int → Int → List Int → Option β),
          zj43 N (zj47 N F) G (qmin b0 q (fun d => 1 + max (need (bothOn w n k) (zA d) (zB d)) (need (bothOn w n k) (oA d) (oB d))) d : Int) c sz i (d : Int) (n : Int) (w : Int) (k : Int) mp (A : Int) (B : Int) lst K =
            K (qmin b0 q (fun d => 1 + max (need (bothOn w n k) (zA d) (zB d)) (need (bothOn w n k) (oA d) (oB d))) 16 : Int) sz i n w k mp' A B lst := by
  intro e
  generalize hval : (fun d => 1 + max (need (bothOn w n k) (zA d) (zB d)) (need (bothOn w n k) (oA d) (oB d))) = val
  have hvi : ∀ d, 1 + max (need (bothOn w n k) (zA d) (zB d)) (need (bothOn w n k) (oA d) (oB d)) = val d := fun d => by rw [← hval]
  induction e with
  | zero =>
    intro d G mp hd hG hM
    obtain ⟨G, rfl⟩ : ∃ H, G = H + 1 := ⟨G - 1, by omega⟩
    refine ⟨mp, hM, SubM.refl mp, fun x h1 h2 => by omega, fun K => ?_⟩
    simp only [zj43, zj42]
    rw [decide_eq_false (by omega : ¬ (d : Int) < 16), cond_false, show d = 16 by omega]
  | succ e ihe =>
    intro d G mp hd hG hM
    obtain ⟨G, rfl⟩ : ∃ H, G = H + 1 := ⟨G - 1, by omega⟩
    have hlt : d < 16 := by omega
    cases hq : q d with
    | false =>
      obtain ⟨mp', hM', hsub, hkeys, he⟩ := ihe (d + 1) G mp (by omega) (by omega) hM
      refine ⟨mp', hM', hsub, fun x h1 h2 h3 => ?_, fun {β} K => ?_⟩
      · by_cases ex : x = d
        · subst ex; rw [hq] at h3; cases h3
        · exact hkeys x (by omega) h2 h3
      · simp only [zj43, zj42]
        rw [decide_eq_true (by omega : (d : Int) < 16), cond_true, hW.part d hlt, hq, if_neg (by decide), cond_false, w64_succ d (by omega)]
        have h1 := he K
        simp only [qmin, hq] at h1
        exact h1
    | true =>
      have hz := hW.zero d hlt hq
      have ho := hW.one d hlt hq
      obtain ⟨mp1, hM1, hs1, hk1, _, he1⟩ := ih (zA d) (zB d) mp hz.1 hz.2.1 hz.2.2.1 (by omega) (by omega) hM
      obtain ⟨mp2, hM2, hs2, hk2, _, he2⟩ := ih (oA d) (oB d) mp1 ho.1 ho.2.1 ho.2.2.1 (by omega) (by omega) hM1
      obtain ⟨mp', hM', hsub, hkeys, he⟩ := ihe (d + 1) G mp2 (by omega) (by omega) hM2
      have hn1 := need_le4 hS (zA d) (zB d) (by omega) (by omega)
      have hn2 := need_le4 hS (oA d) (oB d) (by omega) (by omega)
      refine ⟨mp', hM', hs1.trans (hs2.trans hsub), fun x h1 h2 h3 => ?_, fun {β} K => ?_⟩
      · by_cases ex : x = d
        · subst ex; exact ⟨hsub _ _ (hs2 _ _ hk1), hsub _ _ hk2⟩
        · exact hkeys x (by omega) h2 h3
      · simp only [zj43, zj42]
        rw [decide_eq_true (by omega : (d : Int) < 16), cond_true, hW.part d hlt, hq, if_pos rfl, cond_true, he1, he2, w64_succ d (by omega), mxI_nat1,
          show (1 : Int) + ((max (need (bothOn w n k) (zA d) (zB d)) (need (bothOn w n k) (oA d) (oB d)) : Nat) : Int) = ((1 + max (need (bothOn w n k) (zA d) (zB d)) (need (bothOn w n k) (oA d) (oB d)) : Nat) : Int) by omega, w64_nat _ (by omega), mnI_nat1, hvi]
        have h1 := he K
        simp only [qmin, hq, if_true] at h1
        exact h1

theorem impl_need (hN : 64 < N) (hk : k ≤ 2) (hkn : k ≤ n) (hq : n - k ≤ 2) (hw : w < 4294967296) (F : Nat) : NeedOK N n w k F F := by
  have h4 : 2 ^ (n - k) ≤ 4 := Nat.pow_le_pow_right (by decide) hq
  have h4k : 2 ^ k ≤ 4 := Nat.pow_le_pow_right (by decide) hk
  have hS := mixed_single w n k hk hkn hq
  induction F with
  | zero => intro A B mp h; omega
  | succ F ih =>
    intro A B mp hAB hA0 hB0 hA hB hM
    have hA16 : A < 16 := Nat.lt_of_lt_of_le hA (Nat.pow_le_pow_right (by decide) h4k : 2 ^ 2 ^ k ≤ 2 ^ 4)
    have hB16 : B < 16 := Nat.lt_of_lt_of_le hB (Nat.pow_le_pow_right (by decide) h4 : 2 ^ 2 ^ (n - k) ≤ 2 ^ 4)
    cases hh : hasN mp A B with
    | true =>
      refine ⟨mp, hM, SubM.refl mp, hh, fun _ => rfl, fun {β} k0 => ?_⟩
      simp only [zj47, zj46]
      unfold hasN at hh
      rw [hh, cond_true, (hM A B hh).1]
    | false =>
      have hsv := some_value w n k A B hk hkn hq hA hB hA0 hB0
      have hne := need_eq (bothOn w n k) A B hA16 hB16
      cases hx : bothOn w n k A B with
      | false =>
        rw [hx, if_neg (by decide)] at hne
        refine ⟨_, hM.put A B (x := 0) (by rw [hne]; rfl) (fun h => by rw [hx] at h; cases h), sub_put _ _ _ _, has_put_self _ _ _ _, fun h => absurd h (by decide), fun {β} k0 => ?_⟩
        simp only [zj47, zj46]
        unfold hasN at hh
        rw [hh, cond_false, impl_value_eq N hN n w k A B (by omega) (by omega) hw hA16 hB16, encI_mixed w n k A B hsv, hx, cond_false, hne]
        rfl
      | true =>
        rw [hx, if_pos rfl] at hne
        have ihs : NeedOK N n w k F (A + B) := fun A' B' mp' h => ih A' B' mp' (by omega)
        obtain ⟨mp1, hM1, hs1, hk1, he1⟩ := need_digits N n w k hS (way_row N (B := B) hA16 hB0) hA hB hA16 hB16 F ihs 4 (Nat.le_refl _) 2 0 [65, 66] 16 0 N mp (by omega) (by omega) hM
        obtain ⟨mp2, hM2, hs2, hk2, he2⟩ := need_digits N n w k hS (way_col N (A := A) hB16 hA0) hA hB hA16 hB16 F ihs (qmin 4 (sub A) (rowV (bothOn w n k) A B) 16) (qmin_isMin 4 (sub A) (rowV (bothOn w n k) A B) 16).le 2 1 [65, 66] 16 0 N mp1 (by omega) (by omega) hM1
        have hparts : Parts mp2 A B := ⟨fun x h1 h2 => ⟨hs2 _ _ (hk1 x (by omega) h1 h2).1, hs2 _ _ (hk1 x (by omega) h1 h2).2⟩, fun y h1 h2 => hk2 y (by omega) h1 h2⟩
        refine ⟨_, hM2.put A B (x := (need (bothOn w n k) A B : Int)) rfl (fun _ => hparts), (hs1.trans hs2).trans (sub_put _ _ _ _), has_put_self _ _ _ _, fun h => absurd h (by decide), fun {β} k0 => ?_⟩
        simp only [zj47, zj46]
        unfold hasN at hh
        rw [hh, cond_false, impl_value_eq N hN n w k A B (by omega) (by omega) hw hA16 hB16, encI_mixed w n k A B hsv, hx, cond_true]
        obtain ⟨H, hH⟩ : ∃ H, N = H + 3 := ⟨N - 3, by omega⟩
        have hloop : ∀ K : Int → Int → Int → Int → Mp → Int → Int → Option β, zj45 N (zj47 N F) (H + 3) 4 2 0 (n : Int) (w : Int) (k : Int) mp (A : Int) (B : Int) [65, 66] K = K (need (bothOn w n k) A B : Int) n w k mp2 A B := by
          intro K
          have a1 := he1 (β := β) (fun e29_0 e29_1 e29_2 e29_3 e29_4 e29_5 e29_6 e29_7 e29_8 e29_9 => zj45 N (zj47 N F) (H + 2) e29_0 e29_1 (w64 (e29_2 + 1)) e29_3 e29_4 e29_5 e29_6 e29_7 e29_8 e29_9 K)
          have a2 := he2 (β := β) (fun e29_0 e29_1 e29_2 e29_3 e29_4 e29_5 e29_6 e29_7 e29_8 e29_9 => zj45 N (zj47 N F) (H + 1) e29_0 e29_1 (w64 (e29_2 + 1)) e29_3 e29_4 e29_5 e29_6 e29_7 e29_8 e29_9 K)
          refine Eq.trans a1 ?_
          refine Eq.trans a2 ?_
          rw [hne]
          rfl
        have hl := hloop (fun e30_0 e30_1 e30_2 e30_3 e30_4 e30_5 e30_6 => k0 e30_0 e30_1 e30_2 e30_3 (putM ⟨true, false⟩ e30_4 e30_5 e30_6 e30_0))
        rw [← hH] at hl
        exact hl
end
end Go.Proofs.YtddflpokemgnmaaDoor
namespace Go.Proofs.YtddflpokemgnmaaDoor
open Go.Rv
set_option linter.unusedVariables false
variable {β : Type}
theorem hexs_bt : ∀ d : Nat, d < 16 → strOf ((([] : List Int) ++ [65]) ++ [bt hexs (d : Int)]) = node 65 d ∧ strOf ((([] : List Int) ++ [66]) ++ [bt hexs (d : Int)]) = node 66 d := by decide +kernel
theorem spec_l21Hex_eq (N x : Nat) (hx : x < 16) (K : ByteArray → Option β) : zj79 N (x : Int) K = K (hexs.extract x (x + 1)) := by
  have hs : hexs.size = 16 := by decide +kernel
  have e : zj79 N (x : Int) K = gd (decide (0 ≤ w64 ((x : Int) + 1))) (gd (decide (w64 ((x : Int) + 1) ≤ (hexs.size : Int))) (gd (decide (0 ≤ (x : Int))) (gd (decide ((x : Int) ≤ w64 ((x : Int) + 1))) (K (hexs.extract (Int.toNat (x : Int)) (Int.toNat (w64 ((x : Int) + 1)))))))) := rfl
  rw [e, w64_succ x (by omega), hs, gd_true (decide_eq_true (by omega : (0 : Int) ≤ ((x + 1 : Nat) : Int))), gd_true (decide_eq_true (by omega : ((x + 1 : Nat) : Int) ≤ ((16 : Nat) : Int))), gd_true (decide_eq_true (by omega : (0 : Int) ≤ (x : Int))), gd_true (decide_eq_true (by omega : (x : Int) ≤ ((x + 1 : Nat) : Int))), Int.toNat_natCast, Int.toNat_natCast]
theorem impl_digit (N : Nat) (b : Bool) (K : ByteArray → Option β) : zj33 N ((if b then 1 else 0 : Nat) : Int) K = K (strOf [if b then 49 else 48]) := by
  first
    | (cases b <;> rfl)
    | (have e : ∀ b : Bool, itoaB ((if b then 1 else 0 : Nat) : Int) = strOf [if b then 49 else 48] := fun b => by
         have h : Lib.itoa ((if b then 1 else 0 : Nat) : Int) = [if b then 49 else 48] := by
           cases b
           · show Lib.itoa 0 = [48]
             unfold Lib.itoa
             rw [if_neg (by decide), Lib.decDigits, dif_pos (by decide)]
             rfl
           · show Lib.itoa 1 = [49]
             unfold Lib.itoa
             rw [if_neg (by decide), Lib.decDigits, dif_pos (by decide)]
             rfl
         unfold itoaB
         rw [h]
         cases b <;> rfl
       refine Eq.trans ?_ (congrArg K (e b))
       cases b <;> rfl)
theorem spec_digit (b : Bool) (K : ByteArray → Option β) (r : Int) (h : r = ((if b then 1 else 0 : Nat) : Int)) :
    (gd ((decide (0 ≤ (w64 (r + 1))))) ((gd ((decide ((w64 (r + 1)) ≤ (((strOf [48, 49])).size : Int)))) ((gd ((decide (0 ≤ r))) ((gd ((decide (r ≤ (w64 (r + 1))))) (K ((((strOf [48, 49])).extract (Int.toNat r) (Int.toNat (w64 (r + 1))))))))))))) = K (strOf [if b then 49 else 48]) := by
  subst h
  cases b <;> rfl
theorem size_pre : ∀ x, x < 16 → (strOf [65]).size + (hexs.extract x (x + 1)).size = 2 ∧ (strOf [66]).size + (hexs.extract x (x + 1)).size = 2 := by decide +kernel

theorem ff_first (p : Nat → Bool) (h : p 0 = false) : ff p 16 0 = ff p 15 1 := by
  show (if p 0 then some 0 else ff p 15 1) = _
  rw [h, if_neg (by decide)]

section
variable (N n w k : Nat) (hN : 64 < N) (hk : k ≤ 2) (hkn : k ≤ n) (hq : n - k ≤ 2)
include hN hk hkn hq
def BuildOK (N n w k : Nat) (F s : Nat) : Prop := ∀ {β : Type} (A B : Nat), A + B < s → A ≠ 0 → B ≠ 0 → A < 2 ^ 2 ^ k → B < 2 ^ 2 ^ (n - k) → ∀ K : ByteArray → Option β,
  zj85 N F (rows w k (2 ^ (n - k)) (2 ^ k)) (A : Int) (B : Int) (need (bothOn w n k) A B : Int) K = K (bs (bothOn w n k) (isOne w n k) F A B)
theorem least_min (hN' : 64 < N) (A B b : Nat) (hA : A < 16) (hB : B < 2 ^ 2 ^ (n - k)) (hb : b ≤ 100) (hb0 : 1 ≤ b) (K : Int → Option β) :
    zj77 N (rows w k (2 ^ (n - k)) (2 ^ k)) (A : Int) (B : Int) (w64 ((b : Int) - 1)) K = K ((min (need (bothOn w n k) A B) b : Nat) : Int) := by
  have h4 : 2 ^ (n - k) ≤ 4 := Nat.pow_le_pow_right (by decide) hq
  have hB16 : B < 16 := Nat.lt_of_lt_of_le hB (Nat.pow_le_pow_right (by decide) h4 : 2 ^ 2 ^ (n - k) ≤ 2 ^ 4)
  rw [show ((b : Int) - 1) = ((b - 1 : Nat) : Int) by omega, w64_nat (b - 1) (by omega)]
  unfold zj77
  rw [spec_least N n w k hN hk hkn hq N A B (b - 1) (by omega) hA hB (by omega), show b - 1 + 1 = b by omega]
theorem build_rows (F A B : Nat) (hB0 : B ≠ 0) (hA : A < 2 ^ 2 ^ k) (hB : B < 2 ^ 2 ^ (n - k)) (hA16 : A < 16) (hB16 : B < 16) (hx : bothOn w n k A B = true) (ih : BuildOK N n w k F (A + B)) (k0 : ByteArray → Option β) (k1 : List Int → Int → Int → Int → Option β) :
    ∀ (d x G : Nat), x + d = 16 → d < G → 1 ≤ x →
      zj81 N (zj85 N F) G (rows w k (2 ^ (n - k)) (2 ^ k)) (A : Int) (B : Int) (need (bothOn w n k) A B : Int) (x : Int) k0 k1 =
        match ff (rowP (bothOn w n k) A B) d x with
        | some x => k0 ((node 65 x ++ bs (bothOn w n k) (isOne w n k) F (A - x) B) ++ bs (bothOn w n k) (isOne w n k) F x B)
        | none => k1 (rows w k (2 ^ (n - k)) (2 ^ k)) (A : Int) (B : Int) (need (bothOn w n k) A B : Int) := by
  have hS := mixed_single w n k hk hkn hq
  have hpos := need_pos hA16 hB16 hx
  have hle := need_le4 hS A B hA16 hB16
  intro d
  induction d with
  | zero =>
    intro x G hx' hG h1
    obtain ⟨G, rfl⟩ : ∃ H, G = H + 1 := ⟨G - 1, by omega⟩
    simp only [zj81, zj80, ff]
    rw [decide_eq_false (by omega : ¬ (x : Int) < (A : Int)), cond_false]
  | succ d ihd =>
    intro x G hx' hG h1
    obtain ⟨G, rfl⟩ : ∃ H, G = H + 1 := ⟨G - 1, by omega⟩
    simp only [zj81, zj80]
    by_cases hlt : x < A
    · rw [decide_eq_true (by omega : (x : Int) < (A : Int)), cond_true, bAnd x A (by omega) (by omega), nat_beq, show ((A : Int) - (x : Int)) = ((A - x : Nat) : Int) by omega, w64_nat (A - x) (by omega), w64_succ x (by omega)]
      have hnext := ihd (x + 1) G (by omega) (by omega) (by omega)
      cases hand : (x &&& A == x) with
      | false =>
        have hp : rowP (bothOn w n k) A B x = false := by
          unfold rowP sub
          rw [hand]
          simp
        simp only [ff, hp, cond_false]
        exact hnext
      | true =>
        have hs : sub A x = true := by
          unfold sub
          rw [hand]
          simp
          omega
        have hsl := sub_lt A hA16 x (by omega) hs
        rw [cond_true, least_min N n w k hN hk hkn hq hN x B _ (by omega) hB (by omega) hpos]
        by_cases c1 : need (bothOn w n k) x B < need (bothOn w n k) A B
        · rw [decide_eq_true (by omega : ((min (need (bothOn w n k) x B) (need (bothOn w n k) A B) : Nat) : Int) < (need (bothOn w n k) A B : Int)), cond_true, least_min N n w k hN hk hkn hq hN (A - x) B _ (by omega) hB (by omega) hpos]
          by_cases c2 : need (bothOn w n k) (A - x) B < need (bothOn w n k) A B
          · have hp : rowP (bothOn w n k) A B x = true := by
              unfold rowP
              rw [hs, decide_eq_true c1, decide_eq_true c2]
              rfl
            have s1 := bs_small (bothOn w n k) (isOne w n k) F (A - x) B (by omega) hB16
            have s2 := bs_small (bothOn w n k) (isOne w n k) F x B (by omega) hB16
            have s3 := (size_pre x (by omega)).1
            rw [decide_eq_true (by omega : ((min (need (bothOn w n k) (A - x) B) (need (bothOn w n k) A B) : Nat) : Int) < (need (bothOn w n k) A B : Int)), cond_true, spec_l21Hex_eq N x (by omega), gd_true (decide_eq_true (by omega)),
              least_min N n w k hN hk hkn hq hN (A - x) B _ (by omega) hB (by omega) hpos, show min (need (bothOn w n k) (A - x) B) (need (bothOn w n k) A B) = need (bothOn w n k) (A - x) B by omega,
              ih (A - x) B (by omega) (by omega) hB0 (by omega) hB, gd_true (decide_eq_true (by simp only [size_ap]; omega)),
              least_min N n w k hN hk hkn hq hN x B _ (by omega) hB (by omega) hpos, show min (need (bothOn w n k) x B) (need (bothOn w n k) A B) = need (bothOn w n k) x B by omega,
              ih x B (by omega) (by omega) hB0 (by omega) hB, gd_true (decide_eq_true (by simp only [size_ap]; omega))]
            simp only [ff, hp, if_true]
            rfl
          · have hp : rowP (bothOn w n k) A B x = false := by
              unfold rowP
              rw [decide_eq_false c2]
              simp
            rw [decide_eq_false (by omega : ¬ ((min (need (bothOn w n k) (A - x) B) (need (bothOn w n k) A B) : Nat) : Int) < (need (bothOn w n k) A B : Int)), cond_false]
            simp only [ff, hp]
            exact hnext
        · have hp : rowP (bothOn w n k) A B x = false := by
            unfold rowP
            rw [decide_eq_false c1]
            simp
          rw [decide_eq_false (by omega : ¬ ((min (need (bothOn w n k) x B) (need (bothOn w n k) A B) : Nat) : Int) < (need (bothOn w n k) A B : Int)), cond_false]
          simp only [ff, hp]
          exact hnext
    · rw [decide_eq_false (by omega : ¬ (x : Int) < (A : Int)), cond_false, ff_none _ _ _ fun j h1 h2 => ?_]
      cases hs : rowP (bothOn w n k) A B j with
      | false => rfl
      | true =>
        unfold rowP at hs
        simp only [Bool.and_eq_true] at hs
        have := sub_lt A hA16 j (by omega) hs.1
        omega
theorem build_cols (F A B : Nat) (hA0 : A ≠ 0) (hA : A < 2 ^ 2 ^ k) (hB : B < 2 ^ 2 ^ (n - k)) (hA16 : A < 16) (hB16 : B < 16) (hx : bothOn w n k A B = true) (ih : BuildOK N n w k F (A + B)) (k0 : ByteArray → Option β) (k1 : Option β) :
    ∀ (d x G : Nat), x + d = 16 → d < G → 1 ≤ x →
      zj83 N (zj85 N F) G (rows w k (2 ^ (n - k)) (2 ^ k)) (A : Int) (B : Int) (need (bothOn w n k) A B : Int) (x : Int) k0 k1 =
        match ff (colP (bothOn w n k) A B) d x with
        | some x => k0 ((node 66 x ++ bs (bothOn w n k) (isOne w n k) F A (B - x)) ++ bs (bothOn w n k) (isOne w n k) F A x)
        | none => k1 := by
  have hS := mixed_single w n k hk hkn hq
  have hpos := need_pos hA16 hB16 hx
  have hle := need_le4 hS A B hA16 hB16
  intro d
  induction d with
  | zero =>
    intro x G hx' hG h1
    obtain ⟨G, rfl⟩ : ∃ H, G = H + 1 := ⟨G - 1, by omega⟩
    simp only [zj83, zj82, ff]
    rw [decide_eq_false (by omega : ¬ (x : Int) < (B : Int)), cond_false]
  | succ d ihd =>
    intro x G hx' hG h1
    obtain ⟨G, rfl⟩ : ∃ H, G = H + 1 := ⟨G - 1, by omega⟩
    simp only [zj83, zj82]
    by_cases hlt : x < B
    · rw [decide_eq_true (by omega : (x : Int) < (B : Int)), cond_true, bAnd x B (by omega) (by omega), nat_beq, show ((B : Int) - (x : Int)) = ((B - x : Nat) : Int) by omega, w64_nat (B - x) (by omega), w64_succ x (by omega)]
      have hnext := ihd (x + 1) G (by omega) (by omega) (by omega)
      cases hand : (x &&& B == x) with
      | false =>
        have hp : colP (bothOn w n k) A B x = false := by
          unfold colP sub
          rw [hand]
          simp
        simp only [ff, hp, cond_false]
        exact hnext
      | true =>
        have hs : sub B x = true := by
          unfold sub
          rw [hand]
          simp
          omega
        have hsl := sub_lt B hB16 x (by omega) hs
        rw [cond_true, least_min N n w k hN hk hkn hq hN A x _ hA16 (by omega) (by omega) hpos]
        by_cases c1 : need (bothOn w n k) A x < need (bothOn w n k) A B
        · rw [decide_eq_true (by omega : ((min (need (bothOn w n k) A x) (need (bothOn w n k) A B) : Nat) : Int) < (need (bothOn w n k) A B : Int)), cond_true, least_min N n w k hN hk hkn hq hN A (B - x) _ hA16 (by omega) (by omega) hpos]
          by_cases c2 : need (bothOn w n k) A (B - x) < need (bothOn w n k) A B
          · have hp : colP (bothOn w n k) A B x = true := by
              unfold colP
              rw [hs, decide_eq_true c1, decide_eq_true c2]
              rfl
            have s1 := bs_small (bothOn w n k) (isOne w n k) F A (B - x) hA16 (by omega)
            have s2 := bs_small (bothOn w n k) (isOne w n k) F A x hA16 (by omega)
            have s3 := (size_pre x (by omega)).2
            rw [decide_eq_true (by omega : ((min (need (bothOn w n k) A (B - x)) (need (bothOn w n k) A B) : Nat) : Int) < (need (bothOn w n k) A B : Int)), cond_true, spec_l21Hex_eq N x (by omega), gd_true (decide_eq_true (by omega)),
              least_min N n w k hN hk hkn hq hN A (B - x) _ hA16 (by omega) (by omega) hpos, show min (need (bothOn w n k) A (B - x)) (need (bothOn w n k) A B) = need (bothOn w n k) A (B - x) by omega,
              ih A (B - x) (by omega) hA0 (by omega) hA (by omega), gd_true (decide_eq_true (by simp only [size_ap]; omega)),
              least_min N n w k hN hk hkn hq hN A x _ hA16 (by omega) (by omega) hpos, show min (need (bothOn w n k) A x) (need (bothOn w n k) A B) = need (bothOn w n k) A x by omega,
              ih A x (by omega) hA0 (by omega) hA (by omega), gd_true (decide_eq_true (by simp only [size_ap]; omega))]
            simp only [ff, hp, if_true]
            rfl
          · have hp : colP (bothOn w n k) A B x = false := by
              unfold colP
              rw [decide_eq_false c2]
              simp
            rw [decide_eq_false (by omega : ¬ ((min (need (bothOn w n k) A (B - x)) (need (bothOn w n k) A B) : Nat) : Int) < (need (bothOn w n k) A B : Int)), cond_false]
            simp only [ff, hp]
            exact hnext
        · have hp : colP (bothOn w n k) A B x = false := by
            unfold colP
            rw [decide_eq_false c1]
            simp
          rw [decide_eq_false (by omega : ¬ ((min (need (bothOn w n k) A x) (need (bothOn w n k) A B) : Nat) : Int) < (need (bothOn w n k) A B : Int)), cond_false]
          simp only [ff, hp]
          exact hnext
    · rw [decide_eq_false (by omega : ¬ (x : Int) < (B : Int)), cond_false, ff_none _ _ _ fun j h1 h2 => ?_]
      cases hs : colP (bothOn w n k) A B j with
      | false => rfl
      | true =>
        unfold colP at hs
        simp only [Bool.and_eq_true] at hs
        have := sub_lt B hB16 j (by omega) hs.1
        omega
theorem spec_build (F : Nat) : BuildOK N n w k F F := by
  have h4 : 2 ^ (n - k) ≤ 4 := Nat.pow_le_pow_right (by decide) hq
  have h4k : 2 ^ k ≤ 4 := Nat.pow_le_pow_right (by decide) hk
  induction F with
  | zero => intro β A B h; omega
  | succ F ih =>
    intro β A B hAB hA0 hB0 hA hB K
    have hA16 : A < 16 := Nat.lt_of_lt_of_le hA (Nat.pow_le_pow_right (by decide) h4k : 2 ^ 2 ^ k ≤ 2 ^ 4)
    have hB16 : B < 16 := Nat.lt_of_lt_of_le hB (Nat.pow_le_pow_right (by decide) h4 : 2 ^ 2 ^ (n - k) ≤ 2 ^ 4)
    have hsv := some_value w n k A B hk hkn hq hA hB hA0 hB0
    simp only [zj85, zj84, bs]
    rw [one_eq N n w k hN hk hkn hq A B hA16 hB, enc_mixed]
    cases hx : bothOn w n k A B with
    | false =>
      rw [Bool.not_false, cond_true, if_neg (by decide)]
      exact spec_digit _ K _ (enc_value w n k A B hsv hx).1
    | true =>
      have ihs : BuildOK N n w k F (A + B) := fun A' B' h => ih A' B' (by omega)
      have z1 : rowP (bothOn w n k) A B 0 = false := rfl
      have z2 : colP (bothOn w n k) A B 0 = false := rfl
      rw [Bool.not_true, cond_false, if_pos rfl, ff_first _ z1, ff_first _ z2]
      refine Eq.trans (build_rows N n w k hN hk hkn hq F A B hB0 hA hB hA16 hB16 hx ihs _ _ 15 1 N (by omega) (by omega) (by omega)) ?_
      cases ff (rowP (bothOn w n k) A B) 15 1 with
      | some x => rfl
      | none =>
        refine Eq.trans (build_cols N n w k hN hk hkn hq F A B hA0 hA hB hA16 hB16 hx ihs _ _ 15 1 N (by omega) (by omega) (by omega)) ?_
        cases ff (colP (bothOn w n k) A B) 15 1 <;> rfl
end
end Go.Proofs.YtddflpokemgnmaaDoor
namespace Go.Proofs.YtddflpokemgnmaaDoor
open Go.Rv
set_option linter.unusedVariables false
variable {β : Type}
section
variable (N n w k : Nat)
def TextOK (F s : Nat) : Prop := ∀ (A B : Nat) (mp : Mp), A + B < s → A ≠ 0 → B ≠ 0 → A < 2 ^ 2 ^ k → B < 2 ^ 2 ^ (n - k) → GoodM (bothOn w n k) mp →
  ∃ mp', GoodM (bothOn w n k) mp' ∧ (hasN mp A B = true → mp' = mp) ∧
    ∀ {β : Type} (k0 : ByteArray → Int → Int → Int → Mp → Option β), zj55 N F (A : Int) (B : Int) (n : Int) (w : Int) (k : Int) mp k0 = k0 (bs (bothOn w n k) (isOne w n k) F A B) n w k mp'

theorem text_digits {A B : Nat} {c : Int} {q : Nat → Bool} {zA zB oA oB : Nat → Nat} (hW : Way N A B c q zA zB oA oB) (hA0 : A ≠ 0) (hB0 : B ≠ 0) (hA : A < 2 ^ 2 ^ k) (hB : B < 2 ^ 2 ^ (n - k)) (hA16 : A < 16) (hB16 : B < 16)
    (hx : bothOn w n k A B = true) (hN : 64 < N) (hk : k ≤ 2) (hkn : k ≤ n) (hq4 : n - k ≤ 2) (hw : w < 4294967296)
    (hkeys : ∀ mp, GoodM (bothOn w n k) mp → hasN mp A B = true → ∀ d, d < 16 → q d = true → hasN mp (zA d) (zB d) = true ∧ hasN mp (oA d) (oB d) = true)
    (hnode : ∀ d : Nat, d < 16 → strOf ((([] : List Int) ++ [c]) ++ [bt hexs (d : Int)]) = node c d ∧ (node c d).size = 2)
    (F : Nat) (ih : TextOK N n w k F (A + B)) (sz i : Int) (lst : List Int) :
    ∀ (e d G : Nat) (mp : Mp), d + e = 16 → e < G → GoodM (bothOn w n k) mp →
      ∃ mp', GoodM (bothOn w n k) mp' ∧ (hasN mp A B = true → mp' = mp) ∧
        ∀ {β : Type} (K0 : ByteArray → Int → Int → Int → Mp → Option β) (K1 : Int → Int → Int → Int → Int → Mp → Int → Int → List Int → Option β),
          zj51 N (zj55 N F) G c sz i (d : Int) (n : Int) (w : Int) (k : Int) mp (A : Int) (B : Int) lst K0 K1 =
            match ff (fun d => q d && (decide (need (bothOn w n k) (zA d) (zB d) < need (bothOn w n k) A B) && decide (need (bothOn w n k) (oA d) (oB d) < need (bothOn w n k) A B))) e d with
            | some x => K0 ((node c x ++ bs (bothOn w n k) (isOne w n k) F (zA x) (zB x)) ++ bs (bothOn w n k) (isOne w n k) F (oA x) (oB x)) n w k mp'
            | none => K1 sz i n w k mp' A B lst := by
  have hne : NeedOK N n w k N N := impl_need N n w k hN hk hkn hq4 hw N
  intro e
  generalize hp : (fun d => q d && (decide (need (bothOn w n k) (zA d) (zB d) < need (bothOn w n k) A B) && decide (need (bothOn w n k) (oA d) (oB d) < need (bothOn w n k) A B))) = p
  have hpd : ∀ d, p d = (q d && (decide (need (bothOn w n k) (zA d) (zB d) < need (bothOn w n k) A B) && decide (need (bothOn w n k) (oA d) (oB d) < need (bothOn w n k) A B))) := fun d => by rw [← hp]
  induction e with
  | zero =>
    intro d G mp hd hG hM
    obtain ⟨G, rfl⟩ : ∃ H, G = H + 1 := ⟨G - 1, by omega⟩
    refine ⟨mp, hM, fun _ => rfl, fun {β} K0 K1 => ?_⟩
    simp only [zj51, zj50, ff]
    rw [decide_eq_false (by omega : ¬ (d : Int) < 16), cond_false]
  | succ e ihe =>
    intro d G mp hd hG hM
    obtain ⟨G, rfl⟩ : ∃ H, G = H + 1 := ⟨G - 1, by omega⟩
    have hlt : d < 16 := by omega
    have hpe := hpd d
    cases hq : q d with
    | false =>
      rw [hq, Bool.false_and] at hpe
      obtain ⟨mp', hM', hkeep, he⟩ := ihe (d + 1) G mp (by omega) (by omega) hM
      refine ⟨mp', hM', hkeep, fun {β} K0 K1 => ?_⟩
      simp only [zj51, zj50]
      rw [decide_eq_true (by omega : (d : Int) < 16), cond_true, hW.part d hlt, hq, if_neg (by decide), cond_false, w64_succ d (by omega)]
      simp only [ff, hpe]
      exact he K0 K1
    | true =>
      rw [hq, Bool.true_and] at hpe
      have hz := hW.zero d hlt hq
      have ho := hW.one d hlt hq
      obtain ⟨mp1, hM1, hs1, hk1, hsame1, he1⟩ := hne (zA d) (zB d) mp (by omega) hz.2.1 hz.2.2.1 (by omega) (by omega) hM
      obtain ⟨mp2, hM2, hs2, hk2, hsame2, he2⟩ := hne A B mp1 (by omega) hA0 hB0 hA hB hM1
      have hk2' := hkeys mp2 hM2 hk2 d hlt hq
      have hkeep2 : hasN mp A B = true → mp2 = mp := fun h => by
        have := hkeys mp hM h d hlt hq
        have e1 := hsame1 this.1
        subst e1
        exact hsame2 h
      by_cases c1 : need (bothOn w n k) (zA d) (zB d) < need (bothOn w n k) A B
      · obtain ⟨mp3, hM3, hs3, hk3, hsame3, he3⟩ := hne (oA d) (oB d) mp2 (by omega) ho.2.1 ho.2.2.1 (by omega) (by omega) hM2
        have e3 := hsame3 hk2'.2
        subst e3
        obtain ⟨mp4, hM4, hs4, hk4, hsame4, he4⟩ := hne A B mp3 (by omega) hA0 hB0 hA hB hM3
        have e4 := hsame4 hk2
        subst e4
        by_cases c2 : need (bothOn w n k) (oA d) (oB d) < need (bothOn w n k) A B
        · rw [decide_eq_true c1, decide_eq_true c2] at hpe
          obtain ⟨mp5, hM5, hsame5, he5⟩ := ih (zA d) (zB d) mp4 (by omega) hz.2.1 hz.2.2.1 (by omega) (by omega) hM4
          have e5 := hsame5 hk2'.1
          subst e5
          obtain ⟨mp6, hM6, hsame6, he6⟩ := ih (oA d) (oB d) mp5 (by omega) ho.2.1 ho.2.2.1 (by omega) (by omega) hM5
          have e6 := hsame6 hk2'.2
          subst e6
          refine ⟨mp6, hM6, hkeep2, fun {β} K0 K1 => ?_⟩
          have s1 := bs_small (bothOn w n k) (isOne w n k) F (zA d) (zB d) (by omega) (by omega)
          have s2 := bs_small (bothOn w n k) (isOne w n k) F (oA d) (oB d) (by omega) (by omega)
          have s3 := hnode d hlt
          have hx16 : hexs.size = 16 := by decide +kernel
          have eh : strOf [48, 49, 50, 51, 52, 53, 54, 55, 56, 57, 97, 98, 99, 100, 101, 102] = hexs := rfl
          simp only [zj51, zj50, eh]
          unfold zj48
          rw [decide_eq_true (by omega : (d : Int) < 16), cond_true, hW.part d hlt, hq, if_pos rfl, cond_true]
          simp only [he1, he2, he3, he4, he5, he6, s3.1, size_ap]
          rw [decide_eq_true (by omega : (need (bothOn w n k) (zA d) (zB d) : Int) < (need (bothOn w n k) A B : Int)), cond_true, decide_eq_true (by omega : (need (bothOn w n k) (oA d) (oB d) : Int) < (need (bothOn w n k) A B : Int)), cond_true,
            gd_true (decide_eq_true (by omega : (0 : Int) ≤ (d : Int))), gd_true (decide_eq_true (by omega : (d : Int) < (hexs.size : Int)))]
          have g1 : decide ((node c d).size + (bs (bothOn w n k) (isOne w n k) F (zA d) (zB d)).size ≤ 9223372036854775807) = true := decide_eq_true (by omega)
          have g2 : decide ((node c d).size + (bs (bothOn w n k) (isOne w n k) F (zA d) (zB d)).size + (bs (bothOn w n k) (isOne w n k) F (oA d) (oB d)).size ≤ 9223372036854775807) = true := decide_eq_true (by omega)
          simp only [g1, g2, gd_t, zj49, decide_true, beq_self_eq_true, ff, hpe, Bool.and_self, if_true]
        · rw [decide_eq_false c2, Bool.and_false] at hpe
          obtain ⟨mp', hM', hkeep, he⟩ := ihe (d + 1) G mp4 (by omega) (by omega) hM4
          refine ⟨mp', hM', fun h => by have := hkeep2 h; subst this; exact hkeep h, fun {β} K0 K1 => ?_⟩
          simp only [zj51, zj50]
          unfold zj48
          rw [decide_eq_true (by omega : (d : Int) < 16), cond_true, hW.part d hlt, hq, if_pos rfl, cond_true, he1, he2, decide_eq_true (by omega : (need (bothOn w n k) (zA d) (zB d) : Int) < (need (bothOn w n k) A B : Int)), cond_true, he3, he4, decide_eq_false (by omega : ¬ (need (bothOn w n k) (oA d) (oB d) : Int) < (need (bothOn w n k) A B : Int)), cond_false, w64_succ d (by omega)]
          simp only [ff, hpe]
          exact he K0 K1
      · rw [decide_eq_false c1, Bool.false_and] at hpe
        obtain ⟨mp', hM', hkeep, he⟩ := ihe (d + 1) G mp2 (by omega) (by omega) hM2
        refine ⟨mp', hM', fun h => by have := hkeep2 h; subst this; exact hkeep h, fun {β} K0 K1 => ?_⟩
        simp only [zj51, zj50]
        unfold zj48
        rw [decide_eq_true (by omega : (d : Int) < 16), cond_true, hW.part d hlt, hq, if_pos rfl, cond_true, he1, he2, decide_eq_false (by omega : ¬ (need (bothOn w n k) (zA d) (zB d) : Int) < (need (bothOn w n k) A B : Int)), cond_false, w64_succ d (by omega)]
        simp only [ff, hpe]
        exact he K0 K1

theorem impl_text (hN : 64 < N) (hk : k ≤ 2) (hkn : k ≤ n) (hq : n - k ≤ 2) (hw : w < 4294967296) (F : Nat) : TextOK N n w k F F := by
  have h4 : 2 ^ (n - k) ≤ 4 := Nat.pow_le_pow_right (by decide) hq
  have h4k : 2 ^ k ≤ 4 := Nat.pow_le_pow_right (by decide) hk
  induction F with
  | zero => intro A B mp h; omega
  | succ F ih =>
    intro A B mp hAB hA0 hB0 hA hB hM
    have hA16 : A < 16 := Nat.lt_of_lt_of_le hA (Nat.pow_le_pow_right (by decide) h4k : 2 ^ 2 ^ k ≤ 2 ^ 4)
    have hB16 : B < 16 := Nat.lt_of_lt_of_le hB (Nat.pow_le_pow_right (by decide) h4 : 2 ^ 2 ^ (n - k) ≤ 2 ^ 4)
    have hsv := some_value w n k A B hk hkn hq hA hB hA0 hB0
    cases hx : bothOn w n k A B with
    | false =>
      have hv := (enc_value w n k A B hsv hx).2
      have hbs : bs (bothOn w n k) (isOne w n k) (F + 1) A B = strOf [if isOne w n k A B then 49 else 48] := by
        simp only [bs, hx]
        rfl
      refine ⟨mp, hM, fun _ => rfl, fun {β} k0 => ?_⟩
      rw [hbs]
      simp only [zj55, zj54]
      rw [impl_value_eq N hN n w k A B (by omega) (by omega) hw hA16 hB16, hv, decide_eq_true (by omega : ((if isOne w n k A B then 1 else 0 : Nat) : Int) ≥ 0), cond_true, impl_digit]
    | true =>
      have ihs : TextOK N n w k F (A + B) := fun A' B' mp' h => ih A' B' mp' (by omega)
      have hneg : decide (encI (Go.Proofs.YtddflpokemgnmaaDoor.hx w k A B false (2 ^ n) 0) (Go.Proofs.YtddflpokemgnmaaDoor.hx w k A B true (2 ^ n) 0) ≥ 0) = false := by
        have h1 := encI_mixed w n k A B hsv
        rw [hx] at h1
        have h2 := of_decide_eq_true h1
        exact decide_eq_false (by omega)
      have hr : ∀ mp, GoodM (bothOn w n k) mp → hasN mp A B = true → ∀ d, d < 16 → sub A d = true → hasN mp (A - d) B = true ∧ hasN mp d B = true := fun mp hg hh d h1 h2 => ((hg A B hh).2 hx).1 d h1 h2
      have hc : ∀ mp, GoodM (bothOn w n k) mp → hasN mp A B = true → ∀ d, d < 16 → sub B d = true → hasN mp A (B - d) = true ∧ hasN mp A d = true := fun mp hg hh d h1 h2 => ((hg A B hh).2 hx).2 d h1 h2
      obtain ⟨mp1, hM1, hk1, he1⟩ := text_digits N n w k (way_row N (B := B) hA16 hB0) hA0 hB0 hA hB hA16 hB16 hx hN hk hkn hq hw hr (fun d hd => ⟨(hexs_bt d hd).1, (size_node d hd).1⟩) F ihs 2 0 [65, 66] 16 0 N mp (by omega) (by omega) hM
      obtain ⟨mp2, hM2, hk2, he2⟩ := text_digits N n w k (way_col N (A := A) hB16 hA0) hA0 hB0 hA hB hA16 hB16 hx hN hk hkn hq hw hc (fun d hd => ⟨(hexs_bt d hd).2, (size_node d hd).2⟩) F ihs 2 1 [65, 66] 16 0 N mp1 (by omega) (by omega) hM1
      obtain ⟨H, hH⟩ : ∃ H, N = H + 3 := ⟨N - 3, by omega⟩
      have hloop : ∀ {β : Type} (k0 : ByteArray → Int → Int → Int → Mp → Option β), zj55 N (F + 1) (A : Int) (B : Int) (n : Int) (w : Int) (k : Int) mp k0 =
          zj53 N (zj55 N F) (H + 3) 2 0 (n : Int) (w : Int) (k : Int) mp (A : Int) (B : Int) [65, 66] k0 (fun e0 e1 e2 e3 => k0 ByteArray.empty e0 e1 e2 e3) := by
        intro β k0
        simp only [zj55, zj54]
        rw [impl_value_eq N hN n w k A B (by omega) (by omega) hw hA16 hB16, hneg, cond_false, ← hH]
        rfl
      cases h1 : ff (rowP (bothOn w n k) A B) 16 0 with
      | some x =>
        refine ⟨mp1, hM1, hk1, fun {β} k0 => ?_⟩
        rw [hloop]
        refine Eq.trans (he1 (β := β) (fun e0 e1 e2 e3 e4 => k0 e0 e1 e2 e3 e4) (fun e25_0 e25_1 e25_2 e25_3 e25_4 e25_5 e25_6 e25_7 e25_8 => zj53 N (zj55 N F) (H + 2) e25_0 (w64 (e25_1 + 1)) e25_2 e25_3 e25_4 e25_5 e25_6 e25_7 e25_8 k0 (fun e0 e1 e2 e3 => k0 ByteArray.empty e0 e1 e2 e3))) ?_
        show (match ff (rowP (bothOn w n k) A B) 16 0 with | some x => _ | none => _) = _
        simp only [bs, hx, h1, if_true]
      | none =>
        have hstep : ∀ {β : Type} (k0 : ByteArray → Int → Int → Int → Mp → Option β), zj55 N (F + 1) (A : Int) (B : Int) (n : Int) (w : Int) (k : Int) mp k0 = 
            (match ff (colP (bothOn w n k) A B) 16 0 with
            | some x => k0 ((node 66 x ++ bs (bothOn w n k) (isOne w n k) F A (B - x)) ++ bs (bothOn w n k) (isOne w n k) F A x) n w k mp2
            | none => zj53 N (zj55 N F) (H + 1) 2 2 n w k mp2 A B [65, 66] k0 (fun e0 e1 e2 e3 => k0 ByteArray.empty e0 e1 e2 e3)) := by
          intro β k0
          rw [hloop]
          refine Eq.trans (he1 (β := β) (fun e0 e1 e2 e3 e4 => k0 e0 e1 e2 e3 e4) (fun e25_0 e25_1 e25_2 e25_3 e25_4 e25_5 e25_6 e25_7 e25_8 => zj53 N (zj55 N F) (H + 2) e25_0 (w64 (e25_1 + 1)) e25_2 e25_3 e25_4 e25_5 e25_6 e25_7 e25_8 k0 (fun e0 e1 e2 e3 => k0 ByteArray.empty e0 e1 e2 e3))) ?_
          show (match ff (rowP (bothOn w n k) A B) 16 0 with | some x => _ | none => _) = _
          simp only [h1]
          exact he2 (β := β) (fun e0 e1 e2 e3 e4 => k0 e0 e1 e2 e3 e4) (fun e25_0 e25_1 e25_2 e25_3 e25_4 e25_5 e25_6 e25_7 e25_8 => zj53 N (zj55 N F) (H + 1) e25_0 (w64 (e25_1 + 1)) e25_2 e25_3 e25_4 e25_5 e25_6 e25_7 e25_8 k0 (fun e0 e1 e2 e3 => k0 ByteArray.empty e0 e1 e2 e3))
        refine ⟨mp2, hM2, fun h => ?_, fun {β} k0 => ?_⟩
        · have e1 := hk1 h
          subst e1
          exact hk2 h
        · rw [hstep]
          cases h2 : ff (colP (bothOn w n k) A B) 16 0 with
          | some y => simp only [bs, hx, h1, h2, if_true]
          | none =>
            simp only [bs, hx, h1, h2, if_true]
            rfl
end
end Go.Proofs.YtddflpokemgnmaaDoor
namespace Go.Proofs.YtddflpokemgnmaaDoor
open Go.Rv
set_option linter.unusedVariables false
variable {β : Type}
def fineT (a0 a1 a2 : Int) : Bool := isT a0 a1 && ((decide (0 ≤ a2) && decide (a2 ≤ 2)) && (decide (0 ≤ a0 - a2) && decide (a0 - a2 ≤ 2)))
theorem fineT_nat {a0 a1 a2 : Int} (h : fineT a0 a1 a2 = true) : ∃ n w k : Nat, a0 = n ∧ a1 = w ∧ a2 = k ∧ n ≤ 5 ∧ w < 2 ^ 2 ^ n ∧ w < 4294967296 ∧ k ≤ 2 ∧ k ≤ n ∧ n - k ≤ 2 := by
  unfold fineT at h
  simp only [Bool.and_eq_true, decide_eq_true_eq] at h
  obtain ⟨ht, ⟨h1, h2⟩, h3, h4⟩ := h
  obtain ⟨n, w, rfl, rfl, hn, hw, hw'⟩ := isT_nat ht
  obtain ⟨k, rfl⟩ := Int.eq_ofNat_of_zero_le h1
  exact ⟨n, w, k, rfl, rfl, rfl, hn, hw, hw', by omega, by omega, by omega⟩
theorem spec_l21Fine_eq (N : Nat) (a0 a1 a2 : Int) (h0 : -9223372036854775808 ≤ a0 ∧ a0 ≤ 9223372036854775807) (k : Bool → Option β) : zj60 N a0 a1 a2 k = k (fineT a0 a1 a2) := by
  unfold zj60 fineT
  simp only [spec_IsTable_eq, spec_l1In_eq]
  cases ht : isT a0 a1 with
  | false => rfl
  | true =>
    obtain ⟨n, w, rfl, rfl, hn, hw, hw'⟩ := isT_nat ht
    cases h1 : (decide (0 ≤ a2) && decide (a2 ≤ 2)) with
    | false => rfl
    | true =>
      simp only [Bool.and_eq_true, decide_eq_true_eq] at h1
      rw [w64_id (by omega) (by omega)]
      rfl
theorem impl_isSplit_eq (N : Nat) (a0 a1 a2 : Int) (h1 : a1 < 9223372036854775808) (k : Bool → Option β) : zj31 N a0 a1 a2 k = k (isT a0 a1 && (decide (0 ≤ a2) && decide (a2 ≤ a0))) := by
  unfold zj31
  simp only [impl_IsTable_eq N a0 a1 h1]
  cases isT a0 a1 with
  | false => rfl
  | true =>
    by_cases h : 0 ≤ a2
    · rw [decide_eq_true (by omega : a2 ≥ 0)]; rfl
    · rw [decide_eq_false (by omega : ¬ a2 ≥ 0)]; rfl
def top (k : Nat) : Nat := 2 ^ 2 ^ k - 1
theorem top_ok : ∀ k, k ≤ 2 → top k < 2 ^ 2 ^ k ∧ top k ≠ 0 ∧ top k < 16 := by decide +kernel
theorem top_spec (k : Nat) (hk : k ≤ 2) : w64 (shlI .i64 1 ((2 ^ k : Nat) : Int) - 1) = (top k : Int) := by
  have h4 : 2 ^ k ≤ 4 := Nat.pow_le_pow_right (by decide) hk
  have hp : 2 ^ 2 ^ k ≤ 2 ^ 4 := Nat.pow_le_pow_right (by decide) h4
  have := Nat.two_pow_pos (2 ^ k)
  rw [shl_one _ (by omega), show ((2 ^ 2 ^ k : Nat) : Int) - 1 = ((2 ^ 2 ^ k - 1 : Nat) : Int) by omega, w64_nat _ (by omega)]
  rfl
theorem good_nil (mx : Nat → Nat → Bool) : GoodM mx ([] : Mp) := fun A B h => by cases h
theorem impl_talking_eq (N : Nat) (a0 a1 a2 : Int) (h0 : -9223372036854775808 ≤ a0 ∧ a0 ≤ 9223372036854775807) (h1 : a1 < 9223372036854775808) (h2 : -9223372036854775808 ≤ a2 ∧ a2 ≤ 9223372036854775807) (k0 : Int → Int → Option β) (k1 : Int → Int → Int → Int → Int → Mp → Option β) :
    zj32 N a0 a1 a2 k0 k1 = if fineT a0 a1 a2 then k1 (top a2.toNat : Int) (top (a0 - a2).toNat : Int) a0 a1 a2 [] else k0 0 0 := by
  unfold zj32
  rw [impl_isSplit_eq N a0 a1 a2 h1]
  cases hf : fineT a0 a1 a2 with
  | true =>
    obtain ⟨n, w, k, rfl, rfl, rfl, hn, hw, hw', hk, hkn, hq⟩ := fineT_nat hf
    have h4k : 2 ^ k ≤ 4 := Nat.pow_le_pow_right (by decide) hk
    have h4 : 2 ^ (n - k) ≤ 4 := Nat.pow_le_pow_right (by decide) hq
    rw [isT_of hn hw, decide_eq_true (by omega : (0 : Int) ≤ (k : Int)), decide_eq_true (by omega : (k : Int) ≤ (n : Int)), show ((n : Int) - (k : Int)) = ((n - k : Nat) : Int) by omega, w64_nat _ (by omega), decide_eq_false (by omega : ¬ (k : Int) > 2), decide_eq_false (by omega : ¬ ((n - k : Nat) : Int) > 2)]
    simp only [Bool.and_self, Bool.not_true, cond_false, if_true]
    rw [gd_true rfl, shl_u64 k (by omega), gd_true (decide_eq_true (Int.natCast_nonneg (2 ^ k))), gd_true (decide_eq_true (by omega : (0 : Int) ≤ ((n - k : Nat) : Int))), shl_u64 (n - k) (by omega), gd_true (decide_eq_true (Int.natCast_nonneg (2 ^ (n - k)))), top_spec k hk, top_spec (n - k) hq, Int.toNat_natCast, Int.toNat_natCast]
  | false =>
    unfold fineT at hf
    rw [if_neg (by decide)]
    cases ht : isT a0 a1 with
    | false => rfl
    | true =>
      obtain ⟨n, w, rfl, rfl, hn, hw, hw'⟩ := isT_nat ht
      rw [ht, Bool.true_and] at hf
      by_cases e1 : 0 ≤ a2
      · by_cases e2 : a2 ≤ (n : Int)
        · rw [decide_eq_true e1, decide_eq_true e2]
          simp only [Bool.and_self, Bool.not_true, cond_false]
          by_cases e3 : a2 > 2
          · rw [decide_eq_true e3]; rfl
          · rw [decide_eq_false e3, cond_false, w64_id (by omega) (by omega)]
            by_cases e4 : (n : Int) - a2 > 2
            · rw [decide_eq_true e4]; rfl
            · rw [decide_eq_true e1, decide_eq_true (by omega : a2 ≤ 2), decide_eq_true (by omega : 0 ≤ (n : Int) - a2), decide_eq_true (by omega : (n : Int) - a2 ≤ 2)] at hf
              cases hf
        · rw [decide_eq_false e2, Bool.and_false]; rfl
      · rw [decide_eq_false e1]; rfl

def bits21 (a0 a1 a2 : Int) : Nat := need (bothOn a1.toNat a0.toNat a2.toNat) (top a2.toNat) (top (a0 - a2).toNat)
def prot (N : Nat) (a0 a1 a2 : Int) : ByteArray := bs (bothOn a1.toNat a0.toNat a2.toNat) (isOne a1.toNat a0.toNat a2.toNat) N (top a2.toNat) (top (a0 - a2).toNat)

section
variable (N : Nat) (hN : 64 < N) (a0 a1 a2 : Int) (h0 : -9223372036854775808 ≤ a0 ∧ a0 ≤ 9223372036854775807) (h1 : -9223372036854775808 ≤ a1 ∧ a1 ≤ 9223372036854775807) (h2 : -9223372036854775808 ≤ a2 ∧ a2 ≤ 9223372036854775807)
include hN h0
theorem spec_LeastBits_eq (k : Int → Option β) : zj78 N a0 a1 a2 k = k (if fineT a0 a1 a2 then (bits21 a0 a1 a2 : Int) else -1) := by
  unfold zj78
  rw [spec_l21Fine_eq N a0 a1 a2 h0]
  cases hf : fineT a0 a1 a2 with
  | false => rfl
  | true =>
    obtain ⟨n, w, k, rfl, rfl, rfl, hn, hw, hw', hk, hkn, hq⟩ := fineT_nat hf
    have h4k : 2 ^ k ≤ 4 := Nat.pow_le_pow_right (by decide) hk
    have h4 : 2 ^ (n - k) ≤ 4 := Nat.pow_le_pow_right (by decide) hq
    have t1 := top_ok k hk
    have t2 := top_ok (n - k) hq
    have hS := mixed_single w n k hk hkn hq
    have hle := need_le4 hS (top k) (top (n - k)) t1.2.2 t2.2.2
    unfold zj65
    simp only [spec_IsTable_eq, spec_l1In_eq]
    rw [isT_of hn hw, decide_eq_true (by omega : (0 : Int) ≤ (k : Int)), decide_eq_true (by omega : (k : Int) ≤ (n : Int))]
    simp only [Bool.and_self, Bool.not_true, cond_false, if_true]
    refine Eq.trans (mat_outer (β := β) N hN n w k hk hkn hq hw' _ (2 ^ k) 0 N (by omega) (by omega)) ?_
    have hl := rows_len w k (2 ^ (n - k)) (2 ^ k)
    simp only [hl]
    rw [show ((n : Int) - (k : Int)) = ((n - k : Nat) : Int) by omega, w64_nat _ (by omega), gd_true (decide_eq_true (Int.natCast_nonneg (2 ^ k))), gd_true (decide_eq_true (by omega : (0 : Int) ≤ ((n - k : Nat) : Int))), shl_u64 (n - k) (by omega), gd_true (decide_eq_true (Int.natCast_nonneg (2 ^ (n - k)))), top_spec k hk, top_spec (n - k) hq]
    unfold zj77
    refine Eq.trans (spec_least N n w k hN hk hkn hq N (top k) (top (n - k)) 4 (by omega) t1.2.2 t2.1 (by omega) _) ?_
    unfold bits21
    rw [show ((n : Int) - (k : Int)) = ((n - k : Nat) : Int) by omega]
    simp only [Int.toNat_natCast]
    rw [show min (need (bothOn w n k) (top k) (top (n - k))) (4 + 1) = need (bothOn w n k) (top k) (top (n - k)) by omega]
theorem spec_ProtocolOf_eq (k : ByteArray → Bool → Option β) : zj87 N a0 a1 a2 k = if fineT a0 a1 a2 then k (prot N a0 a1 a2) true else k ByteArray.empty false := by
  unfold zj87
  rw [spec_l21Fine_eq N a0 a1 a2 h0]
  cases hf : fineT a0 a1 a2 with
  | false => rfl
  | true =>
    have hlb := fun K : Int → Option β => spec_LeastBits_eq (β := β) N hN a0 a1 a2 h0 K
    obtain ⟨n, w, k, rfl, rfl, rfl, hn, hw, hw', hk, hkn, hq⟩ := fineT_nat hf
    have h4k : 2 ^ k ≤ 4 := Nat.pow_le_pow_right (by decide) hk
    have h4 : 2 ^ (n - k) ≤ 4 := Nat.pow_le_pow_right (by decide) hq
    have t1 := top_ok k hk
    have t2 := top_ok (n - k) hq
    unfold zj65
    simp only [spec_IsTable_eq, spec_l1In_eq]
    rw [isT_of hn hw, decide_eq_true (by omega : (0 : Int) ≤ (k : Int)), decide_eq_true (by omega : (k : Int) ≤ (n : Int))]
    simp only [Bool.and_self, Bool.not_true, cond_false, if_true]
    refine Eq.trans (mat_outer (β := β) N hN n w k hk hkn hq hw' _ (2 ^ k) 0 N (by omega) (by omega)) ?_
    have hl := rows_len w k (2 ^ (n - k)) (2 ^ k)
    simp only [hl, hlb, hf, if_true]
    rw [show ((n : Int) - (k : Int)) = ((n - k : Nat) : Int) by omega, w64_nat _ (by omega), gd_true (decide_eq_true (Int.natCast_nonneg (2 ^ k))), gd_true (decide_eq_true (by omega : (0 : Int) ≤ ((n - k : Nat) : Int))), shl_u64 (n - k) (by omega), gd_true (decide_eq_true (Int.natCast_nonneg (2 ^ (n - k)))), top_spec k hk, top_spec (n - k) hq]
    unfold zj86 bits21 prot
    rw [show ((n : Int) - (k : Int)) = ((n - k : Nat) : Int) by omega]
    simp only [Int.toNat_natCast]
    exact spec_build N n w k hN hk hkn hq N (top k) (top (n - k)) (by omega) t1.2.1 t2.2.1 t1.1 t2.1 _
include h1 h2
end
end Go.Proofs.YtddflpokemgnmaaDoor
namespace Go.Proofs.YtddflpokemgnmaaDoor
open Go.Rv
set_option linter.unusedVariables false
variable {β : Type}
def pc : Nat → Nat → Nat
  | 0, _ => 0
  | f + 1, w => w % 2 + pc f (w / 2)
def ones (w : Nat) : Nat := pc 32 w
def q1 (c : Nat) : Nat := (c / 2 &&& 85) + (c &&& 85)
def q2 (c : Nat) : Nat := (c / 4 &&& 51) + (c &&& 51)
def q3 (c : Nat) : Nat := (c / 16 + c) &&& 15
theorem wrapU_small (n : Int) (h0 : 0 ≤ n) (h1 : n < 2 ^ 64) : IntKind.u64.wrap n = n := by
  rw [IntKind.wrap_u64]
  have : (2 : Int) ^ 64 = 18446744073709551616 := by decide
  omega
theorem wu64_nat (n : Nat) (h : n < 18446744073709551616) : wu64 (n : Int) = n := by
  have : (2 : Int) ^ 64 = 18446744073709551616 := by decide
  exact wrapU_small _ (by omega) (by omega)
theorem shrU (a n : Nat) (hn : n ≤ 64) : shrI .u64 (a : Int) (n : Int) = ((a / 2 ^ n : Nat) : Int) := by
  have e : IntKind.u64.bits = 64 := rfl
  simp only [shrI, Int.toNat_natCast, e]
  rw [Nat.min_eq_left hn]; simp

def g1 (a : Int) : Int := wu64 (bits .and .u64 (shrI .u64 a 1) 6148914691236517205 + bits .and .u64 a 6148914691236517205)
def g2 (a : Int) : Int := wu64 (bits .and .u64 (shrI .u64 a 2) 3689348814741910323 + bits .and .u64 a 3689348814741910323)
def g3 (a : Int) : Int := bits .and .u64 (wu64 (shrI .u64 a 4 + a)) 1085102592571150095
def g4 (a : Int) : Int := wu64 (a + shrI .u64 a 8)
theorem spec_l2Count_eq (N w : Nat) (hN : 64 < N) (hw : w < 4294967296) (k : Int → Option β) : zj12 N (w : Int) k = k (ones w : Int) := by
  have key : ∀ (f F n w : Nat), f < F → w < 2 ^ f → n + f < 1000 → w < 4294967296 → zj11 N F (n : Int) (w : Int) k = k ((n + pc f w : Nat) : Int) := by
    intro f
    induction f with
    | zero =>
      intro F n w hF hw _ _
      obtain ⟨F, rfl⟩ : ∃ G, F = G + 1 := ⟨F - 1, by omega⟩
      have : w = 0 := by simpa using hw
      subst this
      simp only [zj11, zj10, pc]
      rfl
    | succ f ih =>
      intro F n w hF hw hn hw'
      obtain ⟨F, rfl⟩ : ∃ G, F = G + 1 := ⟨F - 1, by omega⟩
      simp only [zj11, zj10, pc]
      by_cases h0 : w = 0
      · subst h0
        have z : ∀ f, pc f 0 = 0 := fun f => by
          induction f with
          | zero => rfl
          | succ f ih => simp [pc, ih]
        simp [z]
      · have ha := bAnd w 1 (by omega) (by omega)
        rw [decide_eq_true (by omega : (w : Int) > 0), cond_true, show (1 : Int) = ((1 : Nat) : Int) from rfl, ha, shr_nat w 1 (by omega), Nat.and_one_is_mod, ← Int.natCast_add, w64_nat _ (by omega)]
        rw [ih F (n + w % 2) (w / 2 ^ 1) (by omega) (by rw [Nat.pow_succ] at hw; omega) (by omega) (by omega)]
        congr 2
        simp only [Nat.pow_one]
        omega
  have := key 32 N 0 w (by omega) hw (by omega) hw
  simpa [ones, zj12] using this
end Go.Proofs.YtddflpokemgnmaaDoor
namespace Go.Proofs.YtddflpokemgnmaaDoor
open Go.Rv
set_option linter.unusedVariables false
variable {β : Type}
theorem spec_l2Full_eq (N n : Nat) (hn : n ≤ 5) (k : Int → Option β) : zj9 N (n : Int) k = k ((2 ^ 2 ^ n - 1 : Nat) : Int) := by
  have hs := size_le hn
  have hp : 2 ^ 2 ^ n < 9223372036854775808 := pow_le_64 (by omega)
  have h1 := Nat.two_pow_pos (2 ^ n)
  unfold zj9
  rw [shl_u64 n hn, shl_one (2 ^ n) (by omega), decide_eq_true (by omega : (0 : Int) ≤ (n : Int)), decide_eq_true (Int.natCast_nonneg (2 ^ n)), gd_true rfl, gd_true rfl, w64_id (by omega) (by omega)]
  congr 1
  omega

end Go.Proofs.YtddflpokemgnmaaDoor
namespace Go.Proofs.YtddflpokemgnmaaDoor
open Go.Rv

variable {β : Type}
theorem and_mask (x : Int) (m : Nat) (hm : m < 9223372036854775808) : ∃ r : Nat, bits .and .i64 x (m : Int) = r ∧ r ≤ m := by
  refine ⟨((BitVec.ofInt 64 x) &&& (BitVec.ofInt 64 (m : Int))).toNat, ?_, ?_⟩
  · have h : ((BitVec.ofInt 64 x) &&& (BitVec.ofInt 64 (m : Int))).toNat ≤ m := by
      rw [BitVec.toNat_and, BitVec.ofInt_natCast, BitVec.toNat_ofNat, Nat.mod_eq_of_lt (by omega : m < 2 ^ 64)]
      exact Nat.and_le_right
    have h63 : (2 : Int) ^ 63 = 9223372036854775808 := by decide
    have key : ∀ r : Nat, r ≤ m → IntKind.i64.wrap (r : Int) = r := fun r hr => wrap_small _ (by omega) (by omega)
    exact key _ h
  · rw [BitVec.toNat_and, BitVec.ofInt_natCast, BitVec.toNat_ofNat, Nat.mod_eq_of_lt (by omega : m < 2 ^ 64)]
    exact Nat.and_le_right

theorem bits_top (op : BinOp) (x y : Int) : bits op .i64 x y < 9223372036854775808 := by
  show IntKind.i64.wrap _ < _
  rw [IntKind.wrap_i64]
  omega

theorem l1Byte_ends (N : Nat) (b : List Int) (i h : Int) (h0 : 0 ≤ i) (hb : b.length ≤ 9223372036854775807) :
    ∃ (r : Nat) (i' h' : Int), r ≤ 255 ∧ 0 ≤ i' ∧ ∀ k0 : Int → List Int → Int → Int → Option β, zj4 N b i h k0 = k0 r b i' h' := by
  unfold zj4
  by_cases hi : i < (b.length : Int)
  · obtain ⟨r, h1, h2⟩ := and_mask (w64 ((bits .and .i64 (bits .xor .i64 (shrI .i64 (w64 ((w64 (h * 6364136223846793005)) + 1442695040888963407)) 33) (shrI .i64 (w64 ((w64 (h * 6364136223846793005)) + 1442695040888963407)) 45)) 255) + (w64 ((rd 0 b i))))) 255 (by decide)
    refine ⟨r, w64 (i + 1), w64 ((w64 (h * 6364136223846793005)) + 1442695040888963407), h2, ?_, fun k0 => ?_⟩
    · rw [w64_id] <;> omega
    · rw [decide_eq_true hi, cond_true, decide_eq_true h0, gd_true rfl, gd_true rfl, ← h1]
      rfl
  · obtain ⟨r, h1, h2⟩ := and_mask (bits .xor .i64 (shrI .i64 (w64 ((w64 (h * 6364136223846793005)) + 1442695040888963407)) 33) (shrI .i64 (w64 ((w64 (h * 6364136223846793005)) + 1442695040888963407)) 45)) 255 (by decide)
    refine ⟨r, i, w64 ((w64 (h * 6364136223846793005)) + 1442695040888963407), h2, h0, fun k0 => ?_⟩
    rw [decide_eq_false hi, cond_false, ← h1]
    rfl

theorem l1Below_ends (N : Nat) (n : Int) (b : List Int) (i h : Int) (hn : n ≤ 256) (h0 : 0 ≤ i) (hb : b.length ≤ 9223372036854775807) :
    ∃ (r : Nat) (i' h' : Int), (0 < n → (r : Int) < n) ∧ (n ≤ 0 → r = 0) ∧ 0 ≤ i' ∧ ∀ k0 : Int → List Int → Int → Int → Option β, zj5 N n b i h k0 = k0 r b i' h' := by
  unfold zj5
  by_cases hp : n ≤ 0
  · exact ⟨0, i, h, fun h => by omega, fun _ => rfl, h0, fun k0 => by rw [decide_eq_true hp, cond_true]; rfl⟩
  · obtain ⟨r, i', h', h1, h2, h3⟩ := l1Byte_ends (β := β) N b i h h0 hb
    obtain ⟨m, rfl⟩ := Int.eq_ofNat_of_zero_le (by omega : 0 ≤ n)
    have hm : 0 < m := by omega
    refine ⟨r % m, i', h', fun _ => by have := Nat.mod_lt r hm; omega, fun h => by omega, h2, fun k0 => ?_⟩
    rw [decide_eq_false hp, cond_false, decide_eq_true hn, cond_true, h3]
    have hne : ((m : Int) != 0) = true := by simp; omega
    rw [hne, gd_true rfl]
    have : remI (r : Int) (m : Int) = ((r % m : Nat) : Int) := by
      unfold remI
      rw [Int.natCast_emod]
      exact Int.tmod_eq_emod_of_nonneg (Int.natCast_nonneg r)
    rw [this]

theorem l1New_loop (N : Nat) (b : List Int) (hb : b.length ≤ 9223372036854775807) : ∀ (d F i : Nat) (h : Int), i + d = min b.length 4000 → d < F →
    ∃ h', ∀ k0 : List Int → Int → Option β, zj2 N F b h (i : Int) k0 = k0 b h' := by
  intro d
  induction d with
  | zero =>
    intro F i h hd hF
    obtain ⟨F, rfl⟩ : ∃ F', F = F' + 1 := ⟨F - 1, by omega⟩
    refine ⟨h, fun k0 => ?_⟩
    show zj1 N b h (i : Int) _ k0 = _
    unfold zj1
    by_cases hi : (i : Int) < (b.length : Int)
    · rw [decide_eq_true hi, cond_true, decide_eq_false (by omega : ¬ (i : Int) < 4000), cond_false]
    · rw [decide_eq_false hi, cond_false]
  | succ d ih =>
    intro F i h hd hF
    obtain ⟨F, rfl⟩ : ∃ F', F = F' + 1 := ⟨F - 1, by omega⟩
    obtain ⟨h', h1⟩ := ih F (i + 1) (bits .and .i64 (w64 ((w64 ((w64 (h * 131)) + (w64 ((rd 0 b (i : Int)))))) + 7)) 1073741823) (by omega) (by omega)
    refine ⟨h', fun k0 => ?_⟩
    show zj1 N b h (i : Int) _ k0 = _
    unfold zj1
    rw [decide_eq_true (by omega : (i : Int) < (b.length : Int)), cond_true, decide_eq_true (by omega : (i : Int) < 4000), cond_true, decide_eq_true (by omega : (0 : Int) ≤ (i : Int)), gd_true rfl, gd_true rfl, w64_succ i (by omega)]
    exact h1 k0
theorem l1New_ends (N : Nat) (hN : 4096 < N) (b : List Int) (hb : b.length ≤ 9223372036854775807) :
    ∃ h' : Int, ∀ k0 : List Int → Int → Int → Option β, zj3 N b k0 = k0 b 0 h' := by
  obtain ⟨h', h1⟩ := l1New_loop (β := β) N b hb (min b.length 4000) N 0 (w64 (10101 + (b.length : Int))) (by omega) (by omega)
  exact ⟨h', fun k0 => h1 _⟩

theorem l2Variable_loop (N n i : Nat) (hn : n ≤ 5) : ∀ (d F x : Nat) (v : Int), x + d = 2 ^ n → d < F →
    ∃ v' : Int, ∀ k0 : Int → Option β, zj7 N F (n : Int) (i : Int) v (x : Int) k0 = k0 v' := by
  have hs := size_le hn
  intro d
  induction d with
  | zero =>
    intro F x v hd hF
    obtain ⟨F, rfl⟩ : ∃ F', F = F' + 1 := ⟨F - 1, by omega⟩
    refine ⟨v, fun k0 => ?_⟩
    show zj6 N (n : Int) (i : Int) v (x : Int) _ k0 = _
    unfold zj6
    rw [shl_one n (by omega), decide_eq_true (by omega : (0 : Int) ≤ (n : Int)), gd_true rfl, decide_eq_false (by omega : ¬ (x : Int) < ((2 ^ n : Nat) : Int)), cond_false]
  | succ d ih =>
    intro F x v hd hF
    obtain ⟨F, rfl⟩ : ∃ F', F = F' + 1 := ⟨F - 1, by omega⟩
    have step : ∀ k0 : Int → Option β, zj7 N (F + 1) (n : Int) (i : Int) v (x : Int) k0 =
        zj7 N F (n : Int) (i : Int) (cond (bits .and .i64 (shrI .i64 (x : Int) (i : Int)) 1 == 1) (bits .or .i64 v (shlI .i64 1 (x : Int))) v) ((x + 1 : Nat) : Int) k0 := fun k0 => by
      show zj6 N (n : Int) (i : Int) v (x : Int) _ k0 = _
      unfold zj6
      rw [shl_one n (by omega), decide_eq_true (by omega : (0 : Int) ≤ (n : Int)), gd_true rfl, decide_eq_true (by omega : (x : Int) < ((2 ^ n : Nat) : Int)), cond_true, decide_eq_true (by omega : (0 : Int) ≤ (i : Int)), gd_true rfl, decide_eq_true (by omega : (0 : Int) ≤ (x : Int)), gd_true rfl, w64_succ x (by omega)]
      cases (bits .and .i64 (shrI .i64 (x : Int) (i : Int)) 1 == 1) <;> rfl
    obtain ⟨v', h1⟩ := ih F (x + 1) (cond (bits .and .i64 (shrI .i64 (x : Int) (i : Int)) 1 == 1) (bits .or .i64 v (shlI .i64 1 (x : Int))) v) (by omega) (by omega)
    exact ⟨v', fun k0 => (step k0).trans (h1 k0)⟩
theorem l2Variable_ends (N n i : Nat) (hN : 64 < N) (hn : n ≤ 5) : ∃ v : Int, ∀ k0 : Int → Option β, zj8 N (n : Int) (i : Int) k0 = k0 v := by
  have hs := size_le hn
  obtain ⟨v, h⟩ := l2Variable_loop (β := β) N n i hn (2 ^ n) N 0 0 (by omega) (by omega)
  exact ⟨v, fun k0 => h _⟩

theorem draw_l3 (N n : Nat) (hN : 64 < N) (hn : n ≤ 5) (b : List Int) (c4 c5 c6 c7 : Int) : ∀ (d F x : Nat) (v : Int), x + d = 2 ^ n → d < F →
    ∃ v' : Int, ∀ k0 : Int → Int → List Int → Int → Int → Int → Int → Option β, zj14 N F (n : Int) v (x : Int) b c4 c5 c6 c7 k0 = k0 (n : Int) v' b c4 c5 c6 c7 := by
  have hs := size_le hn
  intro d
  induction d with
  | zero =>
    intro F x v hd hF
    obtain ⟨F, rfl⟩ : ∃ F', F = F' + 1 := ⟨F - 1, by omega⟩
    refine ⟨v, fun k0 => ?_⟩
    show zj13 N (n : Int) v (x : Int) b c4 c5 c6 c7 _ k0 = _
    unfold zj13
    rw [shl_one n (by omega), decide_eq_true (by omega : (0 : Int) ≤ (n : Int)), gd_true rfl, decide_eq_false (by omega : ¬ (x : Int) < ((2 ^ n : Nat) : Int)), cond_false]
  | succ d ih =>
    intro F x v hd hF
    obtain ⟨F, rfl⟩ : ∃ F', F = F' + 1 := ⟨F - 1, by omega⟩
    obtain ⟨v', h1⟩ := ih F (x + 1) (cond (decide ((w64 (2 * (ones x : Int))) > (n : Int))) (bits .or .i64 v (shlI .i64 1 (x : Int))) v) (by omega) (by omega)
    refine ⟨v', fun k0 => Eq.trans ?_ (h1 k0)⟩
    show zj13 N (n : Int) v (x : Int) b c4 c5 c6 c7 _ k0 = _
    unfold zj13
    rw [shl_one n (by omega), decide_eq_true (by omega : (0 : Int) ≤ (n : Int)), gd_true rfl, decide_eq_true (by omega : (x : Int) < ((2 ^ n : Nat) : Int)), cond_true, spec_l2Count_eq N x hN (by omega), decide_eq_true (by omega : (0 : Int) ≤ (x : Int)), gd_true rfl, w64_succ x (by omega)]
    cases (decide ((w64 (2 * (ones x : Int))) > (n : Int))) <;> rfl
theorem draw_l5 (N n : Nat) (hN : 64 < N) (hn : n ≤ 5) (b : List Int) (c4 c5 c6 c7 : Int) : ∀ (d F x : Nat) (v : Int), x + d = 2 ^ n → d < F →
    ∃ v' : Int, ∀ k0 : Int → Int → List Int → Int → Int → Int → Int → Option β, zj16 N F (n : Int) v (x : Int) b c4 c5 c6 c7 k0 = k0 (n : Int) v' b c4 c5 c6 c7 := by
  have hs := size_le hn
  intro d
  induction d with
  | zero =>
    intro F x v hd hF
    obtain ⟨F, rfl⟩ : ∃ F', F = F' + 1 := ⟨F - 1, by omega⟩
    refine ⟨v, fun k0 => ?_⟩
    show zj15 N (n : Int) v (x : Int) b c4 c5 c6 c7 _ k0 = _
    unfold zj15
    rw [shl_one n (by omega), decide_eq_true (by omega : (0 : Int) ≤ (n : Int)), gd_true rfl, decide_eq_false (by omega : ¬ (x : Int) < ((2 ^ n : Nat) : Int)), cond_false]
  | succ d ih =>
    intro F x v hd hF
    obtain ⟨F, rfl⟩ : ∃ F', F = F' + 1 := ⟨F - 1, by omega⟩
    obtain ⟨v', h1⟩ := ih F (x + 1) (cond (remI (ones x : Int) 2 == 1) (bits .or .i64 v (shlI .i64 1 (x : Int))) v) (by omega) (by omega)
    refine ⟨v', fun k0 => Eq.trans ?_ (h1 k0)⟩
    show zj15 N (n : Int) v (x : Int) b c4 c5 c6 c7 _ k0 = _
    unfold zj15
    rw [shl_one n (by omega), decide_eq_true (by omega : (0 : Int) ≤ (n : Int)), gd_true rfl, decide_eq_true (by omega : (x : Int) < ((2 ^ n : Nat) : Int)), cond_true, spec_l2Count_eq N x hN (by omega), decide_eq_true (by omega : (0 : Int) ≤ (x : Int)), gd_true rfl, w64_succ x (by omega)]
    cases (remI (ones x : Int) 2 == 1) <;> rfl
theorem draw_l7 (N n : Nat) (hn : n ≤ 5) (y : Int) (b : List Int) (c4 c5 c6 c7 : Int) : ∀ (d F x : Nat) (v : Int), x + d = 2 ^ n → d < F →
    ∃ v' : Int, ∀ k0 : Int → Int → List Int → Int → Int → Int → Int → Option β, zj18 N F (n : Int) v y (x : Int) b c4 c5 c6 c7 k0 = k0 (n : Int) v' b c4 c5 c6 c7 := by
  have hs := size_le hn
  intro d
  induction d with
  | zero =>
    intro F x v hd hF
    obtain ⟨F, rfl⟩ : ∃ F', F = F' + 1 := ⟨F - 1, by omega⟩
    refine ⟨v, fun k0 => ?_⟩
    show zj17 N (n : Int) v y (x : Int) b c4 c5 c6 c7 _ k0 = _
    unfold zj17
    rw [shl_one n (by omega), decide_eq_true (by omega : (0 : Int) ≤ (n : Int)), gd_true rfl, decide_eq_false (by omega : ¬ (x : Int) < ((2 ^ n : Nat) : Int)), cond_false]
  | succ d ih =>
    intro F x v hd hF
    obtain ⟨F, rfl⟩ : ∃ F', F = F' + 1 := ⟨F - 1, by omega⟩
    obtain ⟨v', h1⟩ := ih F (x + 1) (cond (bits .and .i64 (x : Int) y == y) (bits .or .i64 v (shlI .i64 1 (x : Int))) v) (by omega) (by omega)
    refine ⟨v', fun k0 => Eq.trans ?_ (h1 k0)⟩
    show zj17 N (n : Int) v y (x : Int) b c4 c5 c6 c7 _ k0 = _
    unfold zj17
    rw [shl_one n (by omega), decide_eq_true (by omega : (0 : Int) ≤ (n : Int)), gd_true rfl, decide_eq_true (by omega : (x : Int) < ((2 ^ n : Nat) : Int)), cond_true, decide_eq_true (by omega : (0 : Int) ≤ (x : Int)), gd_true rfl, w64_succ x (by omega)]
    cases (bits .and .i64 (x : Int) y == y) <;> rfl
theorem draw_l1 (N n : Nat) (hn : n ≤ 5) (b : List Int) (hb : b.length ≤ 9223372036854775807) (c6 c7 : Int) : ∀ (d F x : Nat) (v i h : Int), 0 ≤ i → x + d = 2 ^ n → d < F →
    ∃ v' i' h' : Int, 0 ≤ i' ∧ ∀ k0 : Int → Int → List Int → Int → Int → Int → Int → Option β, zj20 N F (n : Int) v (x : Int) b i h c6 c7 k0 = k0 (n : Int) v' b i' h' c6 c7 := by
  have hs := size_le hn
  intro d
  induction d with
  | zero =>
    intro F x v i h h0 hd hF
    obtain ⟨F, rfl⟩ : ∃ F', F = F' + 1 := ⟨F - 1, by omega⟩
    refine ⟨v, i, h, h0, fun k0 => ?_⟩
    show zj19 N (n : Int) v (x : Int) b i h c6 c7 _ k0 = _
    unfold zj19
    rw [shl_one n (by omega), decide_eq_true (by omega : (0 : Int) ≤ (n : Int)), gd_true rfl, decide_eq_false (by omega : ¬ (x : Int) < ((2 ^ n : Nat) : Int)), cond_false]
  | succ d ih =>
    intro F x v i h h0 hd hF
    obtain ⟨F, rfl⟩ : ∃ F', F = F' + 1 := ⟨F - 1, by omega⟩
    obtain ⟨r, i1, h1, -, -, g1, g2⟩ := l1Below_ends (β := β) N 2 b i h (by decide) h0 hb
    obtain ⟨v', i', h', g3, g4⟩ := ih F (x + 1) (bits .or .i64 v (shlI .i64 (r : Int) (x : Int))) i1 h1 g1 (by omega) (by omega)
    refine ⟨v', i', h', g3, fun k0 => Eq.trans ?_ (g4 k0)⟩
    show zj19 N (n : Int) v (x : Int) b i h c6 c7 _ k0 = _
    unfold zj19
    rw [shl_one n (by omega), decide_eq_true (by omega : (0 : Int) ≤ (n : Int)), gd_true rfl, decide_eq_true (by omega : (x : Int) < ((2 ^ n : Nat) : Int)), cond_true, g2, decide_eq_true (by omega : (0 : Int) ≤ (x : Int)), gd_true rfl, w64_succ x (by omega)]

theorem l2Draw_ends (N n : Nat) (hN : 64 < N) (hn : n ≤ 5) (b : List Int) (i h : Int) (h0 : 0 ≤ i) (hb : b.length ≤ 9223372036854775807) :
    ∃ w i' h' : Int, w < 9223372036854775808 ∧ 0 ≤ i' ∧ ∀ k0 : Int → Int → List Int → Int → Int → Option β, zj21 N (n : Int) b i h k0 = k0 (n : Int) w b i' h' := by
  have hs := size_le hn
  unfold zj21
  obtain ⟨r, i1, h1, r1, -, p1, e1⟩ := l1Below_ends (β := β) N 6 b i h (by decide) h0 hb
  have fin : ∀ (v i2 h2 : Int), 0 ≤ i2 → ∃ w i' h' : Int, w < 9223372036854775808 ∧ 0 ≤ i' ∧ ∀ k0 : Int → Int → List Int → Int → Int → Option β,
      (cond ((n : Int) == 0) (zj9 N (n : Int) fun r75 => k0 (n : Int) (bits .and .i64 (bits .and .i64 v 1) r75) b i2 h2) (zj9 N (n : Int) fun r76 => k0 (n : Int) (bits .and .i64 v r76) b i2 h2)) = k0 (n : Int) w b i' h' := by
    intro v i2 h2 p2
    cases hz : ((n : Int) == 0) with
    | true => exact ⟨_, i2, h2, bits_top _ _ _, p2, fun k0 => by rw [cond_true, spec_l2Full_eq N n hn]⟩
    | false => exact ⟨_, i2, h2, bits_top _ _ _, p2, fun k0 => by rw [cond_false, spec_l2Full_eq N n hn]⟩
  simp only [e1]
  cases c0 : ((r : Int) == 0) with
  | true =>
    obtain ⟨r2, i2, h2, -, -, p2, e2⟩ := l1Below_ends (β := β) N (mxI 1 (n : Int)) b i1 h1 (by unfold mxI; split <;> omega) p1 hb
    obtain ⟨v, e3⟩ := l2Variable_ends (β := β) N n r2 hN hn
    obtain ⟨w, i', h', q1, q2, q3⟩ := fin v i2 h2 p2
    exact ⟨w, i', h', q1, q2, fun k0 => by rw [cond_true, e2, e3]; exact q3 k0⟩
  | false =>
    cases c1 : ((r : Int) == 1) with
    | true =>
      obtain ⟨v, e3⟩ := draw_l3 (β := β) N n hN hn b i1 h1 0 0 (2 ^ n) N 0 0 (by omega) (by omega)
      obtain ⟨w, i', h', q1, q2, q3⟩ := fin v i1 h1 p1
      exact ⟨w, i', h', q1, q2, fun k0 => by rw [cond_false, cond_true]; exact (e3 _).trans (q3 k0)⟩
    | false =>
      cases c2 : ((r : Int) == 2) with
      | true =>
        obtain ⟨v, e3⟩ := draw_l5 (β := β) N n hN hn b i1 h1 0 0 (2 ^ n) N 0 0 (by omega) (by omega)
        obtain ⟨w, i', h', q1, q2, q3⟩ := fin v i1 h1 p1
        exact ⟨w, i', h', q1, q2, fun k0 => by rw [cond_false, cond_false, cond_true]; exact (e3 _).trans (q3 k0)⟩
      | false =>
        cases c3 : ((r : Int) == 3) with
        | true =>
          obtain ⟨r2, i2, h2, -, -, p2, e2⟩ := l1Below_ends (β := β) N (shlI .i64 1 (n : Int)) b i1 h1 (by rw [shl_one n (by omega)]; omega) p1 hb
          obtain ⟨v, e3⟩ := draw_l7 (β := β) N n hn (r2 : Int) b i2 h2 0 0 (2 ^ n) N 0 0 (by omega) (by omega)
          obtain ⟨w, i', h', q1, q2, q3⟩ := fin v i2 h2 p2
          exact ⟨w, i', h', q1, q2, fun k0 => by rw [cond_false, cond_false, cond_false, cond_true, decide_eq_true (by omega : (0 : Int) ≤ (n : Int)), gd_true rfl, e2]; exact (e3 _).trans (q3 k0)⟩
        | false =>
          obtain ⟨v, i2, h2, p2, e3⟩ := draw_l1 (β := β) N n hn b hb 0 0 (2 ^ n) N 0 0 i1 h1 p1 (by omega) (by omega)
          obtain ⟨w, i', h', q1, q2, q3⟩ := fin v i2 h2 p2
          exact ⟨w, i', h', q1, q2, fun k0 => by rw [cond_false, cond_false, cond_false, cond_false]; exact (e3 _).trans (q3 k0)⟩

theorem l1PickInt_ends (N : Nat) (b : List Int) (i h : Int) (l : List Int) (hl : 0 < l.length) (hl2 : l.length ≤ 256) (h0 : 0 ≤ i) (hb : b.length ≤ 9223372036854775807) :
    ∃ r i' h' : Int, r ∈ l ∧ 0 ≤ i' ∧ ∀ k0 : Int → List Int → Int → Int → List Int → Option β, zj22 N b i h l k0 = k0 r b i' h' l := by
  unfold zj22
  obtain ⟨r, i1, h1, r1, -, p1, e1⟩ := l1Below_ends (β := β) N (l.length : Int) b i h (by omega) h0 hb
  have hr : r < l.length := by have := r1 (by omega); omega
  refine ⟨l[r], i1, h1, List.getElem_mem hr, p1, fun k0 => ?_⟩
  rw [e1, decide_eq_true (by omega : (0 : Int) ≤ (r : Int)), gd_true rfl, decide_eq_true (by omega : (r : Int) < (l.length : Int)), gd_true rfl, rd_nat 0 l r hr]

theorem l1Once_ends (N : Nat) (n : Int) (b : List Int) (i h : Int) (hn : n ≤ 256) (h0 : 0 ≤ i) (hb : b.length ≤ 9223372036854775807) :
    ∃ (r : Bool) (i' h' : Int), 0 ≤ i' ∧ ∀ k0 : Bool → List Int → Int → Int → Option β, zj24 N n b i h k0 = k0 r b i' h' := by
  unfold zj24
  obtain ⟨r, i1, h1, -, -, p1, e1⟩ := l1Below_ends (β := β) N n b i h hn h0 hb
  exact ⟨_, i1, h1, p1, fun k0 => e1 _⟩

end Go.Proofs.YtddflpokemgnmaaDoor
namespace Go.Proofs.YtddflpokemgnmaaDoor
open Go.Rv
variable {β : Type}
def B (l : List UInt8) : ByteArray := ⟨l.toArray⟩
theorem B_data (s : ByteArray) : B s.data.toList = s := by cases s; simp [B]
theorem B_size (l : List UInt8) : (B l).size = l.length := by simp [B, ByteArray.size]
theorem B_inj {a b : ByteArray} (h : a.data.toList = b.data.toList) : a = b := by rw [← B_data a, ← B_data b, h]
theorem B_toList (l : List UInt8) : (B l).toList = l := Go.ByteArray.toList_mk l
theorem B_app (l m : List UInt8) : B l ++ B m = B (l ++ m) := by
  apply B_inj
  rw [ByteArray.toList_data_append]
  simp [B]
theorem B_ext (l : List UInt8) (a b : Nat) : (B l).extract a b = B ((l.take b).drop a) := by
  apply B_inj
  rw [ByteArray.data_extract]
  simp [B, List.drop_take, List.extract_eq_take_drop]
theorem B_nil : ByteArray.empty = B [] := rfl
theorem B_one (n : Int) : strOf (([] : List Int) ++ [n]) = B [UInt8.ofNat n.toNat] := by
  simp [strOf, B]
theorem B_strOf (l : List Int) : strOf l = B (l.map fun n => UInt8.ofNat n.toNat) := by simp [strOf, B]
theorem B_bt (l : List UInt8) (i : Nat) (h : i < l.length) : bt (B l) (i : Int) = (l[i].toNat : Int) := by
  simp [bt, B, List.getD, List.getElem?_eq_getElem h]
theorem B_bt0 (c : UInt8) (r : List UInt8) : bt (B (c :: r)) 0 = (c.toNat : Int) := by simp [bt, B]
theorem B_tail (c : UInt8) (r : List UInt8) : (B (c :: r)).extract (Int.toNat 1) (B (c :: r)).size = B r := by
  rw [B_ext, B_size]
  simp
theorem B_lt (c : UInt8) : c.toNat < 256 := c.toNat_lt
end Go.Proofs.YtddflpokemgnmaaDoor
namespace Go.Proofs.YtddflpokemgnmaaDoor
open Go.Rv
variable {β : Type}
def lf (n : Nat) : Bool := (decide (97 ≤ n) && decide (n < 102)) || (n == 48 || n == 49)
def bn (n : Nat) : Bool := n == 38 || (n == 124 || n == 94)
def wf : Tr → Prop
  | .nil => False
  | .node a b l r => b = 0 ∧ ∃ n : Nat, a = n ∧ n < 256 ∧ ((lf n = true ∧ l = .nil ∧ r = .nil) ∨ (n = 33 ∧ wf l ∧ r = .nil) ∨ (bn n = true ∧ wf l ∧ wf r))

theorem natb (n m : Nat) : ((n : Int) == (m : Int)) = (n == m) := by
  by_cases h : n = m
  · subst h; simp
  · rw [beq_eq_false_iff_ne.2 h, beq_eq_false_iff_ne.2 (by omega)]
end Go.Proofs.YtddflpokemgnmaaDoor
namespace Go.Proofs.YtddflpokemgnmaaDoor
open Go.Rv
variable {β : Type}
theorem drop_at {α : Type} (l : List α) (i : Nat) (h : i < l.length) : l.drop i = l[i] :: l.drop (i + 1) := List.drop_eq_getElem_cons h
theorem suffix_at {α : Type} {l m r : List α} {i : Nat} (h : l.drop i = m ++ r) (hi : i ≤ l.length) : l.drop (l.length - r.length) = r ∧ l.length - r.length ≤ l.length ∧ i + m.length = l.length - r.length ∧ r.length ≤ l.length := by
  have e : l.length - i = m.length + r.length := by rw [← List.length_drop, h, List.length_append]
  have e2 : l.length - r.length = i + m.length := by omega
  refine ⟨?_, by omega, by omega, by omega⟩
  rw [e2, ← List.drop_drop, h]
  simp
end Go.Proofs.YtddflpokemgnmaaDoor
namespace Go.Proofs.YtddflpokemgnmaaDoor
open Go.Rv
variable {β : Type}
theorem loop_st (g : Nat → Nat → Option β) (m : Nat) (r : Option β) (hs : ∀ F i, i < m → g (F + 1) i = g F (i + 1)) (he : ∀ F, g (F + 1) m = r) :
    ∀ (F i : Nat), i ≤ m → m - i < F → g F i = r := by
  intro F
  induction F with
  | zero => intro i _ h; omega
  | succ F ih =>
    intro i hi hF
    rcases Nat.lt_or_ge i m with h | h
    · rw [hs F i h]; exact ih (i + 1) h (by omega)
    · have : i = m := by omega
      subst this; exact he F

def sg (m : Nat) : Int := if m % 2 = 1 then -1 else 1
def bw (w x : Nat) : Nat := if w.testBit x then 1 else 0
theorem bw_le (w x : Nat) : bw w x ≤ 1 := by unfold bw; split <;> omega

def tm (w u x : Nat) : Int := sg (bw w x) * sg (ones (u &&& x))
theorem isTn {n w : Nat} (hn : n ≤ 5) (hw : w < 2 ^ 2 ^ n) : isT (n : Int) (w : Int) = true := by
  have h4 : ((w : Nat) : Int) < 2 ^ 2 ^ n := by exact_mod_cast hw
  simp only [isT, Bool.and_eq_true, decide_eq_true_eq, Int.toNat_natCast]
  exact ⟨⟨⟨by omega, by omega⟩, by omega⟩, h4⟩
theorem w_small {n w : Nat} (hn : n ≤ 5) (hw : w < 2 ^ 2 ^ n) : w < 4294967296 :=
  Nat.lt_of_lt_of_le hw (Nat.le_trans (Nat.pow_le_pow_right (by decide) (size_le hn)) (by decide))

theorem impl_Table_size_eq (N n : Nat) (w : Int) (hn : n ≤ 5) (k : Int → Option β) : zj29 N (n : Int) w k = k ((2 ^ n : Nat) : Int) := by
  unfold zj29
  rw [gd_true (decide_eq_true (by omega)), shl_one n (by omega)]
theorem impl_Table_at_eq (N w x : Nat) (n : Int) (hw : w < 4294967296) (k : Int → Option β) : zj38 N n (w : Int) (x : Int) k = k (bw w x : Int) := by
  unfold zj38
  rw [gd_true (decide_eq_true (by omega)), bit_at w x (by omega)]
  rfl

def en (l z : List Int) : Nat → List Int
  | 0 => z
  | i + 1 => wr (en l z i) (ones i : Int) (w64 (rd 0 (en l z i) (ones i : Int) + w64 (rd 0 l (i : Int) * rd 0 l (i : Int))))
theorem two_pos (n : Nat) : 0 < 2 ^ n := Nat.pow_pos (by decide)
end Go.Proofs.YtddflpokemgnmaaDoor
namespace Go.Proofs.YtddflpokemgnmaaDoor
open Go.Rv
variable {β : Type}
def in64 (n : Int) : Prop := -9223372036854775808 ≤ n ∧ n ≤ 9223372036854775807
theorem w8_small (n : Nat) (h : n < 256) : w8 (n : Int) = n := by
  have := IntKind.wrap_u8 (n : Int)
  show IntKind.wrap .u8 (n : Int) = n
  rw [this]
  omega

end Go.Proofs.YtddflpokemgnmaaDoor
namespace Go.Proofs.YtddflpokemgnmaaDoor
open Go.Rv
variable {β : Type}
theorem bw_eq1 (w x : Nat) : ((bw w x : Int) == 1) = w.testBit x := by unfold bw; cases w.testBit x <;> rfl
theorem bit_w (w x : Nat) (hw : w < 9223372036854775808) : bits .and .i64 (shrI .i64 (w : Int) (x : Int)) 1 = (bw w x : Int) := bit_at w x hw

theorem xor_zero {a b : Nat} (h : a ^^^ b = 0) : a = b := by
  have : a ^^^ b ^^^ b = b := by rw [h, Nat.zero_xor]
  rwa [Nat.xor_assoc, Nat.xor_self, Nat.xor_zero] at this
def R (w n i b : Nat) : Nat := tabw (fun x => w.testBit (ins x i b)) (2 ^ (n - 1))
def mono (w n i : Nat) : Bool := (R w n i 0 &&& R w n i 1) == R w n i 0
end Go.Proofs.YtddflpokemgnmaaDoor
namespace Go.Proofs.YtddflpokemgnmaaDoor
open Go.Rv
variable {β : Type}
end Go.Proofs.YtddflpokemgnmaaDoor
namespace Go.Proofs.YtddflpokemgnmaaDoor
open Go.Rv
variable {β : Type}
def dig (n : Nat) : Int := cond (decide (48 ≤ n) && decide (n ≤ 57)) ((n : Int) - 48) (cond (decide (97 ≤ n) && decide (n ≤ 102)) ((n : Int) - 87) (-1))
def hexL : List UInt8 := [48, 49, 50, 51, 52, 53, 54, 55, 56, 57, 97, 98, 99, 100, 101, 102]
theorem hex_index : ∀ n : Nat, n < 256 → Lib.indexByte hexL ((n : Int).toNat.toUInt8) = dig n := by decide +kernel
theorem dec_ge (n m : Nat) : decide ((n : Int) ≥ (m : Int)) = decide (m ≤ n) := by
  by_cases h : m ≤ n
  · rw [decide_eq_true h, decide_eq_true (by omega)]
  · rw [decide_eq_false h, decide_eq_false (by omega)]
theorem dec_le (n m : Nat) : decide ((n : Int) ≤ (m : Int)) = decide (n ≤ m) := by
  by_cases h : n ≤ m
  · rw [decide_eq_true h, decide_eq_true (by omega)]
  · rw [decide_eq_false h, decide_eq_false (by omega)]
theorem spec_l21Digit_eq (N n : Nat) (hn : n < 256) (k : Int → Option β) : zj140 N (n : Int) k = k (dig n) := by
  unfold zj140 dig
  have c1 : decide ((n : Int) ≥ 48) = decide (48 ≤ n) := dec_ge n 48
  have c2 : decide ((n : Int) ≤ 57) = decide (n ≤ 57) := dec_le n 57
  have c3 : decide ((n : Int) ≥ 97) = decide (97 ≤ n) := dec_ge n 97
  have c4 : decide ((n : Int) ≤ 102) = decide (n ≤ 102) := dec_le n 102
  rw [c1, c2, c3, c4]
  by_cases h1 : 48 ≤ n <;> by_cases h2 : n ≤ 57 <;> by_cases h3 : 97 ≤ n <;> by_cases h4 : n ≤ 102 <;> simp only [h1, h2, h3, h4, decide_true, decide_false, cond_true, cond_false, Bool.and_true, Bool.and_false, Bool.and_self] <;> first | rfl | (exfalso; omega) | skip
  all_goals
    congr 1
    first
    | (rw [show (n : Int) - 48 = ((n - 48 : Nat) : Int) by omega, w8_small _ (by omega), w64_nat _ (by omega)])
    | (rw [show (n : Int) - 97 = ((n - 97 : Nat) : Int) by omega, w8_small _ (by omega), w64_nat _ (by omega), w64_id (by omega) (by omega)]; omega)

def tu : Nat → List UInt8 → Option (Tr × List UInt8)
  | 0, _ => none
  | _ + 1, [] => none
  | F + 1, c :: r =>
    cond (c.toNat == 48 || c.toNat == 49) (some (.node c.toNat 0 .nil .nil, r))
      (cond (c.toNat == 65 || c.toNat == 66) (match r with
        | [] => none
        | d :: r => cond (decide (dig d.toNat < 0)) none (match tu F r with
          | some (A, r1) => match tu F r1 with
            | some (C, r2) => some (.node c.toNat (dig d.toNat) A C, r2)
            | none => none
          | none => none)) none)
theorem tu_spec : ∀ (F : Nat) (l : List UInt8) (T : Tr) (r : List UInt8), tu F l = some (T, r) → T.isNil = false ∧ ∃ p, l = p ++ r ∧ 0 < p.length := by
  intro F
  induction F with
  | zero => intro l T r h; cases h
  | succ F ih =>
    intro l T r h
    cases l with
    | nil => cases h
    | cons c l =>
      simp only [tu] at h
      cases h1 : (c.toNat == 48 || c.toNat == 49) with
      | true => rw [h1, cond_true] at h; cases h; exact ⟨rfl, [c], rfl, by simp⟩
      | false =>
        rw [h1, cond_false] at h
        cases h2 : (c.toNat == 65 || c.toNat == 66) with
        | false => rw [h2] at h; cases h
        | true =>
          rw [h2, cond_true] at h
          cases l with
          | nil => cases h
          | cons d l =>
            simp only at h
            cases h3 : decide (dig d.toNat < 0) with
            | true => rw [h3] at h; cases h
            | false =>
              rw [h3, cond_false] at h
              cases h4 : tu F l with
              | none => rw [h4] at h; cases h
              | some p =>
                obtain ⟨U, r1⟩ := p
                rw [h4] at h
                simp only at h
                cases h5 : tu F r1 with
                | none => rw [h5] at h; cases h
                | some q =>
                  obtain ⟨V, r2⟩ := q
                  rw [h5] at h
                  cases h
                  obtain ⟨_, p1, k2, _⟩ := ih _ _ _ h4
                  obtain ⟨_, p2, k4, _⟩ := ih _ _ _ h5
                  exact ⟨rfl, c :: d :: (p1 ++ p2), by rw [k2, k4]; simp, by simp⟩
theorem B_tail2 (c d : UInt8) (r : List UInt8) : (B (c :: d :: r)).extract (Int.toNat 2) (B (c :: d :: r)).size = B r := by
  rw [B_ext, B_size]
  simp
theorem B_bt1 (c d : UInt8) (r : List UInt8) : bt (B (c :: d :: r)) 1 = (d.toNat : Int) := by simp [bt, B]
theorem natn (n m : Nat) : ((n : Int) != (m : Int)) = !(n == m) := by rw [bne, natb]
theorem readTurn_eq (N : Nat) : ∀ (F : Nat) (l : List UInt8), l.length < F → ∀ k : Tr → ByteArray → Option β,
    zj90 N F (B l) k = match tu F l with | some (T, r) => k T (B r) | none => k .nil (B []) := by
  intro F
  induction F with
  | zero => intro l h; omega
  | succ F ih =>
    intro l hF k
    cases l with
    | nil =>
      simp only [zj90, zj89, B_toList, B_nil, tu]
      rfl
    | cons c r =>
      simp only [List.length_cons] at hF
      simp only [zj90, zj89, B_toList, B_nil, B_bt0, B_tail]
      simp only [B_size]
      rw [show ((c :: r == []) : Bool) = false from rfl]
      simp only [cond_false]
      rw [gd_true (decide_eq_true (by simp only [List.length_cons]; omega)), gd_true (decide_eq_true (by simp only [List.length_cons]; omega))]
      have hn := B_lt c
      simp only [tu]
      have two : ∀ m : Int, (cond (decide (((c :: r).length : Int) < 2)) (k .nil (B [])) (gd (decide (1 < ((c :: r).length : Int))) (strings_IndexByte N (strOf [48, 49, 50, 51, 52, 53, 54, 55, 56, 57, 97, 98, 99, 100, 101, 102]) (bt (B (c :: r)) 1) fun r3 =>
          cond (decide (r3 < 0)) (k .nil (B [])) (gd (decide (2 ≤ ((c :: r).length : Int))) (zj90 N F ((B (c :: r)).extract (Int.toNat 2) ((c :: r).length)) fun r4 r5 => cond (Tr.isNil r4) (k .nil (B [])) (zj90 N F r5 fun r6 r7 => cond (Tr.isNil r6) (k .nil (B [])) (k (.node m r3 r4 r6) r7))))))) =
          match (match r with
        | [] => none
        | d :: r => cond (decide (dig d.toNat < 0)) none (match tu F r with
          | some (A, r1) => match tu F r1 with
            | some (C, r2) => some (Tr.node m (dig d.toNat) A C, r2)
            | none => none
          | none => none)) with | some (T, r) => k T (B r) | none => k .nil (B []) := by
        intro m
        cases r with
        | nil => rfl
        | cons d r =>
          have hd := B_lt d
          simp only [List.length_cons] at hF ⊢
          have et := B_tail2 c d r
          rw [B_size] at et
          simp only [List.length_cons] at et
          rw [decide_eq_false (by omega), cond_false, gd_true (decide_eq_true (by omega)), B_bt1, et]
          unfold strings_IndexByte
          have hx : Lib.indexByte (strOf [48, 49, 50, 51, 52, 53, 54, 55, 56, 57, 97, 98, 99, 100, 101, 102]).data.toList ((d.toNat : Int).toNat.toUInt8) = dig d.toNat := hex_index d.toNat hd
          rw [hx]
          dsimp only
          cases h3 : decide (dig d.toNat < 0) with
          | true => rfl
          | false =>
            simp only [cond_false]
            rw [gd_true (decide_eq_true (by omega)), ih r (by omega)]
            cases h4 : tu F r with
            | none => rfl
            | some p =>
              obtain ⟨A, r1⟩ := p
              obtain ⟨a1, q, a2, a3⟩ := tu_spec _ _ _ _ h4
              have hl : r1.length < F := by rw [a2] at hF; simp at hF; omega
              simp only
              rw [a1, cond_false, ih r1 hl]
              cases h5 : tu F r1 with
              | none => rfl
              | some p2 =>
                obtain ⟨C, r2⟩ := p2
                obtain ⟨b1, _⟩ := tu_spec _ _ _ _ h5
                simp only
                rw [b1, cond_false]
      have t1 := two (c.toNat : Int)
      generalize c.toNat = n at hn t1 ⊢
      have e48 : ((n : Int) == 48) = (n == 48) := natb n 48
      have e49 : ((n : Int) == 49) = (n == 49) := natb n 49
      have e65 : ((n : Int) != 65) = !(n == 65) := natn n 65
      have e66 : ((n : Int) != 66) = !(n == 66) := natn n 66
      rw [e48, e49, e65, e66]
      cases h1 : n == 48 with
      | true => rfl
      | false =>
        cases h2 : n == 49 with
        | true => rfl
        | false =>
          simp only [cond_false, Bool.or_self]
          cases h3 : n == 65 with
          | true => exact t1
          | false =>
            cases h4 : n == 66 with
            | true => exact t1
            | false => rfl
theorem l21End_eq (N : Nat) (l : List UInt8) (hl : l.length ≤ 1048576) : ∀ (F i : Nat), l.length - i < F → i ≤ l.length → ∀ k : Int → Option β,
    zj142 N F (B l) (i : Int) k = match tu F (l.drop i) with | some (_, r) => k ((l.length - r.length : Nat) : Int) | none => k (-1) := by
  intro F
  induction F with
  | zero => intro i h; omega
  | succ F ih =>
    intro i hF hi k
    simp only [zj142, zj141, B_size]
    rcases Nat.lt_or_ge i l.length with hlt | hge
    · rw [decide_eq_false (show ¬ (i : Int) ≥ (l.length : Int) by omega), B_bt l i hlt, drop_at l i hlt]
      have hlen : (l.drop (i + 1)).length = l.length - (i + 1) := List.length_drop
      have g1 : decide ((0 : Int) ≤ (i : Int)) = true := decide_eq_true (by omega)
      have g2 : decide ((i : Int) < (l.length : Int)) = true := decide_eq_true (by omega)
      simp only [cond_false, g1, g2, gd, cond_true]
      rw [show w64 ((i : Int) + 1) = ((i + 1 : Nat) : Int) by rw [w64_id] <;> omega, show w64 ((i : Int) + 2) = ((i + 2 : Nat) : Int) by rw [w64_id] <;> omega]
      have leaf : (i + 1 : Nat) = l.length - (l.drop (i + 1)).length := by omega
      simp only [tu]
      have two : ∀ m : Int, (cond (decide (((i + 1 : Nat) : Int) ≥ (l.length : Int))) (k (-1)) (cond (decide ((0 : Int) ≤ ((i + 1 : Nat) : Int))) (cond (decide (((i + 1 : Nat) : Int) < (l.length : Int))) (zj140 N (bt (B l) ((i + 1 : Nat) : Int)) fun r3 =>
          cond (decide (r3 < 0)) (k (-1)) (zj142 N F (B l) ((i + 2 : Nat) : Int) fun r4 => cond (decide (r4 < 0)) (k (-1)) (zj142 N F (B l) r4 fun r5 => k r5))) none) none)) =
          match (match l.drop (i + 1) with
        | [] => none
        | d :: r => cond (decide (dig d.toNat < 0)) none (match tu F r with
          | some (A, r1) => match tu F r1 with
            | some (C, r2) => some (Tr.node m (dig d.toNat) A C, r2)
            | none => none
          | none => none)) with | some (_, r) => k ((l.length - r.length : Nat) : Int) | none => k (-1) := by
        intro m
        rcases Nat.lt_or_ge (i + 1) l.length with h1 | h1
        · rw [decide_eq_false (by omega), cond_false, decide_eq_true (by omega), cond_true, decide_eq_true (by omega), cond_true, B_bt l (i + 1) h1, drop_at l (i + 1) h1, spec_l21Digit_eq N _ (B_lt _)]
          simp only
          cases h3 : decide (dig l[i + 1].toNat < 0) with
          | true => rfl
          | false =>
            simp only [cond_false]
            rw [ih (i + 2) (by omega) (by omega)]
            cases h4 : tu F (l.drop (i + 1 + 1)) with
            | none => rfl
            | some p =>
              obtain ⟨A, r1⟩ := p
              have h4' : tu F (l.drop (i + 2)) = some (A, r1) := h4
              obtain ⟨_, q, a2, a3⟩ := tu_spec _ _ _ _ h4'
              obtain ⟨s1, s2, s3, s4⟩ := suffix_at a2 (by omega)
              simp only
              rw [decide_eq_false (by omega), cond_false, ih _ (by omega) s2, s1]
              cases tu F r1 <;> rfl
        · rw [decide_eq_true (by omega), cond_true, List.drop_eq_nil_of_le h1]
      have hn := B_lt l[i]
      have t1 := two (l[i].toNat : Int)
      generalize l[i].toNat = n at hn t1 ⊢
      have e48 : ((n : Int) == 48) = (n == 48) := natb n 48
      have e49 : ((n : Int) == 49) = (n == 49) := natb n 49
      have e65 : ((n : Int) != 65) = !(n == 65) := natn n 65
      have e66 : ((n : Int) != 66) = !(n == 66) := natn n 66
      rw [e48, e49, e65, e66]
      cases h1 : n == 48 with
      | true =>
        simp only [cond_true, Bool.true_or]
        rw [← leaf]
      | false =>
        cases h2 : n == 49 with
        | true =>
          simp only [cond_true, cond_false, Bool.or_true]
          rw [← leaf]
        | false =>
          simp only [cond_false, Bool.or_self]
          cases h3 : n == 65 with
          | true => exact t1
          | false =>
            cases h4 : n == 66 with
            | true => exact t1
            | false => rfl
    · rw [decide_eq_true (show (i : Int) ≥ (l.length : Int) by omega), cond_true, List.drop_eq_nil_of_le hge]
      rfl
def isProt (N : Nat) (l : List UInt8) : Bool := decide (l.length ≤ 100) && (match tu N l with | some (_, []) => true | _ => false)
theorem impl_IsProtocol_eq (N : Nat) (hN : 1048576 < N) (l : List UInt8) (k : Bool → Option β) : zj118 N (B l) k = k (isProt N l) := by
  unfold zj118 zj92 zj91 isProt
  rw [B_size]
  by_cases h : l.length ≤ 100
  · rw [decide_eq_true h, decide_eq_false (by omega), cond_false, Bool.true_and, readTurn_eq N N l (by omega)]
    cases hp : tu N l with
    | none => rfl
    | some p =>
      obtain ⟨T, r⟩ := p
      obtain ⟨a1, _⟩ := tu_spec _ _ _ _ hp
      simp only [a1, Bool.not_false, cond_true, B_nil, B_toList]
      cases r <;> rfl
  · rw [decide_eq_false h, decide_eq_true (by omega)]
    rfl
theorem spec_IsProtocol_eq (N : Nat) (hN : 1048576 < N) (l : List UInt8) (k : Bool → Option β) : zj144 N (B l) k = k (isProt N l) := by
  unfold zj144 isProt
  rw [B_size]
  by_cases h : l.length ≤ 100
  · rw [decide_eq_true (show (l.length : Int) ≤ 100 by omega), cond_true, decide_eq_true h, Bool.true_and]
    by_cases h0 : l.length = 0
    · have : l = [] := List.eq_nil_of_length_eq_zero h0
      subst this
      obtain ⟨M, rfl⟩ : ∃ M, N = M + 1 := ⟨N - 1, by omega⟩
      rfl
    · rw [decide_eq_true (show (l.length : Int) > 0 by omega), cond_true]
      have := fun k => l21End_eq (β := β) N l (by omega) N 0 (by omega) (by omega) k
      simp only [Int.natCast_zero, List.drop_zero] at this
      unfold zj143
      rw [this]
      cases hp : tu N l with
      | none => exact congrArg k (beq_eq_false_iff_ne.2 (by omega))
      | some p =>
        obtain ⟨T, r⟩ := p
        obtain ⟨_, q, a2, _⟩ := tu_spec _ _ _ _ hp
        cases r with
        | nil => simp
        | cons c r =>
          simp only [List.length_cons]
          congr 1
          refine beq_eq_false_iff_ne.2 ?_
          have : (q ++ c :: r).length = l.length := by rw [← a2]
          simp at this
          omega
  · rw [decide_eq_false (show ¬ (l.length : Int) ≤ 100 by omega), decide_eq_false h]
    rfl
end Go.Proofs.YtddflpokemgnmaaDoor
namespace Go.Proofs.YtddflpokemgnmaaDoor
open Go.Rv
set_option linter.unusedVariables false
variable {β : Type}
def hd : Tr → Nat
  | .nil => 0
  | .node _ _ a c => if a.isNil then 0 else 1 + max (hd a) (hd c)
def asked (x : Nat) : Tr → Nat
  | .nil => 0
  | .node s _ a c => if a.isNil then 0 else 1 + (if x.testBit (s.toNat - 97) then asked x c else asked x a)
end Go.Proofs.YtddflpokemgnmaaDoor
