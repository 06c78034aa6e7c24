/- Plain laws of the texts: protocols: parts of a set, and the least number of bits. -/
import Derived.Test.YtdkjnadhgdneaaaDoorP7
namespace Go.Proofs.YtdkjnadhgdneaaaDoor
open Go.Rv
set_option linter.unusedVariables false
variable {β : Type}
/-- The least of a bound and of some values. -/
structure IsMin (b0 : Nat) (S : Nat → Prop) (b : Nat) : Prop where
  le : b ≤ b0
  all : ∀ v, S v → b ≤ v
  one : b = b0 ∨ S b
theorem isMin_le {b0 b c : Nat} {S : Nat → Prop} (h : IsMin b0 S b) (k : IsMin b0 S c) : b ≤ c := by
  rcases k.one with e | e
  · have := h.le; omega
  · exact h.all _ e
theorem isMin_unique {b0 b c : Nat} {S : Nat → Prop} (h : IsMin b0 S b) (k : IsMin b0 S c) : b = c := Nat.le_antisymm (isMin_le h k) (isMin_le k h)
theorem isMin_add {b0 b : Nat} {S : Nat → Prop} (h : IsMin b0 S b) (u : Nat) : IsMin b0 (fun v => S v ∨ v = u) (min b u) where
  le := by have := h.le; omega
  all := by
    rintro v (hv | hv)
    · have := h.all v hv; omega
    · omega
  one := by
    by_cases e : b ≤ u
    · rw [Nat.min_eq_left e]
      exact h.one.imp id .inl
    · rw [Nat.min_eq_right (by omega)]
      exact .inr (.inr rfl)
theorem isMin_congr {b0 b : Nat} {S T : Nat → Prop} (h : IsMin b0 S b) (e : ∀ v, S v ↔ T v) : IsMin b0 T b := ⟨h.le, fun v hv => h.all v ((e v).2 hv), h.one.imp id (e b).1⟩
/-- The least of a bound that is a least itself. -/
theorem isMin_join {b0 b c : Nat} {S T : Nat → Prop} (h : IsMin b0 S b) (k : IsMin b T c) : IsMin b0 (fun v => S v ∨ T v) c where
  le := by have := h.le; have := k.le; omega
  all := by
    rintro v (hv | hv)
    · have := h.all v hv; have := k.le; omega
    · exact k.all v hv
  one := by
    rcases k.one with e | e
    · rw [e]; exact h.one.imp id .inl
    · exact .inr (.inr e)

/-- The least of some numbers, of those that are taken. -/
def qmin (B : Nat) (free : Nat → Bool) (val : Nat → Nat) : Nat → Nat
  | 0 => B
  | i + 1 => if free i then min (qmin B free val i) (val i) else qmin B free val i
theorem qmin_isMin (B : Nat) (free : Nat → Bool) (val : Nat → Nat) : ∀ n, IsMin B (fun v => ∃ i, i < n ∧ free i = true ∧ v = val i) (qmin B free val n)
  | 0 => ⟨Nat.le_refl _, fun v ⟨i, h, _⟩ => by omega, .inl rfl⟩
  | n + 1 => by
    have ih := qmin_isMin B free val n
    simp only [qmin]
    cases hf : free n with
    | true =>
      rw [if_pos rfl]
      refine isMin_congr (isMin_add ih (val n)) fun v => ⟨?_, ?_⟩
      · rintro (⟨i, h1, h2⟩ | h)
        · exact ⟨i, by omega, h2⟩
        · exact ⟨n, by omega, hf, h⟩
      · rintro ⟨i, h1, h2, h3⟩
        by_cases e : i = n
        · subst e; exact .inr h3
        · exact .inl ⟨i, by omega, h2, h3⟩
    | false =>
      rw [if_neg (by decide)]
      refine isMin_congr ih fun v => ⟨fun ⟨i, h1, h2⟩ => ⟨i, by omega, h2⟩, ?_⟩
      rintro ⟨i, h1, h2, h3⟩
      by_cases e : i = n
      · subst e; rw [hf] at h2; cases h2
      · exact ⟨i, by omega, h2, h3⟩
theorem qmin_congr {B C : Nat} (hB : B = C) {free : Nat → Bool} {val val' : Nat → Nat} : ∀ {n : Nat}, (∀ i, i < n → free i = true → val i = val' i) → qmin B free val n = qmin C free val' n
  | 0, _ => hB
  | n + 1, h => by
    simp only [qmin]
    rw [qmin_congr hB fun i hi hf => h i (by omega) hf]
    cases hf : free n with
    | true => rw [h n (by omega) hf]
    | false => rfl

/-! parts of a set -/
def sub (A x : Nat) : Bool := x != 0 && (x != A && (x &&& A == x))
theorem sub_lt : ∀ A, A < 16 → ∀ x, x < 16 → sub A x = true → x < A ∧ 0 < x ∧ A - x < A ∧ 0 < A - x ∧ sub A (A - x) = true ∧ A - (A - x) = x := by decide +kernel
theorem sub_le {A x : Nat} (h : sub A x = true) : x ≤ A := by
  simp only [sub, Bool.and_eq_true, bne_iff_ne, beq_iff_eq] at h
  rw [← h.2.2]
  exact Nat.and_le_right
def lg (A : Nat) : Nat := [0, 0, 0, 1, 0, 1, 1, 2, 0, 1, 1, 2, 1, 2, 2, 2].getD A 0
theorem lg_le : ∀ A, A < 16 → lg A ≤ 2 := by decide +kernel
theorem lg_split : ∀ A, A < 16 → lg A ≠ 0 → ∃ x, x < 16 ∧ sub A x = true ∧ lg x < lg A ∧ lg (A - x) < lg A := by decide +kernel
theorem lg_zero1 : ∀ A, A < 16 → ∀ r, r < 4 → ∀ s, s < 4 → (lg A == 0 && (A.testBit r && A.testBit s)) = true → r = s := by decide +kernel
theorem lg_zero (A : Nat) (hA : A < 16) (r : Nat) (hr : r < 4) (s : Nat) (hs : s < 4) (h0 : lg A = 0) (h1 : A.testBit r = true) (h2 : A.testBit s = true) : r = s :=
  lg_zero1 A hA r hr s hs (by rw [h0, h1, h2]; rfl)

/-! the least number of bits -/
def nd (mx : Nat → Nat → Bool) : Nat → Nat → Nat → Nat
  | 0, _, _ => 0
  | f + 1, A, B => if mx A B then qmin (qmin 4 (sub A) (fun x => 1 + max (nd mx f (A - x) B) (nd mx f x B)) 16) (sub B) (fun y => 1 + max (nd mx f A (B - y)) (nd mx f A y)) 16 else 0
def need (mx : Nat → Nat → Bool) (A B : Nat) : Nat := nd mx (A + B + 1) A B
def rowV (mx : Nat → Nat → Bool) (A B x : Nat) : Nat := 1 + max (need mx (A - x) B) (need mx x B)
def colV (mx : Nat → Nat → Bool) (A B y : Nat) : Nat := 1 + max (need mx A (B - y)) (need mx A y)
theorem nd_fuel (mx : Nat → Nat → Bool) : ∀ f A B, A < 16 → B < 16 → A + B < f → nd mx f A B = need mx A B
  | 0, A, B, _, _, h => by omega
  | f + 1, A, B, hA, hB, h => by
    simp only [need, nd]
    cases hx : mx A B with
    | false => rfl
    | true =>
      rw [if_pos rfl, if_pos rfl]
      refine qmin_congr (qmin_congr rfl fun x hx hs => ?_) fun y hy hs => ?_
      · have := sub_lt A hA x hx hs
        rw [nd_fuel mx f (A - x) B (by omega) hB (by omega), nd_fuel mx f x B hx hB (by omega), nd_fuel mx (A + B) (A - x) B (by omega) hB (by omega), nd_fuel mx (A + B) x B hx hB (by omega)]
      · have := sub_lt B hB y hy hs
        rw [nd_fuel mx f A (B - y) hA (by omega) (by omega), nd_fuel mx f A y hA hy (by omega), nd_fuel mx (A + B) A (B - y) hA (by omega) (by omega), nd_fuel mx (A + B) A y hA hy (by omega)]
theorem need_eq (mx : Nat → Nat → Bool) (A B : Nat) (hA : A < 16) (hB : B < 16) : need mx A B = if mx A B then qmin (qmin 4 (sub A) (rowV mx A B) 16) (sub B) (colV mx A B) 16 else 0 := by
  have : need mx A B = nd mx (A + B + 1) A B := rfl
  rw [this]
  simp only [nd]
  cases hx : mx A B with
  | false => rfl
  | true =>
    rw [if_pos rfl, if_pos rfl]
    refine qmin_congr (qmin_congr rfl fun x hx hs => ?_) fun y hy hs => ?_
    · have := sub_lt A hA x hx hs
      rw [nd_fuel mx _ (A - x) B (by omega) hB (by omega), nd_fuel mx _ x B hx hB (by omega)]
      rfl
    · have := sub_lt B hB y hy hs
      rw [nd_fuel mx _ A (B - y) hA (by omega) (by omega), nd_fuel mx _ A y hA hy (by omega)]
      rfl

/-- The values of the ways to part rows, or columns. -/
def rowS (mx : Nat → Nat → Bool) (A B v : Nat) : Prop := ∃ x, x < 16 ∧ sub A x = true ∧ v = rowV mx A B x
def colS (mx : Nat → Nat → Bool) (A B v : Nat) : Prop := ∃ y, y < 16 ∧ sub B y = true ∧ v = colV mx A B y
theorem need_isMin {mx : Nat → Nat → Bool} {A B : Nat} (hA : A < 16) (hB : B < 16) (hx : mx A B = true) : IsMin 4 (fun v => rowS mx A B v ∨ colS mx A B v) (need mx A B) := by
  rw [need_eq mx A B hA hB, if_pos hx]
  exact isMin_join (qmin_isMin 4 (sub A) (rowV mx A B) 16) (qmin_isMin _ (sub B) (colV mx A B) 16)

/-- Nothing is mixed of one row and one column. -/
def Single (mx : Nat → Nat → Bool) : Prop := ∀ A B, A < 16 → B < 16 → lg A = 0 → lg B = 0 → mx A B = false
theorem need_le {mx : Nat → Nat → Bool} (hmx : Single mx) : ∀ s A B, A + B ≤ s → A < 16 → B < 16 → need mx A B ≤ lg A + lg B := by
  intro s
  induction s with
  | zero =>
    intro A B h hA hB
    rw [show A = 0 by omega, show B = 0 by omega] at *
    rw [need_eq mx 0 0 hA hB, hmx 0 0 hA hB rfl rfl, if_neg (by decide)]
    exact Nat.zero_le _
  | succ s ih =>
    intro A B h hA hB
    cases hx : mx A B with
    | false => rw [need_eq mx A B hA hB, hx, if_neg (by decide)]; exact Nat.zero_le _
    | true =>
      have hm := need_isMin hA hB hx
      by_cases h0 : lg A = 0
      · by_cases h1 : lg B = 0
        · rw [hmx A B hA hB h0 h1] at hx; cases hx
        · obtain ⟨y, hy, hs, hl, hr⟩ := lg_split B hB h1
          have hlt := sub_lt B hB y hy hs
          have h2 := hm.all _ (.inr ⟨y, hy, hs, rfl⟩)
          have h3 := ih A (B - y) (by omega) hA (by omega)
          have h4 := ih A y (by omega) hA hy
          unfold colV at h2
          omega
      · obtain ⟨x, hx', hs, hl, hr⟩ := lg_split A hA h0
        have hlt := sub_lt A hA x hx' hs
        have h2 := hm.all _ (.inl ⟨x, hx', hs, rfl⟩)
        have h3 := ih (A - x) B (by omega) (by omega) hB
        have h4 := ih x B (by omega) hx' hB
        unfold rowV at h2
        omega
theorem need_le4 {mx : Nat → Nat → Bool} (hmx : Single mx) (A B : Nat) (hA : A < 16) (hB : B < 16) : need mx A B ≤ 4 := by
  have h1 := need_le hmx (A + B) A B (Nat.le_refl _) hA hB
  have h2 := lg_le A hA
  have h3 := lg_le B hB
  omega
theorem need_some {mx : Nat → Nat → Bool} (hmx : Single mx) {A B : Nat} (hA : A < 16) (hB : B < 16) (hx : mx A B = true) : rowS mx A B (need mx A B) ∨ colS mx A B (need mx A B) := by
  have hm := need_isMin hA hB hx
  have key : ∃ v, v ≤ 4 ∧ (rowS mx A B v ∨ colS mx A B v) := by
    by_cases h0 : lg A = 0
    · by_cases h1 : lg B = 0
      · rw [hmx A B hA hB h0 h1] at hx; cases hx
      · obtain ⟨y, hy, hs, hl, hr⟩ := lg_split B hB h1
        have hlt := sub_lt B hB y hy hs
        have h3 := need_le hmx _ A (B - y) (Nat.le_refl _) hA (by omega)
        have h4 := need_le hmx _ A y (Nat.le_refl _) hA hy
        have h5 := lg_le A hA
        have h6 := lg_le B hB
        exact ⟨colV mx A B y, by unfold colV; omega, .inr ⟨y, hy, hs, rfl⟩⟩
    · obtain ⟨x, hx', hs, hl, hr⟩ := lg_split A hA h0
      have hlt := sub_lt A hA x hx' hs
      have h3 := need_le hmx _ (A - x) B (Nat.le_refl _) (by omega) hB
      have h4 := need_le hmx _ x B (Nat.le_refl _) hx' hB
      have h5 := lg_le A hA
      have h6 := lg_le B hB
      exact ⟨rowV mx A B x, by unfold rowV; omega, .inl ⟨x, hx', hs, rfl⟩⟩
  obtain ⟨v, hv, hS⟩ := key
  rcases hm.one with e | e
  · have := hm.all v hS
    have : v = need mx A B := by omega
    rw [← this]
    exact hS
  · exact e
theorem need_pos {mx : Nat → Nat → Bool} {A B : Nat} (hA : A < 16) (hB : B < 16) (hx : mx A B = true) : 0 < need mx A B := by
  rcases (need_isMin hA hB hx).one with e | ⟨x, _, _, e⟩ | ⟨x, _, _, e⟩
  · omega
  · unfold rowV at e; omega
  · unfold colV at e; omega
/-- The least with a bound. -/
theorem least_eq {mx : Nat → Nat → Bool} (hmx : Single mx) {A B : Nat} (hA : A < 16) (hB : B < 16) (hx : mx A B = true) (b : Nat) {c : Nat}
    (h : IsMin b (fun v => rowS mx A B v ∨ colS mx A B v) c) : c = min (need mx A B) b := by
  have h1 := need_some hmx hA hB hx
  have h2 := h.all _ h1
  have h3 := h.le
  rcases h.one with e | e
  · omega
  · have := (need_isMin hA hB hx).all _ e
    omega

/-! the protocol's text -/
def hexs : ByteArray := strOf [48, 49, 50, 51, 52, 53, 54, 55, 56, 57, 97, 98, 99, 100, 101, 102]
def node (c : Int) (x : Nat) : ByteArray := strOf [c] ++ hexs.extract x (x + 1)
/-- The first from i on. -/
def ff (p : Nat → Bool) : Nat → Nat → Option Nat
  | 0, _ => none
  | d + 1, i => if p i then some i else ff p d (i + 1)
theorem ff_none (p : Nat → Bool) : ∀ d i, (∀ j, i ≤ j → j < i + d → p j = false) → ff p d i = none
  | 0, _, _ => rfl
  | d + 1, i, h => by
    simp only [ff]
    rw [h i (by omega) (by omega), if_neg (by decide), ff_none p d (i + 1) fun j h1 h2 => h j (by omega) (by omega)]
theorem ff_some (p : Nat → Bool) : ∀ d i x, ff p d i = some x → p x = true ∧ x < i + d
  | 0, _, _, h => by cases h
  | d + 1, i, x, h => by
    simp only [ff] at h
    cases hp : p i with
    | true => rw [hp, if_pos rfl] at h; cases h; exact ⟨hp, by omega⟩
    | false =>
      rw [hp, if_neg (by decide)] at h
      have := ff_some p d (i + 1) x h
      exact ⟨this.1, by omega⟩
def rowP (mx : Nat → Nat → Bool) (A B x : Nat) : Bool := sub A x && (decide (need mx (A - x) B < need mx A B) && decide (need mx x B < need mx A B))
def colP (mx : Nat → Nat → Bool) (A B y : Nat) : Bool := sub B y && (decide (need mx A (B - y) < need mx A B) && decide (need mx A y < need mx A B))
def bs (mx : Nat → Nat → Bool) (vl : Nat → Nat → Bool) : Nat → Nat → Nat → ByteArray
  | 0, _, _ => ByteArray.empty
  | f + 1, A, B => if mx A B then match ff (rowP mx A B) 16 0 with
      | some x => (node 65 x ++ bs mx vl f (A - x) B) ++ bs mx vl f x B
      | none => match ff (colP mx A B) 16 0 with
        | some y => (node 66 y ++ bs mx vl f A (B - y)) ++ bs mx vl f A y
        | none => ByteArray.empty
    else strOf [if vl A B then 49 else 48]
theorem size_node : ∀ x, x < 16 → (node 65 x).size = 2 ∧ (node 66 x).size = 2 := by decide +kernel
theorem size_ap (a b : ByteArray) : (a ++ b).size = a.size + b.size := ByteArray.size_append
theorem bs_size (mx vl : Nat → Nat → Bool) : ∀ f A B, A < 16 → B < 16 → (bs mx vl f A B).size + 2 ≤ 3 * 2 ^ (A + B)
  | 0, A, B, _, _ => by
    have := Nat.two_pow_pos (A + B)
    have e : (bs mx vl 0 A B).size = 0 := rfl
    omega
  | f + 1, A, B, hA, hB => by
    have hpos := Nat.two_pow_pos (A + B)
    have half : ∀ C D, C + D < A + B → 2 * 2 ^ (C + D) ≤ 2 ^ (A + B) := fun C D h => by
      have : 2 ^ (C + D + 1) ≤ 2 ^ (A + B) := Nat.pow_le_pow_right (by decide) h
      rw [Nat.pow_succ] at this
      omega
    simp only [bs]
    cases hx : mx A B with
    | false =>
      rw [if_neg (by decide)]
      have : (strOf [if vl A B then 49 else 48]).size = 1 := by cases vl A B <;> rfl
      omega
    | true =>
      rw [if_pos rfl]
      cases h1 : ff (rowP mx A B) 16 0 with
      | some x =>
        have hp := ff_some _ _ _ _ h1
        have hs : sub A x = true := by
          have := hp.1
          simp only [rowP, Bool.and_eq_true] at this
          exact this.1
        have hlt := sub_lt A hA x (by omega) hs
        have i1 := bs_size mx vl f (A - x) B (by omega) hB
        have i2 := bs_size mx vl f x B (by omega) hB
        have e1 := half (A - x) B (by omega)
        have e2 := half x B (by omega)
        have e3 := (size_node x (by omega)).1
        simp only [size_ap]
        omega
      | none =>
        cases h2 : ff (colP mx A B) 16 0 with
        | some y =>
          have hp := ff_some _ _ _ _ h2
          have hs : sub B y = true := by
            have := hp.1
            simp only [colP, Bool.and_eq_true] at this
            exact this.1
          have hlt := sub_lt B hB y (by omega) hs
          have i1 := bs_size mx vl f A (B - y) hA (by omega)
          have i2 := bs_size mx vl f A y hA (by omega)
          have e1 := half A (B - y) (by omega)
          have e2 := half A y (by omega)
          have e3 := (size_node y (by omega)).2
          simp only [size_ap]
          omega
        | none =>
          have e : ByteArray.empty.size = 0 := rfl
          simp only [e]
          omega
theorem bs_small (mx vl : Nat → Nat → Bool) (f A B : Nat) (hA : A < 16) (hB : B < 16) : (bs mx vl f A B).size ≤ 4000000000 := by
  have h1 := bs_size mx vl f A B hA hB
  have h2 : 2 ^ (A + B) ≤ 2 ^ 30 := Nat.pow_le_pow_right (by decide) (by omega)
  have h3 : (2 : Nat) ^ 30 = 1073741824 := by decide
  omega
end Go.Proofs.YtdkjnadhgdneaaaDoor
