/- Plain laws of the texts: faults seen at an input, counted; least test sets show all. -/
import Derived.Test.YtfdggelojmofmaaDoorP10
namespace Go.Proofs.YtfdggelojmofmaaDoor
open Go.Rv
set_option linter.unusedVariables false
variable {β : Type}
theorem ys_bit : ∀ x, x < 32 → ∀ i, i < 5 → ∀ b, b < 2 → ys x i b = if x.testBit i == (b == 1) then x else x ^^^ 2 ^ i := by decide +kernel

theorem sees_eq (w n x i b : Nat) (hn : n ≤ 5) (hi : i < n) (hb : b < 2) (hx : x < 2 ^ n) : sees w n x i b = (x.testBit i != (b == 1) && edge w i x) := by
  have hs := size_le hn
  unfold sees edge
  rw [Nat.testBit_xor, tabw_bit, decide_eq_true hx, Bool.true_and, ys_bit x (by omega) i (by omega) b hb]
  cases h : x.testBit i == (b == 1) with
  | true =>
    simp only [if_true]
    simp only [bne, h, Bool.not_true, Bool.false_and, Bool.xor_self]
  | false =>
    simp only [Bool.false_eq_true, if_false]
    simp only [bne, h, Bool.not_false, Bool.true_and]
    try (cases w.testBit x <;> cases w.testBit (x ^^^ 2 ^ i) <;> rfl)

theorem seen_count (w n x : Nat) (hn : n ≤ 5) (hx : x < 2 ^ n) : ∀ m, m ≤ n → (seen w n x m).length = cnt (fun i => edge w i x) m
  | 0, _ => rfl
  | m + 1, h => by
    have ih := seen_count w n x hn hx m (by omega)
    simp only [seen, cnt]
    rw [sees_eq w n x m 0 hn (by omega) (by decide) hx, sees_eq w n x m 1 hn (by omega) (by decide) hx]
    rcases Bool.eq_false_or_eq_true (x.testBit m) with h1 | h1 <;> rcases Bool.eq_false_or_eq_true (edge w m x) with h2 | h2 <;> simp [addIf, ih, h1, h2]

theorem addIf_mem (c : Bool) (l : List Int) (v u : Int) : u ∈ addIf c l v ↔ u ∈ l ∨ (c = true ∧ u = v) := by
  unfold addIf
  cases c <;> simp

theorem seen_lt (w n x : Nat) : ∀ m, ∀ u ∈ seen w n x m, u < ((2 * m : Nat) : Int)
  | 0, u, h => by simp [seen] at h
  | m + 1, u, h => by
    simp only [seen, addIf_mem] at h
    rcases h with (h | h) | h
    · have := seen_lt w n x m u h; omega
    · omega
    · omega

theorem seen_mem (w n x : Nat) : ∀ m i b, i < m → b < 2 → (((2 * i + b : Nat) : Int) ∈ seen w n x m ↔ sees w n x i b = true)
  | 0, i, b, h, _ => by omega
  | m + 1, i, b, h, hb => by
    simp only [seen, addIf_mem]
    by_cases e : i = m
    · subst e
      have hlt : ¬ ((2 * i + b : Nat) : Int) ∈ seen w n x i := fun h => by have := seen_lt w n x i _ h; omega
      have hb' : b = 0 ∨ b = 1 := by omega
      rcases hb' with rfl | rfl
      · constructor
        · rintro ((h | h) | h)
          · exact absurd h hlt
          · exact h.1
          · have := h.2; omega
        · exact fun h => .inl (.inr ⟨h, rfl⟩)
      · constructor
        · rintro ((h | h) | h)
          · exact absurd h hlt
          · have := h.2; omega
          · exact h.1
        · exact fun h => .inr ⟨h, rfl⟩
    · have ih := seen_mem w n x m i b (by omega) hb
      rw [← ih]
      constructor
      · rintro ((h | h) | h)
        · exact h
        · have := h.2; omega
        · have := h.2; omega
      · exact fun h => .inl (.inl h)

theorem elems_mem (d : Nat) : ∀ m (u : Int), u ∈ elems d m ↔ ∃ x : Nat, u = x ∧ x < m ∧ d.testBit x = true
  | 0, u => by simp [elems]
  | m + 1, u => by
    simp only [elems, addIf_mem, elems_mem d m u]
    constructor
    · rintro (⟨x, h1, h2, h3⟩ | ⟨h1, h2⟩)
      · exact ⟨x, h1, by omega, h3⟩
      · exact ⟨m, h2, by omega, h1⟩
    · rintro ⟨x, h1, h2, h3⟩
      by_cases e : x = m
      · subst e; exact .inr ⟨h3, h1⟩
      · exact .inl ⟨x, h1, by omega, h3⟩

theorem elems_count (d : Nat) : ∀ m, (elems d m).length = cnt d.testBit m
  | 0 => rfl
  | m + 1 => by
    simp only [elems, cnt, ← elems_count d m, addIf]
    cases d.testBit m <;> simp

theorem cnt_range (g : Nat → Bool) : ∀ m, cnt g m = (List.range m).countP g
  | 0 => rfl
  | m + 1 => by
    rw [List.range_succ, List.countP_append, cnt, cnt_range g m]
    simp [List.countP_cons]

theorem flip_perm : ∀ n, n ≤ 5 → ∀ i, i < n → (((List.range (2 ^ n)).map fun x => x ^^^ 2 ^ i).isPerm (List.range (2 ^ n))) = true := by decide +kernel
theorem flip_bit : ∀ x, x < 32 → ∀ i, i < 5 → (x ^^^ 2 ^ i).testBit i = !x.testBit i := by decide +kernel
theorem xor_lt' : ∀ n, n ≤ 5 → ∀ i, i < n → ∀ x, x < 2 ^ n → x ^^^ 2 ^ i < 2 ^ n := by decide +kernel

theorem infl_half (w n i b : Nat) (hn : n ≤ 5) (hi : i < n) (hb : b < 2) (hw : w < 2 ^ 2 ^ n) : infl w i (2 ^ n) = 2 * (elems (w ^^^ stuckw w n i b) 32).length := by
  have hs := size_le hn
  have hd : w ^^^ stuckw w n i b < 2 ^ 2 ^ n := Nat.xor_lt_two_pow hw (stuckw_lt w n i b)
  have e1 : elems (w ^^^ stuckw w n i b) 32 = elems (w ^^^ stuckw w n i b) (2 ^ n) := by
    have := elems_more (w ^^^ stuckw w n i b) (2 ^ n) hd (32 - 2 ^ n)
    rw [show 2 ^ n + (32 - 2 ^ n) = 32 by omega] at this
    exact this
  rw [e1, elems_count]
  have e2 : cnt (w ^^^ stuckw w n i b).testBit (2 ^ n) = cnt (fun x => x.testBit i != (b == 1) && edge w i x) (2 ^ n) := cnt_congr fun x hx => sees_eq w n x i b hn hi hb hx
  have e3 : cnt (fun x => x.testBit i != (b == 1) && edge w i x) (2 ^ n) = cnt (fun x => x.testBit i == (b == 1) && edge w i x) (2 ^ n) := by
    rw [cnt_range, cnt_range]
    have hp := (List.isPerm_iff.1 (flip_perm n hn i hi)).countP_eq (fun x => x.testBit i == (b == 1) && edge w i x)
    rw [List.countP_map] at hp
    rw [← hp]
    apply List.countP_congr
    intro x hx
    have hx := List.mem_range.1 hx
    simp only [Function.comp]
    rw [edge_sym, flip_bit x (by omega) i (by omega)]
    cases x.testBit i <;> cases (b == 1) <;> cases edge w i x <;> decide
  have e4 : infl w i (2 ^ n) = cnt (fun x => x.testBit i != (b == 1) && edge w i x) (2 ^ n) + cnt (fun x => x.testBit i == (b == 1) && edge w i x) (2 ^ n) := by
    unfold infl
    generalize 2 ^ n = m
    induction m with
    | zero => rfl
    | succ m ih =>
      simp only [cnt]
      rw [ih]
      rcases Bool.eq_false_or_eq_true (m.testBit i) with h1 | h1 <;> rcases Bool.eq_false_or_eq_true (b == 1) with h2 | h2 <;> rcases Bool.eq_false_or_eq_true (edge w i m) with h3 | h3 <;> simp only [h1, h2, h3] <;> simp <;> omega
  rw [e4, e2, ← e3]
  omega
end Go.Proofs.YtfdggelojmofmaaDoor
