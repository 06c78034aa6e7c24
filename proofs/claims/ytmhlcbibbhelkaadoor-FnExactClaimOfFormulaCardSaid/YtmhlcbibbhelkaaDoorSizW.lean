/- Plain law: what stands in the table of sizes. -/
import Derived.Test.YtmhlcbibbhelkaaDoorSizT
namespace Go.Proofs.YtmhlcbibbhelkaaDoor
set_option linter.unusedVariables false
theorem outer_lt {n : Nat} : ∀ (F m : Nat) (T : List Int), outer F (m + 2) (stt n m) = some T → ∃ j, j < F ∧ T = (stt n (m + j)).1 ∧ (stt n (m + j)).1.contains (-1) = false
  | 0, _, _, h => by cases h
  | F + 1, m, T, h => by
    unfold outer at h
    cases hb : (stt n m).1.contains (-1) with
    | false =>
      rw [hb, cond_false, Option.some.injEq] at h
      exact ⟨0, by omega, h.symm, hb⟩
    | true =>
      rw [hb, cond_true] at h
      obtain ⟨j, h1, h2, h3⟩ := outer_lt F (m + 1) T h
      exact ⟨j + 1, by omega, by rw [show m + (j + 1) = m + 1 + j by omega]; exact h2, by rw [show m + (j + 1) = m + 1 + j by omega]; exact h3⟩
structure SzOK (n : Nat) (T : List Int) : Prop where
  len : T.length = 2 ^ 2 ^ n
  zero : gt T 0 = 0
  full : gt T (2 ^ 2 ^ n - 1) = 0
  mid : ∀ w, 0 < w → w < 2 ^ 2 ^ n - 1 → 1 ≤ gt T w
  le : ∀ w, gt T w ≤ 41 ∧ 0 ≤ gt T w
theorem szT_ok {n : Nat} (hn : n ≤ 3) : SzOK n (szT n) := by
  have h0 : outer 40 (0 + 2) (stt n 0) = some (szT n) := szT_I hn
  obtain ⟨j, h1, h2, h3⟩ := outer_lt 40 0 _ h0
  rw [Nat.zero_add] at h2 h3
  have h := lockN hn j
  have hpos : ∀ w, 0 ≤ gt (stt n j).1 w := fun w => by
    rcases Int.lt_or_le (gt (stt n j).1 w) 0 with h4 | h4
    · rw [contains_neg h.neg1] at h3
      have h5 := of_decide_eq_false h3
      refine absurd ?_ h5
      unfold neg
      rw [List.countP_pos_iff]
      have hw : w < (stt n j).1.length := by
        rcases Nat.lt_or_ge w (stt n j).1.length with h6 | h6
        · exact h6
        · rw [past_gt h6] at h4; omega
      have e : gt (stt n j).1 w = (stt n j).1[w] := by simp [gt, List.getD, hw]
      exact ⟨(stt n j).1[w], List.getElem_mem hw, by rw [← e]; simpa using h4⟩
    · exact h4
  rw [h2]
  refine ⟨h.l1, h.c0, h.cf, fun w a b => ?_, fun w => ⟨?_, hpos w⟩⟩
  · have := h.pos w a b
    have := hpos w
    omega
  · rcases Int.lt_or_le (gt (stt n j).1 w) 1 with h4 | h4
    · omega
    · obtain ⟨a, ha, _, hb, _⟩ := inRows hn j w h4
      omega
end Go.Proofs.YtmhlcbibbhelkaaDoor
