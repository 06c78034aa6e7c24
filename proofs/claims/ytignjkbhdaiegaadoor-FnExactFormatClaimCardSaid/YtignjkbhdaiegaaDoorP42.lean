/- Formulas, by their places; negations pushed, and written again. -/
import Derived.Test.YtignjkbhdaiegaaDoorP41
namespace Go.Proofs.YtignjkbhdaiegaaDoor
open Go.Rv
variable {β : Type}
theorem drop_at {α : Type} (l : List α) (i : Nat) (h : i < l.length) : l.drop i = l[i] :: l.drop (i + 1) := List.drop_eq_getElem_cons h
theorem suffix_at {α : Type} {l m r : List α} {i : Nat} (h : l.drop i = m ++ r) (hi : i ≤ l.length) : l.drop (l.length - r.length) = r ∧ l.length - r.length ≤ l.length ∧ i + m.length = l.length - r.length ∧ r.length ≤ l.length := by
  have e : l.length - i = m.length + r.length := by rw [← List.length_drop, h, List.length_append]
  have e2 : l.length - r.length = i + m.length := by omega
  refine ⟨?_, by omega, by omega, by omega⟩
  rw [e2, ← List.drop_drop, h]
  simp

theorem l5End_eq (N : Nat) (l : List UInt8) (hl : l.length ≤ 1048576) : ∀ (F i : Nat), l.length - i < F → i ≤ l.length → ∀ k : Int → Option β,
    spec_l5End_f N F (B l) (i : Int) k = match pt F (l.drop i) with | some (_, r) => k ((l.length - r.length : Nat) : Int) | none => k (-1) := by
  intro F
  induction F with
  | zero => intro i h; omega
  | succ F ih =>
    intro i hF hi k
    simp only [spec_l5End_f, spec_l5End_b, B_size]
    rcases Nat.lt_or_ge i l.length with hlt | hge
    · rw [decide_eq_false (show ¬ (i : Int) ≥ (l.length : Int) by omega), B_bt l i hlt]
      simp only [cond_false]
      rw [gd_true (decide_eq_true (by omega)), gd_true (decide_eq_true (by omega))]
      rw [show w64 ((i : Int) + 1) = ((i + 1 : Nat) : Int) by rw [w64_id] <;> omega]
      rw [drop_at l i hlt]
      have hlen : (l.drop (i + 1)).length = l.length - (i + 1) := List.length_drop
      simp only [pt]
      have hn := B_lt l[i]
      generalize l[i].toNat = n at hn ⊢
      have bin : ∀ d : Int, (spec_l5End_f N F (B l) ((i + 1 : Nat) : Int) fun r4 => cond (decide (r4 < 0)) (k (-1)) (spec_l5End_f N F (B l) r4 fun r5 => k r5)) =
          match (match pt F (l.drop (i + 1)) with
          | some (A, r1) => (match pt F r1 with
            | some (C, r2) => some (Tr.node d 0 A C, r2)
            | none => none)
          | none => none) with | some (_, r) => k ((l.length - r.length : Nat) : Int) | none => k (-1) := by
        intro d
        rw [ih (i + 1) (by omega) (by omega)]
        cases h1 : pt F (l.drop (i + 1)) with
        | none => rfl
        | some p =>
          obtain ⟨A, r1⟩ := p
          obtain ⟨w1, w2⟩ := pt_wf _ _ _ _ h1
          obtain ⟨s1, s2, s3, s4⟩ := suffix_at w2 (by omega)
          simp only
          rw [decide_eq_false (by omega), cond_false, ih _ (by omega) s2, s1]
          cases h2 : pt F r1 <;> rfl
      have g : ∀ m : Nat, ((n : Int) == (m : Int)) = (n == m) := natb n
      have g97 := g 97; have g98 := g 98; have g99 := g 99; have g100 := g 100; have g101 := g 101; have g48 := g 48
      have g49 := g 49; have g33 := g 33; have g38 := g 38; have g124 := g 124; have g94 := g 94
      simp only [Int.cast_ofNat_Int] at g97 g98 g99 g100 g101 g48 g49 g33 g38 g124 g94
      simp only [g97, g98, g99, g100, g101, g48, g49, g33, g38, g124, g94]
      have leaf : (i + 1 : Nat) = l.length - (l.drop (i + 1)).length := by omega
      by_cases hlf : lf n = true
      · rw [hlf]
        simp only [cond_true]
        rw [← leaf]
        simp only [lf, Bool.or_eq_true, Bool.and_eq_true, decide_eq_true_eq, beq_iff_eq] at hlf
        have : n = 97 ∨ n = 98 ∨ n = 99 ∨ n = 100 ∨ n = 101 ∨ n = 48 ∨ n = 49 := by omega
        rcases this with rfl | rfl | rfl | rfl | rfl | rfl | rfl <;> rfl
      · have hlf := eq_false_of_ne_true hlf
        rw [hlf]
        simp only [lf, Bool.or_eq_false_iff, Bool.and_eq_false_iff, decide_eq_false_iff_not, beq_eq_false_iff_ne] at hlf
        rw [beq_eq_false_iff_ne.2 (show n ≠ 97 by omega), beq_eq_false_iff_ne.2 (show n ≠ 98 by omega), beq_eq_false_iff_ne.2 (show n ≠ 99 by omega), beq_eq_false_iff_ne.2 (show n ≠ 100 by omega), beq_eq_false_iff_ne.2 (show n ≠ 101 by omega), beq_eq_false_iff_ne.2 hlf.2.1, beq_eq_false_iff_ne.2 hlf.2.2]
        simp only [cond_false]
        by_cases e8 : n = 33
        · rw [e8, show ((33 : Nat) == 33) = true from rfl]
          simp only [cond_true]
          rw [ih (i + 1) (by omega) (by omega)]
          cases pt F (l.drop (i + 1)) <;> rfl
        rw [beq_eq_false_iff_ne.2 e8]
        simp only [cond_false, bn]
        by_cases e9 : n = 38
        · rw [e9, show ((38 : Nat) == 38) = true from rfl]; exact bin 38
        rw [beq_eq_false_iff_ne.2 e9]
        by_cases e10 : n = 124
        · rw [e10, show ((124 : Nat) == 124) = true from rfl]; exact bin 124
        rw [beq_eq_false_iff_ne.2 e10]
        by_cases e11 : n = 94
        · rw [e11, show ((94 : Nat) == 94) = true from rfl]; exact bin 94
        rw [beq_eq_false_iff_ne.2 e11]
        rfl
    · rw [decide_eq_true (show (i : Int) ≥ (l.length : Int) by omega), cond_true, List.drop_eq_nil_of_le hge]
      rfl

theorem spec_IsFormula_eq (N : Nat) (hN : 1048576 < N) (l : List UInt8) (k : Bool → Option β) : spec_IsFormula N (B l) k = k (decide (l.length ≤ 60) && (match pt 1048577 l with | some (_, []) => true | _ => false)) := by
  simp only [spec_IsFormula, B_size]
  by_cases h : l.length ≤ 60
  · rw [decide_eq_true (show (l.length : Int) ≤ 60 by omega), decide_eq_true h]
    simp only [cond_true, Bool.true_and]
    by_cases h0 : l.length = 0
    · have : l = [] := List.eq_nil_of_length_eq_zero h0
      subst this
      rfl
    · rw [decide_eq_true (show (l.length : Int) > 0 by omega), cond_true]
      show spec_l5End_f N N (B l) ((0 : Nat) : Int) _ = _
      rw [l5End_eq N l (by omega) N 0 (by omega) (by omega), List.drop_zero]
      have hfu : pt N l = pt 1048577 l := by
        cases h1 : pt N l with
        | some p =>
          obtain ⟨T, r⟩ := p
          obtain ⟨w1, w2⟩ := pt_wf _ _ _ _ h1
          rw [w2]
          rw [pt_tx T _ r w1]
          rw [w2] at h; simp at h; omega
        | none =>
          cases h2 : pt 1048577 l with
          | none => rfl
          | some p =>
            obtain ⟨T, r⟩ := p
            obtain ⟨w1, w2⟩ := pt_wf _ _ _ _ h2
            rw [w2, pt_tx T _ r w1] at h1
            · cases h1
            · rw [w2] at h; simp at h; omega
      rw [hfu]
      cases h1 : pt 1048577 l with
      | none => simp; rfl
      | some p =>
        obtain ⟨T, r⟩ := p
        obtain ⟨w1, w2⟩ := pt_wf _ _ _ _ h1
        cases r with
        | nil => simp
        | cons c r =>
          simp only [List.length_cons]
          congr 1
          refine beq_eq_false_iff_ne.2 ?_
          have : (tx T ++ c :: r).length = l.length := by rw [← w2]
          simp at this
          omega
  · rw [decide_eq_false (show ¬ (l.length : Int) ≤ 60 by omega), decide_eq_false h]
    rfl
end Go.Proofs.YtignjkbhdaiegaaDoor
