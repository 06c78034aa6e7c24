/- Formulas, read as trees and by their places: negations pushed to the letters. -/
import Derived.Test.YtignjkbhdaiegaaDoorP40
namespace Go.Proofs.YtignjkbhdaiegaaDoor
open Go.Rv
variable {β : Type}
def lf (n : Nat) : Bool := (decide (97 ≤ n) && decide (n < 102)) || (n == 48 || n == 49)
def bn (n : Nat) : Bool := n == 38 || (n == 124 || n == 94)
/-- A formula at the front: its tree and what is left. -/
def pt : Nat → List UInt8 → Option (Tr × List UInt8)
  | 0, _ => none
  | _ + 1, [] => none
  | F + 1, c :: r =>
    cond (lf c.toNat) (some (.node c.toNat 0 .nil .nil, r))
      (cond (c.toNat == 33) (match pt F r with
        | some (T, r1) => some (.node 33 0 T .nil, r1)
        | none => none)
        (cond (bn c.toNat) (match pt F r with
          | some (A, r1) => match pt F r1 with
            | some (C, r2) => some (.node c.toNat 0 A C, r2)
            | none => none
          | none => none) none))
/-- A tree's text. -/
def tx : Tr → List UInt8
  | .nil => []
  | .node a _ l r => UInt8.ofNat a.toNat :: (tx l ++ tx r)
/-- Trees of formulas. -/
def wf : Tr → Prop
  | .nil => False
  | .node a b l r => b = 0 ∧ ∃ n : Nat, a = n ∧ n < 256 ∧ ((lf n = true ∧ l = .nil ∧ r = .nil) ∨ (n = 33 ∧ wf l ∧ r = .nil) ∨ (bn n = true ∧ wf l ∧ wf r))

theorem pt_wf : ∀ (F : Nat) (l : List UInt8) (T : Tr) (r : List UInt8), pt F l = some (T, r) → wf T ∧ l = tx T ++ r := by
  intro F
  induction F with
  | zero => intro l T r h; cases h
  | succ F ih =>
    intro l T r h
    cases l with
    | nil => cases h
    | cons c l =>
      simp only [pt] at h
      cases h1 : lf c.toNat with
      | true =>
        rw [h1, cond_true] at h
        cases h
        exact ⟨⟨rfl, c.toNat, rfl, B_lt c, .inl ⟨h1, rfl, rfl⟩⟩, by simp [tx]⟩
      | false =>
        rw [h1, cond_false] at h
        cases h2 : c.toNat == 33 with
        | true =>
          rw [h2, cond_true] at h
          have h2 := eq_of_beq h2
          cases h3 : pt F l with
          | none => rw [h3] at h; cases h
          | some p =>
            obtain ⟨U, r1⟩ := p
            rw [h3] at h
            cases h
            obtain ⟨k1, k2⟩ := ih _ _ _ h3
            refine ⟨⟨rfl, 33, rfl, by decide, .inr (.inl ⟨rfl, k1, rfl⟩)⟩, ?_⟩
            have : c = 33 := by rw [← UInt8.ofNat_toNat (x := c), h2]; rfl
            subst this
            simp only [tx, List.append_nil, List.cons_append]
            rw [← k2]
            rfl
        | false =>
          rw [h2, cond_false] at h
          cases h3 : bn c.toNat with
          | false => rw [h3] at h; cases h
          | true =>
            rw [h3, cond_true] at h
            cases h4 : pt F l with
            | none => rw [h4] at h; cases h
            | some p =>
              obtain ⟨U, r1⟩ := p
              rw [h4] at h
              simp only at h
              cases h5 : pt F r1 with
              | none => rw [h5] at h; cases h
              | some q =>
                obtain ⟨V, r2⟩ := q
                rw [h5] at h
                cases h
                obtain ⟨k1, k2⟩ := ih _ _ _ h4
                obtain ⟨k3, k4⟩ := ih _ _ _ h5
                refine ⟨⟨rfl, c.toNat, rfl, B_lt c, .inr (.inr ⟨h3, k1, k3⟩)⟩, ?_⟩
                simp only [tx, Int.toNat_natCast, UInt8.ofNat_toNat, List.cons_append, List.append_assoc]
                rw [← k4, ← k2]

theorem pt_tx : ∀ (T : Tr) (F : Nat) (r : List UInt8), wf T → (tx T).length ≤ F → pt F (tx T ++ r) = some (T, r) := by
  intro T
  induction T with
  | nil => intro F r h; exact h.elim
  | node a b l r ihl ihr =>
    intro F q h hF
    obtain ⟨rfl, n, rfl, hn, h⟩ := h
    have e : (UInt8.ofNat ((n : Int).toNat)).toNat = n := by simp; omega
    cases F with
    | zero => simp [tx] at hF
    | succ F =>
      simp only [tx, List.cons_append, List.append_assoc, List.length_cons, List.length_append] at hF ⊢
      simp only [pt, e]
      rcases h with ⟨h1, rfl, rfl⟩ | ⟨rfl, h1, rfl⟩ | ⟨h1, h2, h3⟩
      · rw [h1]; simp [tx]
      · rw [show lf 33 = false from rfl, show ((33 : Nat) == 33) = true from rfl]
        simp only [cond_true, cond_false, tx, List.nil_append]
        rw [ihl F q h1 (by simpa [tx] using hF)]
        rfl
      · have e1 : lf n = false := by
          simp only [bn, Bool.or_eq_true, beq_iff_eq] at h1
          rcases h1 with rfl | rfl | rfl <;> rfl
        have e2 : (n == 33) = false := by
          simp only [bn, Bool.or_eq_true, beq_iff_eq] at h1
          rcases h1 with rfl | rfl | rfl <;> rfl
        rw [e1, e2, h1]
        simp only [cond_true, cond_false]
        rw [ihl F _ h2 (by omega)]
        simp only
        rw [ihr F _ h3 (by omega)]

theorem tx_pos {T : Tr} (h : wf T) : 0 < (tx T).length := by
  cases T with
  | nil => exact h.elim
  | node a b l r => simp [tx]

theorem isLetter_nat (N n : Nat) (k : Bool → Option β) : impl_isLetter N (n : Int) k = k (decide (97 ≤ n) && decide (n < 102)) := by
  simp only [impl_isLetter]
  by_cases h1 : 97 ≤ n
  · rw [decide_eq_true (show (n : Int) ≥ 97 by omega), decide_eq_true h1]
    simp only [cond_true, Bool.true_and]
    congr 1
    by_cases h2 : n < 102
    · rw [decide_eq_true h2, decide_eq_true (by omega)]
    · rw [decide_eq_false h2, decide_eq_false (by omega)]
  · rw [decide_eq_false (show ¬ (n : Int) ≥ 97 by omega), decide_eq_false h1]
    rfl

theorem natb (n m : Nat) : ((n : Int) == (m : Int)) = (n == m) := by
  by_cases h : n = m
  · subst h; simp
  · rw [beq_eq_false_iff_ne.2 h, beq_eq_false_iff_ne.2 (by omega)]

theorem readPart_eq (N : Nat) : ∀ (F : Nat) (l : List UInt8), l.length < F → ∀ k : Tr → ByteArray → Option β,
    impl_readPart_f N F (B l) k = match pt F l with | some (T, r) => k T (B r) | none => k .nil (B []) := by
  intro F
  induction F with
  | zero => intro l h; omega
  | succ F ih =>
    intro l hF k
    cases l with
    | nil =>
      simp only [impl_readPart_f, impl_readPart_b, B_toList, B_nil, pt]
      rfl
    | cons c r =>
      simp only [List.length_cons] at hF
      simp only [impl_readPart_f, impl_readPart_b, B_toList, B_nil, B_bt0, B_tail]
      simp only [B_size]
      rw [show ((c :: r == []) : Bool) = false from rfl]
      simp only [cond_false]
      rw [gd_true (decide_eq_true (by simp only [List.length_cons]; omega)), gd_true (decide_eq_true (by simp only [List.length_cons]; omega)), isLetter_nat]
      have hn := B_lt c
      simp only [pt]
      generalize c.toNat = n at hn ⊢
      have e48 : ((n : Int) == 48) = (n == 48) := natb n 48
      have e49 : ((n : Int) == 49) = (n == 49) := natb n 49
      have e33 : ((n : Int) == 33) = (n == 33) := natb n 33
      have e38 : ((n : Int) == 38) = (n == 38) := natb n 38
      have e124 : ((n : Int) == 124) = (n == 124) := natb n 124
      have e94 : ((n : Int) == 94) = (n == 94) := natb n 94
      rw [e48, e49, e33, e38, e124, e94]
      simp only [lf, bn]
      have bin : ∀ k' : Tr → Tr → List UInt8 → Option β, (impl_readPart_f N F (B r) fun r6 r7 => cond (Tr.isNil r6) (k .nil (B [])) (impl_readPart_f N F r7 fun r8 r9 => cond (Tr.isNil r8) (k .nil (B [])) (k (.node n 0 r6 r8) r9))) =
          match (match pt F r with
          | some (A, r1) => (match pt F r1 with
            | some (C, r2) => some (Tr.node n 0 A C, r2)
            | none => none)
          | none => none) with | some (T, r) => k T (B r) | none => k .nil (B []) := by
        intro _
        rw [ih r (by omega)]
        cases h1 : pt F r with
        | none => rfl
        | some p =>
          obtain ⟨A, r1⟩ := p
          obtain ⟨w1, w2⟩ := pt_wf _ _ _ _ h1
          have hl : r1.length < F := by rw [w2] at hF; simp at hF; omega
          simp only
          have hA : Tr.isNil A = false := by cases A with | nil => exact w1.elim | node => rfl
          rw [hA, cond_false, ih r1 hl]
          cases h2 : pt F r1 with
          | none => rfl
          | some q =>
            obtain ⟨C, r2⟩ := q
            obtain ⟨w3, w4⟩ := pt_wf _ _ _ _ h2
            have hC : Tr.isNil C = false := by cases C with | nil => exact w3.elim | node => rfl
            simp only
            rw [hC, cond_false]
      by_cases h1 : n = 33
      · subst h1
        simp
        rw [ih r (by omega)]
        cases h1 : pt F r with
        | none => rfl
        | some p =>
          obtain ⟨A, r1⟩ := p
          obtain ⟨w1, w2⟩ := pt_wf _ _ _ _ h1
          have hA : Tr.isNil A = false := by cases A with | nil => exact w1.elim | node => rfl
          simp only
          rw [hA, cond_false]
      · have f1 := beq_eq_false_iff_ne.2 h1
        by_cases h2 : n = 38
        · subst h2; simpa using bin fun _ _ _ => none
        · have f2 := beq_eq_false_iff_ne.2 h2
          by_cases h3 : n = 124
          · subst h3; simpa using bin fun _ _ _ => none
          · have f3 := beq_eq_false_iff_ne.2 h3
            by_cases h4 : n = 94
            · subst h4; simpa using bin fun _ _ _ => none
            · have f4 := beq_eq_false_iff_ne.2 h4
              rw [f1, f2, f3, f4]
              cases (decide (97 ≤ n) && decide (n < 102)) <;> cases h5 : n == 48 <;> cases h6 : n == 49 <;> simp
end Go.Proofs.YtignjkbhdaiegaaDoor
