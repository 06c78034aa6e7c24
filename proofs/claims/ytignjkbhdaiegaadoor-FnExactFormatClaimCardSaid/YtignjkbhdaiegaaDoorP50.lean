/- Trees of questions: both texts take the same texts for trees. -/
import Derived.Test.YtignjkbhdaiegaaDoorP47
namespace Go.Proofs.YtignjkbhdaiegaaDoor
open Go.Rv
variable {β : Type}
def ltr (n : Nat) : Bool := decide (97 ≤ n) && decide (n < 102)
/-- A tree at the front, with no letter of a set: the tree and what is left. -/
def tt : Nat → List UInt8 → Nat → Option (Tr × List UInt8)
  | 0, _, _ => none
  | _ + 1, [], _ => none
  | F + 1, c :: r, m =>
    cond (c.toNat == 48 || c.toNat == 49) (some (.node c.toNat 0 .nil .nil, r))
      (cond (ltr c.toNat && !m.testBit (c.toNat - 97)) (match tt F r (m ||| 2 ^ (c.toNat - 97)) with
        | some (A, r1) => match tt F r1 (m ||| 2 ^ (c.toNat - 97)) with
          | some (C, r2) => some (.node c.toNat 0 A C, r2)
          | none => none
        | none => none) none)
theorem mask_small : ∀ m, m < 32 → ∀ j, j < 5 → m ||| 2 ^ j < 32 ∧ (m.testBit j = true ∨ ones (m ||| 2 ^ j) = ones m + 1) ∧ ones m ≤ 5 := by decide +kernel
theorem tt_spec : ∀ (F : Nat) (l : List UInt8) (m : Nat) (T : Tr) (r : List UInt8), m < 32 → tt F l m = some (T, r) → T.isNil = false ∧ l = tx T ++ r ∧ (tx T).length + 1 ≤ 2 ^ (6 - ones m) := by
  intro F
  induction F with
  | zero => intro l m T r _ h; cases h
  | succ F ih =>
    intro l m T r hm h
    cases l with
    | nil => cases h
    | cons c l =>
      have ho : ones m ≤ 5 := (mask_small m hm 0 (by decide)).2.2
      simp only [tt] at h
      cases h1 : (c.toNat == 48 || c.toNat == 49) with
      | true =>
        rw [h1, cond_true] at h
        cases h
        refine ⟨rfl, by simp [tx], ?_⟩
        have : 2 ^ 1 ≤ 2 ^ (6 - ones m) := Nat.pow_le_pow_right (by decide) (by omega)
        simpa [tx] using this
      | false =>
        rw [h1, cond_false] at h
        cases h2 : (ltr c.toNat && !m.testBit (c.toNat - 97)) with
        | false => rw [h2] at h; cases h
        | true =>
          rw [h2, cond_true] at h
          simp only [ltr, Bool.and_eq_true, decide_eq_true_eq, Bool.not_eq_true'] at h2
          obtain ⟨m1, m2, _⟩ := mask_small m hm (c.toNat - 97) (by omega)
          have m2 : ones (m ||| 2 ^ (c.toNat - 97)) = ones m + 1 := by
            rcases m2 with m2 | m2
            · rw [h2.2] at m2; cases m2
            · exact m2
          cases h4 : tt F l (m ||| 2 ^ (c.toNat - 97)) with
          | none => rw [h4] at h; cases h
          | some p =>
            obtain ⟨U, r1⟩ := p
            rw [h4] at h
            simp only at h
            cases h5 : tt F r1 (m ||| 2 ^ (c.toNat - 97)) with
            | none => rw [h5] at h; cases h
            | some q =>
              obtain ⟨V, r2⟩ := q
              rw [h5] at h
              cases h
              obtain ⟨_, k2, k3⟩ := ih _ _ _ _ m1 h4
              obtain ⟨_, k4, k5⟩ := ih _ _ _ _ m1 h5
              refine ⟨rfl, ?_, ?_⟩
              · simp only [tx, Int.toNat_natCast, UInt8.ofNat_toNat, List.cons_append, List.append_assoc]
                rw [← k4, ← k2]
              · rw [m2] at k3 k5
                have e : 2 ^ (6 - ones m) = 2 * 2 ^ (6 - (ones m + 1)) := by
                  rw [show 6 - ones m = (6 - (ones m + 1)) + 1 by omega, Nat.pow_succ]; omega
                simp only [tx, List.length_cons, List.length_append]
                omega

theorem variable_eq (N n : Nat) (h1 : 97 ≤ n) (h2 : n < 102) (k : Int → Int → Option β) : impl_tree_variable_g0 N (n : Int) k = k ((n - 97 : Nat) : Int) n := by
  unfold impl_tree_variable_g0
  have := w8_small (n - 97) (by omega)
  rw [show (n : Int) - 97 = ((n - 97 : Nat) : Int) by omega, this, w64_nat _ (by omega)]
theorem readTree_eq (N : Nat) : ∀ (F : Nat) (l : List UInt8) (m : Nat), l.length < F → m < 32 → ∀ k : Tr → ByteArray → Option β,
    impl_readTree_f N F (B l) (m : Int) k = match tt F l m with | some (T, r) => k T (B r) | none => k .nil (B []) := by
  intro F
  induction F with
  | zero => intro l m h; omega
  | succ F ih =>
    intro l m hF hm k
    cases l with
    | nil =>
      simp only [impl_readTree_f, impl_readTree_b, B_toList, B_nil, tt]
      rfl
    | cons c r =>
      simp only [List.length_cons] at hF
      simp only [impl_readTree_f, impl_readTree_b, B_toList, B_nil, B_bt0, B_tail]
      simp only [B_size]
      rw [show ((c :: r == []) : Bool) = false from rfl]
      simp only [cond_false]
      rw [gd_true (decide_eq_true (by simp only [List.length_cons]; omega)), gd_true (decide_eq_true (by simp only [List.length_cons]; omega)), isLetter_nat]
      have hn := B_lt c
      simp only [tt]
      generalize c.toNat = n at hn ⊢
      have e48 : ((n : Int) == 48) = (n == 48) := natb n 48
      have e49 : ((n : Int) == 49) = (n == 49) := natb n 49
      rw [e48, e49]
      cases h1 : n == 48 with
      | true => rfl
      | false =>
        cases h2 : n == 49 with
        | true => rfl
        | false =>
          simp only [cond_false, Bool.or_self]
          have el : (decide (97 ≤ n) && decide (n < 102)) = ltr n := rfl
          rw [el]
          cases h3 : ltr n with
          | false => rfl
          | true =>
            have h3' := h3
            simp only [ltr, Bool.and_eq_true, decide_eq_true_eq] at h3'
            simp only [Bool.not_true, cond_false, Bool.true_and]
            rw [variable_eq N n h3'.1 h3'.2, gd_true (decide_eq_true (Int.natCast_nonneg _)), bit_w m _ (by omega), bw_eq1]
            cases h4 : m.testBit (n - 97) with
            | true => rfl
            | false =>
              obtain ⟨m1, _, _⟩ := mask_small m hm (n - 97) (by omega)
              have hp : 2 ^ (n - 97) < 2 ^ 5 := Nat.pow_lt_pow_right (by decide) (by omega)
              simp only [cond_false, Bool.not_false, cond_true]
              rw [variable_eq N n h3'.1 h3'.2, gd_true (decide_eq_true (Int.natCast_nonneg _)), shl_one _ (by omega), bOr m _ (by omega) (by omega), ih r _ (by omega) m1]
              cases h5 : tt F r (m ||| 2 ^ (n - 97)) with
              | none => rfl
              | some p =>
                obtain ⟨A, r1⟩ := p
                obtain ⟨a1, a2, _⟩ := tt_spec _ _ _ _ _ m1 h5
                have hl : r1.length < F := by rw [a2] at hF; simp at hF; omega
                simp only
                rw [a1, cond_false, ih r1 _ hl m1]
                cases h6 : tt F r1 (m ||| 2 ^ (n - 97)) with
                | none => rfl
                | some q =>
                  obtain ⟨C, r2⟩ := q
                  obtain ⟨b1, _, _⟩ := tt_spec _ _ _ _ _ m1 h6
                  simp only
                  rw [b1, cond_false]
theorem l7End_eq (N : Nat) (l : List UInt8) (hl : l.length ≤ 1048576) : ∀ (F i m : Nat), l.length - i < F → i ≤ l.length → m < 32 → ∀ k : Int → Option β,
    spec_l7End_f N F (B l) (i : Int) (m : Int) k = match tt F (l.drop i) m with | some (_, r) => k ((l.length - r.length : Nat) : Int) | none => k (-1) := by
  intro F
  induction F with
  | zero => intro i m h; omega
  | succ F ih =>
    intro i m hF hi hm k
    simp only [spec_l7End_f, spec_l7End_b, B_size]
    rcases Nat.lt_or_ge i l.length with hlt | hge
    · rw [decide_eq_false (show ¬ (i : Int) ≥ (l.length : Int) by omega), B_bt l i hlt, drop_at l i hlt]
      have hlen : (l.drop (i + 1)).length = l.length - (i + 1) := List.length_drop
      have g1 : decide ((0 : Int) ≤ (i : Int)) = true := decide_eq_true (by omega)
      have g2 : decide ((i : Int) < (l.length : Int)) = true := decide_eq_true (by omega)
      simp only [cond_false, g1, g2, gd, cond_true]
      rw [show w64 ((i : Int) + 1) = ((i + 1 : Nat) : Int) by rw [w64_id] <;> omega]
      have leaf : (i + 1 : Nat) = l.length - (l.drop (i + 1)).length := by omega
      have hn := B_lt l[i]
      simp only [tt]
      generalize l[i].toNat = n at hn ⊢
      have e48 : ((n : Int) == 48) = (n == 48) := natb n 48
      have e49 : ((n : Int) == 49) = (n == 49) := natb n 49
      rw [e48, e49]
      cases h1 : n == 48 with
      | true =>
        simp only [cond_true, Bool.true_or]
        rw [← leaf]
      | false =>
        cases h2 : n == 49 with
        | true =>
          simp only [cond_true, cond_false, Bool.or_true]
          rw [← leaf]
        | false =>
          simp only [cond_false, Bool.or_self]
          rw [show w64 (w64 (n : Int) - 97) = (n : Int) - 97 by rw [w64_id (x := (n : Int)) (by omega) (by omega), w64_id (by omega) (by omega)], spec_l1In_eq]
          have el : (decide ((0 : Int) ≤ (n : Int) - 97) && decide ((n : Int) - 97 ≤ 4)) = ltr n := by
            unfold ltr
            congr 1
            · by_cases h : 97 ≤ n
              · rw [decide_eq_true h, decide_eq_true (by omega)]
              · rw [decide_eq_false h, decide_eq_false (by omega)]
            · by_cases h : n < 102
              · rw [decide_eq_true h, decide_eq_true (by omega)]
              · rw [decide_eq_false h, decide_eq_false (by omega)]
          rw [el]
          cases h3 : ltr n with
          | false => rfl
          | true =>
            have h3' := h3
            simp only [ltr, Bool.and_eq_true, decide_eq_true_eq] at h3'
            simp only [Bool.not_true, cond_false, Bool.true_and]
            rw [show (n : Int) - 97 = ((n - 97 : Nat) : Int) by omega, decide_eq_true (Int.natCast_nonneg (n - 97)), bit_w m _ (by omega), bw_eq1]
            simp only [cond_true]
            cases h4 : m.testBit (n - 97) with
            | true => rfl
            | false =>
              obtain ⟨m1, _, _⟩ := mask_small m hm (n - 97) (by omega)
              have hp : 2 ^ (n - 97) < 2 ^ 5 := Nat.pow_lt_pow_right (by decide) (by omega)
              simp only [cond_false, Bool.not_false, cond_true]
              rw [shl_one _ (by omega), bOr m _ (by omega) (by omega), ih (i + 1) _ (by omega) (by omega) m1]
              cases h5 : tt F (l.drop (i + 1)) (m ||| 2 ^ (n - 97)) with
              | none => rfl
              | some p =>
                obtain ⟨A, r1⟩ := p
                obtain ⟨_, a2, _⟩ := tt_spec _ _ _ _ _ m1 h5
                obtain ⟨s1, s2, s3, s4⟩ := suffix_at a2 (by omega)
                simp only
                rw [decide_eq_false (by omega), cond_false, ih _ _ (by omega) s2 m1, s1]
                cases tt F r1 (m ||| 2 ^ (n - 97)) <;> rfl
    · rw [decide_eq_true (show (i : Int) ≥ (l.length : Int) by omega), cond_true, List.drop_eq_nil_of_le hge]
      rfl

def isTree (N : Nat) (l : List UInt8) : Bool := match tt N l 0 with | some (_, []) => true | _ => false
theorem isTree_len (N : Nat) (l : List UInt8) (h : isTree N l = true) : l.length ≤ 63 := by
  unfold isTree at h
  split at h
  · rename_i T hp
    obtain ⟨_, a2, a3⟩ := tt_spec _ _ _ _ _ (by decide) hp
    have e : 2 ^ (6 - ones 0) = 64 := by decide
    rw [e] at a3
    rw [a2, List.append_nil]; omega
  · cases h
theorem impl_IsTree_eq (N : Nat) (hN : 1048576 < N) (l : List UInt8) (hl : l.length ≤ 1048576) (k : Bool → Option β) : impl_IsTree N (B l) k = k (isTree N l) := by
  unfold impl_IsTree impl_wholeTree impl_readTree isTree
  have := fun k => readTree_eq (β := β) N N l 0 (by omega) (by decide) k
  simp only [Int.natCast_zero] at this
  rw [this]
  cases hp : tt N l 0 with
  | none => rfl
  | some p =>
    obtain ⟨T, r⟩ := p
    obtain ⟨a1, _, _⟩ := tt_spec _ _ _ _ _ (by decide) hp
    simp only [a1, Bool.not_false, cond_true, B_nil, B_toList]
    cases r <;> rfl
theorem spec_IsTree_eq (N : Nat) (hN : 1048576 < N) (l : List UInt8) (hl : l.length ≤ 1048576) (k : Bool → Option β) : spec_IsTree N (B l) k = k (isTree N l) := by
  unfold spec_IsTree
  rw [B_size]
  by_cases h : l.length ≤ 63
  · rw [decide_eq_true (show (l.length : Int) ≤ 63 by omega), cond_true]
    by_cases h0 : l.length = 0
    · have : l = [] := List.eq_nil_of_length_eq_zero h0
      subst this
      obtain ⟨M, rfl⟩ : ∃ M, N = M + 1 := ⟨N - 1, by omega⟩
      rfl
    · rw [decide_eq_true (show (l.length : Int) > 0 by omega), cond_true]
      have := fun k => l7End_eq (β := β) N l hl N 0 0 (by omega) (by omega) (by decide) k
      simp only [Int.natCast_zero, List.drop_zero] at this
      unfold spec_l7End isTree
      rw [this]
      cases hp : tt N l 0 with
      | none => exact congrArg k (beq_eq_false_iff_ne.2 (by omega))
      | some p =>
        obtain ⟨T, r⟩ := p
        obtain ⟨_, a2, _⟩ := tt_spec _ _ _ _ _ (by decide) hp
        cases r with
        | nil => simp
        | cons c r =>
          simp only [List.length_cons]
          congr 1
          refine beq_eq_false_iff_ne.2 ?_
          have : (tx T ++ c :: r).length = l.length := by rw [← a2]
          simp at this
          omega
  · rw [decide_eq_false (show ¬ (l.length : Int) ≤ 63 by omega), cond_false]
    cases ht : isTree N l with
    | false => rfl
    | true => exact absurd (isTree_len N l ht) h
end Go.Proofs.YtignjkbhdaiegaaDoor
