/- What a claim's words are: protocols, tables, numbers written short. -/
import Derived.Test.YtignjkbhdaiegaaDoorP50
namespace Go.Proofs.YtignjkbhdaiegaaDoor
open Go.Rv
variable {β : Type}
/-! ### Protocols -/
def dig (n : Nat) : Int := cond (decide (48 ≤ n) && decide (n ≤ 57)) ((n : Int) - 48) (cond (decide (97 ≤ n) && decide (n ≤ 102)) ((n : Int) - 87) (-1))
def hexs : List UInt8 := [48, 49, 50, 51, 52, 53, 54, 55, 56, 57, 97, 98, 99, 100, 101, 102]
theorem hex_index : ∀ n : Nat, n < 256 → Lib.indexByte hexs ((n : Int).toNat.toUInt8) = dig n := by decide +kernel
theorem dec_ge (n m : Nat) : decide ((n : Int) ≥ (m : Int)) = decide (m ≤ n) := by
  by_cases h : m ≤ n
  · rw [decide_eq_true h, decide_eq_true (by omega)]
  · rw [decide_eq_false h, decide_eq_false (by omega)]
theorem dec_le (n m : Nat) : decide ((n : Int) ≤ (m : Int)) = decide (n ≤ m) := by
  by_cases h : n ≤ m
  · rw [decide_eq_true h, decide_eq_true (by omega)]
  · rw [decide_eq_false h, decide_eq_false (by omega)]
theorem spec_l21Digit_eq (N n : Nat) (hn : n < 256) (k : Int → Option β) : spec_l21Digit N (n : Int) k = k (dig n) := by
  unfold spec_l21Digit dig
  have c1 : decide ((n : Int) ≥ 48) = decide (48 ≤ n) := dec_ge n 48
  have c2 : decide ((n : Int) ≤ 57) = decide (n ≤ 57) := dec_le n 57
  have c3 : decide ((n : Int) ≥ 97) = decide (97 ≤ n) := dec_ge n 97
  have c4 : decide ((n : Int) ≤ 102) = decide (n ≤ 102) := dec_le n 102
  rw [c1, c2, c3, c4]
  by_cases h1 : 48 ≤ n <;> by_cases h2 : n ≤ 57 <;> by_cases h3 : 97 ≤ n <;> by_cases h4 : n ≤ 102 <;> simp only [h1, h2, h3, h4, decide_true, decide_false, cond_true, cond_false, Bool.and_true, Bool.and_false, Bool.and_self] <;> first | rfl | (exfalso; omega) | skip
  all_goals
    congr 1
    first
    | (rw [show (n : Int) - 48 = ((n - 48 : Nat) : Int) by omega, w8_small _ (by omega), w64_nat _ (by omega)])
    | (rw [show (n : Int) - 97 = ((n - 97 : Nat) : Int) by omega, w8_small _ (by omega), w64_nat _ (by omega), w64_id (by omega) (by omega)]; omega)

def tu : Nat → List UInt8 → Option (Tr × List UInt8)
  | 0, _ => none
  | _ + 1, [] => none
  | F + 1, c :: r =>
    cond (c.toNat == 48 || c.toNat == 49) (some (.node c.toNat 0 .nil .nil, r))
      (cond (c.toNat == 65 || c.toNat == 66) (match r with
        | [] => none
        | d :: r => cond (decide (dig d.toNat < 0)) none (match tu F r with
          | some (A, r1) => match tu F r1 with
            | some (C, r2) => some (.node c.toNat (dig d.toNat) A C, r2)
            | none => none
          | none => none)) none)
theorem tu_spec : ∀ (F : Nat) (l : List UInt8) (T : Tr) (r : List UInt8), tu F l = some (T, r) → T.isNil = false ∧ ∃ p, l = p ++ r ∧ 0 < p.length := by
  intro F
  induction F with
  | zero => intro l T r h; cases h
  | succ F ih =>
    intro l T r h
    cases l with
    | nil => cases h
    | cons c l =>
      simp only [tu] at h
      cases h1 : (c.toNat == 48 || c.toNat == 49) with
      | true => rw [h1, cond_true] at h; cases h; exact ⟨rfl, [c], rfl, by simp⟩
      | false =>
        rw [h1, cond_false] at h
        cases h2 : (c.toNat == 65 || c.toNat == 66) with
        | false => rw [h2] at h; cases h
        | true =>
          rw [h2, cond_true] at h
          cases l with
          | nil => cases h
          | cons d l =>
            simp only at h
            cases h3 : decide (dig d.toNat < 0) with
            | true => rw [h3] at h; cases h
            | false =>
              rw [h3, cond_false] at h
              cases h4 : tu F l with
              | none => rw [h4] at h; cases h
              | some p =>
                obtain ⟨U, r1⟩ := p
                rw [h4] at h
                simp only at h
                cases h5 : tu F r1 with
                | none => rw [h5] at h; cases h
                | some q =>
                  obtain ⟨V, r2⟩ := q
                  rw [h5] at h
                  cases h
                  obtain ⟨_, p1, k2, _⟩ := ih _ _ _ h4
                  obtain ⟨_, p2, k4, _⟩ := ih _ _ _ h5
                  exact ⟨rfl, c :: d :: (p1 ++ p2), by rw [k2, k4]; simp, by simp⟩
theorem B_tail2 (c d : UInt8) (r : List UInt8) : (B (c :: d :: r)).extract (Int.toNat 2) (B (c :: d :: r)).size = B r := by
  rw [B_ext, B_size]
  simp
theorem B_bt1 (c d : UInt8) (r : List UInt8) : bt (B (c :: d :: r)) 1 = (d.toNat : Int) := by simp [bt, B]
theorem natn (n m : Nat) : ((n : Int) != (m : Int)) = !(n == m) := by rw [bne, natb]
theorem readTurn_eq (N : Nat) : ∀ (F : Nat) (l : List UInt8), l.length < F → ∀ k : Tr → ByteArray → Option β,
    impl_readTurn_f N F (B l) k = match tu F l with | some (T, r) => k T (B r) | none => k .nil (B []) := by
  intro F
  induction F with
  | zero => intro l h; omega
  | succ F ih =>
    intro l hF k
    cases l with
    | nil =>
      simp only [impl_readTurn_f, impl_readTurn_b, B_toList, B_nil, tu]
      rfl
    | cons c r =>
      simp only [List.length_cons] at hF
      simp only [impl_readTurn_f, impl_readTurn_b, B_toList, B_nil, B_bt0, B_tail]
      simp only [B_size]
      rw [show ((c :: r == []) : Bool) = false from rfl]
      simp only [cond_false]
      rw [gd_true (decide_eq_true (by simp only [List.length_cons]; omega)), gd_true (decide_eq_true (by simp only [List.length_cons]; omega))]
      have hn := B_lt c
      simp only [tu]
      have two : ∀ m : Int, (cond (decide (((c :: r).length : Int) < 2)) (k .nil (B [])) (gd (decide (1 < ((c :: r).length : Int))) (strings_IndexByte N (strOf [48, 49, 50, 51, 52, 53, 54, 55, 56, 57, 97, 98, 99, 100, 101, 102]) (bt (B (c :: r)) 1) fun r3 =>
          cond (decide (r3 < 0)) (k .nil (B [])) (gd (decide (2 ≤ ((c :: r).length : Int))) (impl_readTurn_f N F ((B (c :: r)).extract (Int.toNat 2) ((c :: r).length)) fun r4 r5 => cond (Tr.isNil r4) (k .nil (B [])) (impl_readTurn_f N F r5 fun r6 r7 => cond (Tr.isNil r6) (k .nil (B [])) (k (.node m r3 r4 r6) r7))))))) =
          match (match r with
        | [] => none
        | d :: r => cond (decide (dig d.toNat < 0)) none (match tu F r with
          | some (A, r1) => match tu F r1 with
            | some (C, r2) => some (Tr.node m (dig d.toNat) A C, r2)
            | none => none
          | none => none)) with | some (T, r) => k T (B r) | none => k .nil (B []) := by
        intro m
        cases r with
        | nil => rfl
        | cons d r =>
          have hd := B_lt d
          simp only [List.length_cons] at hF ⊢
          have et := B_tail2 c d r
          rw [B_size] at et
          simp only [List.length_cons] at et
          rw [decide_eq_false (by omega), cond_false, gd_true (decide_eq_true (by omega)), B_bt1, et]
          unfold strings_IndexByte
          have hx : Lib.indexByte (strOf [48, 49, 50, 51, 52, 53, 54, 55, 56, 57, 97, 98, 99, 100, 101, 102]).data.toList ((d.toNat : Int).toNat.toUInt8) = dig d.toNat := hex_index d.toNat hd
          rw [hx]
          dsimp only
          cases h3 : decide (dig d.toNat < 0) with
          | true => rfl
          | false =>
            simp only [cond_false]
            rw [gd_true (decide_eq_true (by omega)), ih r (by omega)]
            cases h4 : tu F r with
            | none => rfl
            | some p =>
              obtain ⟨A, r1⟩ := p
              obtain ⟨a1, q, a2, a3⟩ := tu_spec _ _ _ _ h4
              have hl : r1.length < F := by rw [a2] at hF; simp at hF; omega
              simp only
              rw [a1, cond_false, ih r1 hl]
              cases h5 : tu F r1 with
              | none => rfl
              | some p2 =>
                obtain ⟨C, r2⟩ := p2
                obtain ⟨b1, _⟩ := tu_spec _ _ _ _ h5
                simp only
                rw [b1, cond_false]
      have t1 := two (c.toNat : Int)
      generalize c.toNat = n at hn t1 ⊢
      have e48 : ((n : Int) == 48) = (n == 48) := natb n 48
      have e49 : ((n : Int) == 49) = (n == 49) := natb n 49
      have e65 : ((n : Int) != 65) = !(n == 65) := natn n 65
      have e66 : ((n : Int) != 66) = !(n == 66) := natn n 66
      rw [e48, e49, e65, e66]
      cases h1 : n == 48 with
      | true => rfl
      | false =>
        cases h2 : n == 49 with
        | true => rfl
        | false =>
          simp only [cond_false, Bool.or_self]
          cases h3 : n == 65 with
          | true => exact t1
          | false =>
            cases h4 : n == 66 with
            | true => exact t1
            | false => rfl
theorem l21End_eq (N : Nat) (l : List UInt8) (hl : l.length ≤ 1048576) : ∀ (F i : Nat), l.length - i < F → i ≤ l.length → ∀ k : Int → Option β,
    spec_l21End_f N F (B l) (i : Int) k = match tu F (l.drop i) with | some (_, r) => k ((l.length - r.length : Nat) : Int) | none => k (-1) := by
  intro F
  induction F with
  | zero => intro i h; omega
  | succ F ih =>
    intro i hF hi k
    simp only [spec_l21End_f, spec_l21End_b, B_size]
    rcases Nat.lt_or_ge i l.length with hlt | hge
    · rw [decide_eq_false (show ¬ (i : Int) ≥ (l.length : Int) by omega), B_bt l i hlt, drop_at l i hlt]
      have hlen : (l.drop (i + 1)).length = l.length - (i + 1) := List.length_drop
      have g1 : decide ((0 : Int) ≤ (i : Int)) = true := decide_eq_true (by omega)
      have g2 : decide ((i : Int) < (l.length : Int)) = true := decide_eq_true (by omega)
      simp only [cond_false, g1, g2, gd, cond_true]
      rw [show w64 ((i : Int) + 1) = ((i + 1 : Nat) : Int) by rw [w64_id] <;> omega, show w64 ((i : Int) + 2) = ((i + 2 : Nat) : Int) by rw [w64_id] <;> omega]
      have leaf : (i + 1 : Nat) = l.length - (l.drop (i + 1)).length := by omega
      simp only [tu]
      have two : ∀ m : Int, (cond (decide (((i + 1 : Nat) : Int) ≥ (l.length : Int))) (k (-1)) (cond (decide ((0 : Int) ≤ ((i + 1 : Nat) : Int))) (cond (decide (((i + 1 : Nat) : Int) < (l.length : Int))) (spec_l21Digit N (bt (B l) ((i + 1 : Nat) : Int)) fun r3 =>
          cond (decide (r3 < 0)) (k (-1)) (spec_l21End_f N F (B l) ((i + 2 : Nat) : Int) fun r4 => cond (decide (r4 < 0)) (k (-1)) (spec_l21End_f N F (B l) r4 fun r5 => k r5))) none) none)) =
          match (match l.drop (i + 1) with
        | [] => none
        | d :: r => cond (decide (dig d.toNat < 0)) none (match tu F r with
          | some (A, r1) => match tu F r1 with
            | some (C, r2) => some (Tr.node m (dig d.toNat) A C, r2)
            | none => none
          | none => none)) with | some (_, r) => k ((l.length - r.length : Nat) : Int) | none => k (-1) := by
        intro m
        rcases Nat.lt_or_ge (i + 1) l.length with h1 | h1
        · rw [decide_eq_false (by omega), cond_false, decide_eq_true (by omega), cond_true, decide_eq_true (by omega), cond_true, B_bt l (i + 1) h1, drop_at l (i + 1) h1, spec_l21Digit_eq N _ (B_lt _)]
          simp only
          cases h3 : decide (dig l[i + 1].toNat < 0) with
          | true => rfl
          | false =>
            simp only [cond_false]
            rw [ih (i + 2) (by omega) (by omega)]
            cases h4 : tu F (l.drop (i + 1 + 1)) with
            | none => rfl
            | some p =>
              obtain ⟨A, r1⟩ := p
              have h4' : tu F (l.drop (i + 2)) = some (A, r1) := h4
              obtain ⟨_, q, a2, a3⟩ := tu_spec _ _ _ _ h4'
              obtain ⟨s1, s2, s3, s4⟩ := suffix_at a2 (by omega)
              simp only
              rw [decide_eq_false (by omega), cond_false, ih _ (by omega) s2, s1]
              cases tu F r1 <;> rfl
        · rw [decide_eq_true (by omega), cond_true, List.drop_eq_nil_of_le h1]
      have hn := B_lt l[i]
      have t1 := two (l[i].toNat : Int)
      generalize l[i].toNat = n at hn t1 ⊢
      have e48 : ((n : Int) == 48) = (n == 48) := natb n 48
      have e49 : ((n : Int) == 49) = (n == 49) := natb n 49
      have e65 : ((n : Int) != 65) = !(n == 65) := natn n 65
      have e66 : ((n : Int) != 66) = !(n == 66) := natn n 66
      rw [e48, e49, e65, e66]
      cases h1 : n == 48 with
      | true =>
        simp only [cond_true, Bool.true_or]
        rw [← leaf]
      | false =>
        cases h2 : n == 49 with
        | true =>
          simp only [cond_true, cond_false, Bool.or_true]
          rw [← leaf]
        | false =>
          simp only [cond_false, Bool.or_self]
          cases h3 : n == 65 with
          | true => exact t1
          | false =>
            cases h4 : n == 66 with
            | true => exact t1
            | false => rfl
    · rw [decide_eq_true (show (i : Int) ≥ (l.length : Int) by omega), cond_true, List.drop_eq_nil_of_le hge]
      rfl
def isProt (N : Nat) (l : List UInt8) : Bool := decide (l.length ≤ 100) && (match tu N l with | some (_, []) => true | _ => false)
theorem impl_IsProtocol_eq (N : Nat) (hN : 1048576 < N) (l : List UInt8) (k : Bool → Option β) : impl_IsProtocol N (B l) k = k (isProt N l) := by
  unfold impl_IsProtocol impl_wholeTurn impl_readTurn isProt
  rw [B_size]
  by_cases h : l.length ≤ 100
  · rw [decide_eq_true h, decide_eq_false (by omega), cond_false, Bool.true_and, readTurn_eq N N l (by omega)]
    cases hp : tu N l with
    | none => rfl
    | some p =>
      obtain ⟨T, r⟩ := p
      obtain ⟨a1, _⟩ := tu_spec _ _ _ _ hp
      simp only [a1, Bool.not_false, cond_true, B_nil, B_toList]
      cases r <;> rfl
  · rw [decide_eq_false h, decide_eq_true (by omega)]
    rfl
theorem spec_IsProtocol_eq (N : Nat) (hN : 1048576 < N) (l : List UInt8) (k : Bool → Option β) : spec_IsProtocol N (B l) k = k (isProt N l) := by
  unfold spec_IsProtocol isProt
  rw [B_size]
  by_cases h : l.length ≤ 100
  · rw [decide_eq_true (show (l.length : Int) ≤ 100 by omega), cond_true, decide_eq_true h, Bool.true_and]
    by_cases h0 : l.length = 0
    · have : l = [] := List.eq_nil_of_length_eq_zero h0
      subst this
      obtain ⟨M, rfl⟩ : ∃ M, N = M + 1 := ⟨N - 1, by omega⟩
      rfl
    · rw [decide_eq_true (show (l.length : Int) > 0 by omega), cond_true]
      have := fun k => l21End_eq (β := β) N l (by omega) N 0 (by omega) (by omega) k
      simp only [Int.natCast_zero, List.drop_zero] at this
      unfold spec_l21End
      rw [this]
      cases hp : tu N l with
      | none => exact congrArg k (beq_eq_false_iff_ne.2 (by omega))
      | some p =>
        obtain ⟨T, r⟩ := p
        obtain ⟨_, q, a2, _⟩ := tu_spec _ _ _ _ hp
        cases r with
        | nil => simp
        | cons c r =>
          simp only [List.length_cons]
          congr 1
          refine beq_eq_false_iff_ne.2 ?_
          have : (q ++ c :: r).length = l.length := by rw [← a2]
          simp at this
          omega
  · rw [decide_eq_false (show ¬ (l.length : Int) ≤ 100 by omega), decide_eq_false h]
    rfl
end Go.Proofs.YtignjkbhdaiegaaDoor
