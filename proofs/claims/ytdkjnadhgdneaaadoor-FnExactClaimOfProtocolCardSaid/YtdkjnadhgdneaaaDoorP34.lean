/- Plain laws of the texts: protocols: their texts. -/
import Derived.Test.YtdkjnadhgdneaaaDoorP33
namespace Go.Proofs.YtdkjnadhgdneaaaDoor
open Go.Rv
set_option linter.unusedVariables false
variable {β : Type}
theorem hexs_bt : ∀ d : Nat, d < 16 → strOf ((([] : List Int) ++ [65]) ++ [bt hexs (d : Int)]) = node 65 d ∧ strOf ((([] : List Int) ++ [66]) ++ [bt hexs (d : Int)]) = node 66 d := by decide +kernel
theorem spec_l21Hex_eq (N x : Nat) (hx : x < 16) (K : ByteArray → Option β) : spec_l21Hex N (x : Int) K = K (hexs.extract x (x + 1)) := by
  have hs : hexs.size = 16 := by decide +kernel
  have e : spec_l21Hex N (x : Int) K = gd (decide (0 ≤ w64 ((x : Int) + 1))) (gd (decide (w64 ((x : Int) + 1) ≤ (hexs.size : Int))) (gd (decide (0 ≤ (x : Int))) (gd (decide ((x : Int) ≤ w64 ((x : Int) + 1))) (K (hexs.extract (Int.toNat (x : Int)) (Int.toNat (w64 ((x : Int) + 1)))))))) := rfl
  rw [e, w64_succ x (by omega), hs, gd_true (decide_eq_true (by omega : (0 : Int) ≤ ((x + 1 : Nat) : Int))), gd_true (decide_eq_true (by omega : ((x + 1 : Nat) : Int) ≤ ((16 : Nat) : Int))), gd_true (decide_eq_true (by omega : (0 : Int) ≤ (x : Int))), gd_true (decide_eq_true (by omega : (x : Int) ≤ ((x + 1 : Nat) : Int))), Int.toNat_natCast, Int.toNat_natCast]
theorem impl_digit (N : Nat) (b : Bool) (K : ByteArray → Option β) : impl_FormatInt N ((if b then 1 else 0 : Nat) : Int) K = K (strOf [if b then 49 else 48]) := by
  cases b <;> rfl
theorem spec_digit (b : Bool) (K : ByteArray → Option β) (r : Int) (h : r = ((if b then 1 else 0 : Nat) : Int)) :
    (gd ((decide (0 ≤ (w64 (r + 1))))) ((gd ((decide ((w64 (r + 1)) ≤ (((strOf [48, 49])).size : Int)))) ((gd ((decide (0 ≤ r))) ((gd ((decide (r ≤ (w64 (r + 1))))) (K ((((strOf [48, 49])).extract (Int.toNat r) (Int.toNat (w64 (r + 1))))))))))))) = K (strOf [if b then 49 else 48]) := by
  subst h
  cases b <;> rfl
theorem size_pre : ∀ x, x < 16 → (strOf [65]).size + (hexs.extract x (x + 1)).size = 2 ∧ (strOf [66]).size + (hexs.extract x (x + 1)).size = 2 := by decide +kernel

theorem ff_first (p : Nat → Bool) (h : p 0 = false) : ff p 16 0 = ff p 15 1 := by
  show (if p 0 then some 0 else ff p 15 1) = _
  rw [h, if_neg (by decide)]

section
variable (N n w k : Nat) (hN : 64 < N) (hk : k ≤ 2) (hkn : k ≤ n) (hq : n - k ≤ 2)
include hN hk hkn hq
/-! the reference model -/
/-- What the reference model's recursion is to answer. -/
def BuildOK (N n w k : Nat) (F s : Nat) : Prop := ∀ {β : Type} (A B : Nat), A + B < s → A ≠ 0 → B ≠ 0 → A < 2 ^ 2 ^ k → B < 2 ^ 2 ^ (n - k) → ∀ K : ByteArray → Option β,
  spec_l21Build_f N F (rows w k (2 ^ (n - k)) (2 ^ k)) (A : Int) (B : Int) (need (bothOn w n k) A B : Int) K = K (bs (bothOn w n k) (isOne w n k) F A B)
theorem least_min (hN' : 64 < N) (A B b : Nat) (hA : A < 16) (hB : B < 2 ^ 2 ^ (n - k)) (hb : b ≤ 100) (hb0 : 1 ≤ b) (K : Int → Option β) :
    spec_l21Least N (rows w k (2 ^ (n - k)) (2 ^ k)) (A : Int) (B : Int) (w64 ((b : Int) - 1)) K = K ((min (need (bothOn w n k) A B) b : Nat) : Int) := by
  have h4 : 2 ^ (n - k) ≤ 4 := Nat.pow_le_pow_right (by decide) hq
  have hB16 : B < 16 := Nat.lt_of_lt_of_le hB (Nat.pow_le_pow_right (by decide) h4 : 2 ^ 2 ^ (n - k) ≤ 2 ^ 4)
  rw [show ((b : Int) - 1) = ((b - 1 : Nat) : Int) by omega, w64_nat (b - 1) (by omega)]
  unfold spec_l21Least
  rw [spec_least N n w k hN hk hkn hq N A B (b - 1) (by omega) hA hB (by omega), show b - 1 + 1 = b by omega]
theorem build_rows (F A B : Nat) (hB0 : B ≠ 0) (hA : A < 2 ^ 2 ^ k) (hB : B < 2 ^ 2 ^ (n - k)) (hA16 : A < 16) (hB16 : B < 16) (hx : bothOn w n k A B = true) (ih : BuildOK N n w k F (A + B)) (k0 : ByteArray → Option β) (k1 : List Int → Int → Int → Int → Option β) :
    ∀ (d x G : Nat), x + d = 16 → d < G → 1 ≤ x →
      spec_l21Build_l0 N (spec_l21Build_f N F) G (rows w k (2 ^ (n - k)) (2 ^ k)) (A : Int) (B : Int) (need (bothOn w n k) A B : Int) (x : Int) k0 k1 =
        match ff (rowP (bothOn w n k) A B) d x with
        | some x => k0 ((node 65 x ++ bs (bothOn w n k) (isOne w n k) F (A - x) B) ++ bs (bothOn w n k) (isOne w n k) F x B)
        | none => k1 (rows w k (2 ^ (n - k)) (2 ^ k)) (A : Int) (B : Int) (need (bothOn w n k) A B : Int) := by
  have hS := mixed_single w n k hk hkn hq
  have hpos := need_pos hA16 hB16 hx
  have hle := need_le4 hS A B hA16 hB16
  intro d
  induction d with
  | zero =>
    intro x G hx' hG h1
    obtain ⟨G, rfl⟩ : ∃ H, G = H + 1 := ⟨G - 1, by omega⟩
    simp only [spec_l21Build_l0, spec_l21Build_l0b, ff]
    rw [decide_eq_false (by omega : ¬ (x : Int) < (A : Int)), cond_false]
  | succ d ihd =>
    intro x G hx' hG h1
    obtain ⟨G, rfl⟩ : ∃ H, G = H + 1 := ⟨G - 1, by omega⟩
    simp only [spec_l21Build_l0, spec_l21Build_l0b]
    by_cases hlt : x < A
    · rw [decide_eq_true (by omega : (x : Int) < (A : Int)), cond_true, bAnd x A (by omega) (by omega), nat_beq, show ((A : Int) - (x : Int)) = ((A - x : Nat) : Int) by omega, w64_nat (A - x) (by omega), w64_succ x (by omega)]
      have hnext := ihd (x + 1) G (by omega) (by omega) (by omega)
      cases hand : (x &&& A == x) with
      | false =>
        have hp : rowP (bothOn w n k) A B x = false := by
          unfold rowP sub
          rw [hand]
          simp
        simp only [ff, hp, cond_false]
        exact hnext
      | true =>
        have hs : sub A x = true := by
          unfold sub
          rw [hand]
          simp
          omega
        have hsl := sub_lt A hA16 x (by omega) hs
        rw [cond_true, least_min N n w k hN hk hkn hq hN x B _ (by omega) hB (by omega) hpos]
        by_cases c1 : need (bothOn w n k) x B < need (bothOn w n k) A B
        · rw [decide_eq_true (by omega : ((min (need (bothOn w n k) x B) (need (bothOn w n k) A B) : Nat) : Int) < (need (bothOn w n k) A B : Int)), cond_true, least_min N n w k hN hk hkn hq hN (A - x) B _ (by omega) hB (by omega) hpos]
          by_cases c2 : need (bothOn w n k) (A - x) B < need (bothOn w n k) A B
          · have hp : rowP (bothOn w n k) A B x = true := by
              unfold rowP
              rw [hs, decide_eq_true c1, decide_eq_true c2]
              rfl
            have s1 := bs_small (bothOn w n k) (isOne w n k) F (A - x) B (by omega) hB16
            have s2 := bs_small (bothOn w n k) (isOne w n k) F x B (by omega) hB16
            have s3 := (size_pre x (by omega)).1
            rw [decide_eq_true (by omega : ((min (need (bothOn w n k) (A - x) B) (need (bothOn w n k) A B) : Nat) : Int) < (need (bothOn w n k) A B : Int)), cond_true, spec_l21Hex_eq N x (by omega), gd_true (decide_eq_true (by omega)),
              least_min N n w k hN hk hkn hq hN (A - x) B _ (by omega) hB (by omega) hpos, show min (need (bothOn w n k) (A - x) B) (need (bothOn w n k) A B) = need (bothOn w n k) (A - x) B by omega,
              ih (A - x) B (by omega) (by omega) hB0 (by omega) hB, gd_true (decide_eq_true (by simp only [size_ap]; omega)),
              least_min N n w k hN hk hkn hq hN x B _ (by omega) hB (by omega) hpos, show min (need (bothOn w n k) x B) (need (bothOn w n k) A B) = need (bothOn w n k) x B by omega,
              ih x B (by omega) (by omega) hB0 (by omega) hB, gd_true (decide_eq_true (by simp only [size_ap]; omega))]
            simp only [ff, hp, if_true]
            rfl
          · have hp : rowP (bothOn w n k) A B x = false := by
              unfold rowP
              rw [decide_eq_false c2]
              simp
            rw [decide_eq_false (by omega : ¬ ((min (need (bothOn w n k) (A - x) B) (need (bothOn w n k) A B) : Nat) : Int) < (need (bothOn w n k) A B : Int)), cond_false]
            simp only [ff, hp]
            exact hnext
        · have hp : rowP (bothOn w n k) A B x = false := by
            unfold rowP
            rw [decide_eq_false c1]
            simp
          rw [decide_eq_false (by omega : ¬ ((min (need (bothOn w n k) x B) (need (bothOn w n k) A B) : Nat) : Int) < (need (bothOn w n k) A B : Int)), cond_false]
          simp only [ff, hp]
          exact hnext
    · rw [decide_eq_false (by omega : ¬ (x : Int) < (A : Int)), cond_false, ff_none _ _ _ fun j h1 h2 => ?_]
      cases hs : rowP (bothOn w n k) A B j with
      | false => rfl
      | true =>
        unfold rowP at hs
        simp only [Bool.and_eq_true] at hs
        have := sub_lt A hA16 j (by omega) hs.1
        omega
theorem build_cols (F A B : Nat) (hA0 : A ≠ 0) (hA : A < 2 ^ 2 ^ k) (hB : B < 2 ^ 2 ^ (n - k)) (hA16 : A < 16) (hB16 : B < 16) (hx : bothOn w n k A B = true) (ih : BuildOK N n w k F (A + B)) (k0 : ByteArray → Option β) (k1 : Option β) :
    ∀ (d x G : Nat), x + d = 16 → d < G → 1 ≤ x →
      spec_l21Build_l2 N (spec_l21Build_f N F) G (rows w k (2 ^ (n - k)) (2 ^ k)) (A : Int) (B : Int) (need (bothOn w n k) A B : Int) (x : Int) k0 k1 =
        match ff (colP (bothOn w n k) A B) d x with
        | some x => k0 ((node 66 x ++ bs (bothOn w n k) (isOne w n k) F A (B - x)) ++ bs (bothOn w n k) (isOne w n k) F A x)
        | none => k1 := by
  have hS := mixed_single w n k hk hkn hq
  have hpos := need_pos hA16 hB16 hx
  have hle := need_le4 hS A B hA16 hB16
  intro d
  induction d with
  | zero =>
    intro x G hx' hG h1
    obtain ⟨G, rfl⟩ : ∃ H, G = H + 1 := ⟨G - 1, by omega⟩
    simp only [spec_l21Build_l2, spec_l21Build_l2b, ff]
    rw [decide_eq_false (by omega : ¬ (x : Int) < (B : Int)), cond_false]
  | succ d ihd =>
    intro x G hx' hG h1
    obtain ⟨G, rfl⟩ : ∃ H, G = H + 1 := ⟨G - 1, by omega⟩
    simp only [spec_l21Build_l2, spec_l21Build_l2b]
    by_cases hlt : x < B
    · rw [decide_eq_true (by omega : (x : Int) < (B : Int)), cond_true, bAnd x B (by omega) (by omega), nat_beq, show ((B : Int) - (x : Int)) = ((B - x : Nat) : Int) by omega, w64_nat (B - x) (by omega), w64_succ x (by omega)]
      have hnext := ihd (x + 1) G (by omega) (by omega) (by omega)
      cases hand : (x &&& B == x) with
      | false =>
        have hp : colP (bothOn w n k) A B x = false := by
          unfold colP sub
          rw [hand]
          simp
        simp only [ff, hp, cond_false]
        exact hnext
      | true =>
        have hs : sub B x = true := by
          unfold sub
          rw [hand]
          simp
          omega
        have hsl := sub_lt B hB16 x (by omega) hs
        rw [cond_true, least_min N n w k hN hk hkn hq hN A x _ hA16 (by omega) (by omega) hpos]
        by_cases c1 : need (bothOn w n k) A x < need (bothOn w n k) A B
        · rw [decide_eq_true (by omega : ((min (need (bothOn w n k) A x) (need (bothOn w n k) A B) : Nat) : Int) < (need (bothOn w n k) A B : Int)), cond_true, least_min N n w k hN hk hkn hq hN A (B - x) _ hA16 (by omega) (by omega) hpos]
          by_cases c2 : need (bothOn w n k) A (B - x) < need (bothOn w n k) A B
          · have hp : colP (bothOn w n k) A B x = true := by
              unfold colP
              rw [hs, decide_eq_true c1, decide_eq_true c2]
              rfl
            have s1 := bs_small (bothOn w n k) (isOne w n k) F A (B - x) hA16 (by omega)
            have s2 := bs_small (bothOn w n k) (isOne w n k) F A x hA16 (by omega)
            have s3 := (size_pre x (by omega)).2
            rw [decide_eq_true (by omega : ((min (need (bothOn w n k) A (B - x)) (need (bothOn w n k) A B) : Nat) : Int) < (need (bothOn w n k) A B : Int)), cond_true, spec_l21Hex_eq N x (by omega), gd_true (decide_eq_true (by omega)),
              least_min N n w k hN hk hkn hq hN A (B - x) _ hA16 (by omega) (by omega) hpos, show min (need (bothOn w n k) A (B - x)) (need (bothOn w n k) A B) = need (bothOn w n k) A (B - x) by omega,
              ih A (B - x) (by omega) hA0 (by omega) hA (by omega), gd_true (decide_eq_true (by simp only [size_ap]; omega)),
              least_min N n w k hN hk hkn hq hN A x _ hA16 (by omega) (by omega) hpos, show min (need (bothOn w n k) A x) (need (bothOn w n k) A B) = need (bothOn w n k) A x by omega,
              ih A x (by omega) hA0 (by omega) hA (by omega), gd_true (decide_eq_true (by simp only [size_ap]; omega))]
            simp only [ff, hp, if_true]
            rfl
          · have hp : colP (bothOn w n k) A B x = false := by
              unfold colP
              rw [decide_eq_false c2]
              simp
            rw [decide_eq_false (by omega : ¬ ((min (need (bothOn w n k) A (B - x)) (need (bothOn w n k) A B) : Nat) : Int) < (need (bothOn w n k) A B : Int)), cond_false]
            simp only [ff, hp]
            exact hnext
        · have hp : colP (bothOn w n k) A B x = false := by
            unfold colP
            rw [decide_eq_false c1]
            simp
          rw [decide_eq_false (by omega : ¬ ((min (need (bothOn w n k) A x) (need (bothOn w n k) A B) : Nat) : Int) < (need (bothOn w n k) A B : Int)), cond_false]
          simp only [ff, hp]
          exact hnext
    · rw [decide_eq_false (by omega : ¬ (x : Int) < (B : Int)), cond_false, ff_none _ _ _ fun j h1 h2 => ?_]
      cases hs : colP (bothOn w n k) A B j with
      | false => rfl
      | true =>
        unfold colP at hs
        simp only [Bool.and_eq_true] at hs
        have := sub_lt B hB16 j (by omega) hs.1
        omega
theorem spec_build (F : Nat) : BuildOK N n w k F F := by
  have h4 : 2 ^ (n - k) ≤ 4 := Nat.pow_le_pow_right (by decide) hq
  have h4k : 2 ^ k ≤ 4 := Nat.pow_le_pow_right (by decide) hk
  induction F with
  | zero => intro β A B h; omega
  | succ F ih =>
    intro β A B hAB hA0 hB0 hA hB K
    have hA16 : A < 16 := Nat.lt_of_lt_of_le hA (Nat.pow_le_pow_right (by decide) h4k : 2 ^ 2 ^ k ≤ 2 ^ 4)
    have hB16 : B < 16 := Nat.lt_of_lt_of_le hB (Nat.pow_le_pow_right (by decide) h4 : 2 ^ 2 ^ (n - k) ≤ 2 ^ 4)
    have hsv := some_value w n k A B hk hkn hq hA hB hA0 hB0
    simp only [spec_l21Build_f, spec_l21Build_b, bs]
    rw [one_eq N n w k hN hk hkn hq A B hA16 hB, enc_mixed]
    cases hx : bothOn w n k A B with
    | false =>
      rw [Bool.not_false, cond_true, if_neg (by decide)]
      exact spec_digit _ K _ (enc_value w n k A B hsv hx).1
    | true =>
      have ihs : BuildOK N n w k F (A + B) := fun A' B' h => ih A' B' (by omega)
      have z1 : rowP (bothOn w n k) A B 0 = false := rfl
      have z2 : colP (bothOn w n k) A B 0 = false := rfl
      rw [Bool.not_true, cond_false, if_pos rfl, ff_first _ z1, ff_first _ z2]
      refine Eq.trans (build_rows N n w k hN hk hkn hq F A B hB0 hA hB hA16 hB16 hx ihs _ _ 15 1 N (by omega) (by omega) (by omega)) ?_
      cases ff (rowP (bothOn w n k) A B) 15 1 with
      | some x => rfl
      | none =>
        refine Eq.trans (build_cols N n w k hN hk hkn hq F A B hA0 hA hB hA16 hB16 hx ihs _ _ 15 1 N (by omega) (by omega) (by omega)) ?_
        cases ff (colP (bothOn w n k) A B) 15 1 <;> rfl
end
end Go.Proofs.YtdkjnadhgdneaaaDoor
