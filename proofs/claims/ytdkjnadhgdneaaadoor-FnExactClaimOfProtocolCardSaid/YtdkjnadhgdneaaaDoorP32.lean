/- Plain laws of the texts: protocols: the reference model's least number of bits. -/
import Derived.Test.YtdkjnadhgdneaaaDoorP31
namespace Go.Proofs.YtdkjnadhgdneaaaDoor
open Go.Rv
set_option linter.unusedVariables false
variable {β : Type}
theorem mnI_nat1 (a b : Nat) : mnI (a : Int) (b : Int) = ((min a b : Nat) : Int) := by unfold mnI; split <;> omega
theorem mxI_nat1 (a b : Nat) : mxI (a : Int) (b : Int) = ((max a b : Nat) : Int) := by unfold mxI; split <;> omega

theorem next_low : ∀ A, A < 16 → ∀ x, x < 16 → x ≠ 0 → x ≤ A → (x - 1) &&& A < x ∧ ((x - 1) &&& A = 0 ∨ sub A ((x - 1) &&& A) = true) := by decide +kernel
set_option synthInstance.maxHeartbeats 1000000 in
set_option synthInstance.maxSize 2000 in
theorem next_all1 : ∀ A, A < 16 → ∀ x, x < 16 → ∀ y, y < 16 → (x &&& A == x && sub A y) = true → y < x → y ≤ (x - 1) &&& A := by decide +kernel
theorem next_all (A : Nat) (hA : A < 16) (x : Nat) (hx : x < 16) (he : x &&& A = x) (y : Nat) (hy : y < 16) (hs : sub A y = true) (hlt : y < x) : y ≤ (x - 1) &&& A :=
  next_all1 A hA x hx y hy (by rw [he, hs, Bool.and_true]; exact beq_self_eq_true x) hlt
theorem sub_and {A x : Nat} (h : sub A x = true) : x &&& A = x := by
  simp only [sub, Bool.and_eq_true, bne_iff_ne, beq_iff_eq] at h
  exact h.2.2

/-- The values of the greater halves above x. -/
def upS (A : Nat) (val : Nat → Nat) (x v : Nat) : Prop := ∃ y, x < y ∧ y < 16 ∧ sub A y = true ∧ A - y ≤ y ∧ v = val y
theorem up_step (A : Nat) (hA : A < 16) (val : Nat → Nat) (x : Nat) (hx : x < 16) (hs : sub A x = true) (v : Nat) : upS A val ((x - 1) &&& A) v ↔ upS A val x v ∨ (A - x ≤ x ∧ v = val x) := by
  have hlt := sub_lt A hA x hx hs
  have hn := next_low A hA x hx (by omega) (by omega)
  constructor
  · rintro ⟨y, h1, h2, h3, h4, h5⟩
    by_cases e : y = x
    · subst e; exact .inr ⟨h4, h5⟩
    · refine .inl ⟨y, ?_, h2, h3, h4, h5⟩
      by_cases hlt : y < x
      · have := next_all A hA x hx (sub_and hs) y h2 h3 hlt; omega
      · omega
  · rintro (⟨y, h1, h2, h3, h4, h5⟩ | ⟨h4, h5⟩)
    · exact ⟨y, by omega, h2, h3, h4, h5⟩
    · exact ⟨x, hn.1, hx, hs, h4, h5⟩
theorem up_start (A : Nat) (hA : A < 16) (val : Nat → Nat) (v : Nat) : ¬ upS A val ((A - 1) &&& A) v := by
  rintro ⟨y, h1, h2, h3, h4, h5⟩
  have hlt := sub_lt A hA y h2 h3
  have := next_all A hA A hA (Nat.and_self A) y h2 h3 hlt.1
  omega
theorem up_zero (A : Nat) (hA : A < 16) (val : Nat → Nat) (hsym : ∀ y, y < 16 → sub A y = true → val (A - y) = val y) (v : Nat) : upS A val 0 v ↔ ∃ y, y < 16 ∧ sub A y = true ∧ v = val y := by
  constructor
  · rintro ⟨y, h1, h2, h3, h4, h5⟩
    exact ⟨y, h2, h3, h5⟩
  · rintro ⟨y, h2, h3, h5⟩
    have hlt := sub_lt A hA y h2 h3
    by_cases h4 : A - y ≤ y
    · exact ⟨y, by omega, h2, h3, h4, h5⟩
    · exact ⟨A - y, by omega, by omega, hlt.2.2.2.2.1, by omega, by rw [hsym y h2 h3]; exact h5⟩
theorem isMin_skip {b0 b u : Nat} {S : Nat → Prop} (h : IsMin b0 S b) (hu : b ≤ u) : IsMin b0 (fun v => S v ∨ v = u) b := by
  have := isMin_add h u
  rwa [Nat.min_eq_left hu] at this

section
variable (N n w k : Nat) (hN : 64 < N) (hk : k ≤ 2) (hkn : k ≤ n) (hq : n - k ≤ 2)
include hN hk hkn hq
theorem one_eq (A B : Nat) (hA : A < 16) (hB : B < 2 ^ 2 ^ (n - k)) (K : Int → Option β) :
    spec_l21One N (rows w k (2 ^ (n - k)) (2 ^ k)) (A : Int) (B : Int) K = K (enc (hx w k A B false (2 ^ n) 0) (hx w k A B true (2 ^ n) 0)) := by
  have h4 : 2 ^ (n - k) ≤ 4 := Nat.pow_le_pow_right (by decide) hq
  have h4k : 2 ^ k ≤ 4 := Nat.pow_le_pow_right (by decide) hk
  have hB16 : B < 16 := Nat.lt_of_lt_of_le hB (Nat.pow_le_pow_right (by decide) h4 : 2 ^ 2 ^ (n - k) ≤ 2 ^ 4)
  rw [spec_l21One_eq N hN _ A B (mrow w k (2 ^ (n - k))) hA hB16 (by rw [rows_len]; omega) (fun i hi => ⟨rows_rd _ _ _ _ _ (by rwa [rows_len] at hi), mrow_lt _ _ _ _ h4⟩), rows_len, scan_eq w n k A B hk hkn hq hB, scan_eq w n k A B hk hkn hq hB]
omit hN hk hkn hq in
theorem mixed_ne (A B : Nat) (h : bothOn w n k A B = true) : A ≠ 0 ∧ B ≠ 0 := by
  unfold bothOn at h
  simp only [Bool.and_eq_true, hx_iff] at h
  obtain ⟨⟨x, _, _, h1, h2, _⟩, _⟩ := h
  constructor
  · intro e; rw [e, Nat.zero_testBit] at h1; cases h1
  · intro e; rw [e, Nat.zero_testBit] at h2; cases h2

/-- What the recursion is to answer. -/
def LeastOK (N n w k : Nat) (F s : Nat) : Prop := ∀ {β : Type} (A B b : Nat), A + B < s → A < 16 → B < 2 ^ 2 ^ (n - k) → b ≤ 100 → ∀ K : Int → Option β,
  spec_l21Least_f N F (rows w k (2 ^ (n - k)) (2 ^ k)) (A : Int) (B : Int) (b : Int) K = K ((min (need (bothOn w n k) A B) (b + 1) : Nat) : Int)

omit hN hk hkn hq in
theorem row_loop (F A B : Nat) (hA : A < 16) (hB : B < 2 ^ 2 ^ (n - k)) (b : Nat) (hb : b ≤ 100) (ih : LeastOK N n w k F (A + B)) (k0 : Int → Option β) (k1 : List Int → Int → Int → Int → Option β) :
    ∀ (x G best : Nat), x < G → x < 16 → (x = 0 ∨ sub A x = true) → 2 ≤ best → IsMin (b + 1) (upS A (rowV (bothOn w n k) A B) x) best →
      spec_l21Least_l0 N (spec_l21Least_f N F) G (rows w k (2 ^ (n - k)) (2 ^ k)) (A : Int) (B : Int) (best : Int) (x : Int) k0 k1 =
        cond (qmin (b + 1) (sub A) (rowV (bothOn w n k) A B) 16 == 1) (k0 1) (k1 (rows w k (2 ^ (n - k)) (2 ^ k)) (A : Int) (B : Int) (qmin (b + 1) (sub A) (rowV (bothOn w n k) A B) 16 : Int)) := by
  intro x
  have hfull := qmin_isMin (b + 1) (sub A) (rowV (bothOn w n k) A B) 16
  have hsym : ∀ y, y < 16 → sub A y = true → rowV (bothOn w n k) A B (A - y) = rowV (bothOn w n k) A B y := fun y hy hs => by
    unfold rowV
    rw [(sub_lt A hA y hy hs).2.2.2.2.2, Nat.max_comm]
  induction x using Nat.strongRecOn with
  | ind x ihx =>
    intro G best hG hx' hs hb2 hm
    obtain ⟨G, rfl⟩ : ∃ H, G = H + 1 := ⟨G - 1, by omega⟩
    have hle := hm.le
    simp only [spec_l21Least_l0, spec_l21Least_l0b]
    rcases hs with rfl | hs
    · rw [decide_eq_false (by omega : ¬ ((0 : Nat) : Int) > 0), cond_false]
      have e := isMin_unique (isMin_congr hm (up_zero A hA _ hsym)) hfull
      rw [← e, show (best == 1) = false by simp; omega, cond_false]
    · have hlt := sub_lt A hA x hx' hs
      have hn := next_low A hA x hx' (by omega) (by omega)
      have hup := up_step A hA (rowV (bothOn w n k) A B) x hx' hs
      have e1 : ((A : Int) - (x : Int)) = ((A - x : Nat) : Int) := by omega
      rw [decide_eq_true (by omega : (x : Int) > 0), cond_true]
      rw [show ((x : Int) - 1) = ((x - 1 : Nat) : Int) by omega, w64_nat (x - 1) (by omega), bAnd (x - 1) A (by omega) (by omega), e1, w64_nat (A - x) (by omega), show ((best : Int) - 2) = ((best - 2 : Nat) : Int) by omega, w64_nat (best - 2) (by omega)]
      by_cases hskip : x < A - x
      · rw [decide_eq_true (by omega : (x : Int) < ((A - x : Nat) : Int)), cond_true]
        refine ihx _ hn.1 G best (by omega) (by omega) hn.2 hb2 (isMin_congr hm fun v => ?_)
        rw [hup]
        constructor
        · exact .inl
        · rintro (h | h)
          · exact h
          · omega
      · rw [decide_eq_false (by omega : ¬ (x : Int) < ((A - x : Nat) : Int)), cond_false, ih x B (best - 2) (by omega) hx' hB (by omega)]
        have hadd : IsMin (b + 1) (upS A (rowV (bothOn w n k) A B) ((x - 1) &&& A)) (min best (rowV (bothOn w n k) A B x)) := isMin_congr (isMin_add hm (rowV (bothOn w n k) A B x)) fun v => by
          rw [hup]
          constructor
          · rintro (h | h)
            · exact .inl h
            · exact .inr ⟨by omega, h⟩
          · rintro (h | ⟨_, h⟩)
            · exact .inl h
            · exact .inr h
        have e2 : w64 (1 + ((min (need (bothOn w n k) x B) (best - 2 + 1) : Nat) : Int)) = ((min (1 + need (bothOn w n k) x B) best : Nat) : Int) := by
          rw [w64_id] <;> omega
        rw [e2]
        by_cases hmore : 1 + need (bothOn w n k) x B < best
        · rw [decide_eq_true (by omega : ((min (1 + need (bothOn w n k) x B) best : Nat) : Int) < (best : Int)), cond_true, ih (A - x) B (best - 2) (by omega) (by omega) hB (by omega)]
          have e3 : w64 (1 + ((min (need (bothOn w n k) (A - x) B) (best - 2 + 1) : Nat) : Int)) = ((min (1 + need (bothOn w n k) (A - x) B) best : Nat) : Int) := by
            rw [w64_id] <;> omega
          have e4 : min best (max (min (1 + need (bothOn w n k) x B) best) (min (1 + need (bothOn w n k) (A - x) B) best)) = min best (rowV (bothOn w n k) A B x) := by
            unfold rowV; omega
          rw [e3, mxI_nat1, mnI_nat1, e4]
          by_cases h1 : min best (rowV (bothOn w n k) A B x) = 1
          · have hq1 : qmin (b + 1) (sub A) (rowV (bothOn w n k) A B) 16 = 1 := by
              have hup1 : qmin (b + 1) (sub A) (rowV (bothOn w n k) A B) 16 ≤ min best (rowV (bothOn w n k) A B x) := by
                refine Nat.le_min.2 ⟨?_, hfull.all _ ⟨x, hx', hs, rfl⟩⟩
                rcases hm.one with e | ⟨y, _, hy, hsy, _, e⟩
                · rw [e]; exact hfull.le
                · exact hfull.all _ ⟨y, hy, hsy, e⟩
              rcases hfull.one with e | ⟨y, _, _, e⟩
              · omega
              · unfold rowV at e hup1 ⊢; omega
            rw [h1, hq1]
            rfl
          · rw [show (((min best (rowV (bothOn w n k) A B x) : Nat) : Int) == 1) = false by simp only [beq_eq_false_iff_ne, ne_eq]; omega, cond_false]
            refine ihx _ hn.1 G _ (by omega) (by omega) hn.2 ?_ hadd
            unfold rowV at h1 ⊢
            omega
        · have e5 : min best (rowV (bothOn w n k) A B x) = best := by unfold rowV; omega
          rw [decide_eq_false (by omega : ¬ ((min (1 + need (bothOn w n k) x B) best : Nat) : Int) < (best : Int)), cond_false, show ((best : Int) == 1) = false by simp only [beq_eq_false_iff_ne, ne_eq]; omega, cond_false]
          rw [e5] at hadd
          exact ihx _ hn.1 G best (by omega) (by omega) hn.2 hb2 hadd

omit hN hk hkn in
theorem col_loop (F A B : Nat) (hA : A < 16) (hB : B < 2 ^ 2 ^ (n - k)) (b : Nat) (hb : b ≤ 101) (ih : LeastOK N n w k F (A + B)) (k0 : Int → Option β) :
    ∀ (x G best : Nat), x < G → x < 16 → (x = 0 ∨ sub B x = true) → 1 ≤ best → IsMin b (upS B (colV (bothOn w n k) A B) x) best →
      spec_l21Least_l2 N (spec_l21Least_f N F) G (rows w k (2 ^ (n - k)) (2 ^ k)) (A : Int) (B : Int) (best : Int) (x : Int) k0 =
        k0 (qmin b (sub B) (colV (bothOn w n k) A B) 16 : Int) := by
  intro x
  have h4 : 2 ^ (n - k) ≤ 4 := Nat.pow_le_pow_right (by decide) hq
  have hB16 : B < 16 := Nat.lt_of_lt_of_le hB (Nat.pow_le_pow_right (by decide) h4 : 2 ^ 2 ^ (n - k) ≤ 2 ^ 4)
  have hfull := qmin_isMin b (sub B) (colV (bothOn w n k) A B) 16
  have hsym : ∀ y, y < 16 → sub B y = true → colV (bothOn w n k) A B (B - y) = colV (bothOn w n k) A B y := fun y hy hs => by
    unfold colV
    rw [(sub_lt B hB16 y hy hs).2.2.2.2.2, Nat.max_comm]
  induction x using Nat.strongRecOn with
  | ind x ihx =>
    intro G best hG hx' hs hb2 hm
    obtain ⟨G, rfl⟩ : ∃ H, G = H + 1 := ⟨G - 1, by omega⟩
    have hle := hm.le
    simp only [spec_l21Least_l2, spec_l21Least_l2b]
    rcases hs with rfl | hs
    · rw [decide_eq_false (by omega : ¬ ((0 : Nat) : Int) > 0), cond_false]
      have e := isMin_unique (isMin_congr hm (up_zero B hB16 _ hsym)) hfull
      rw [← e]
    · have hlt := sub_lt B hB16 x hx' hs
      have hn := next_low B hB16 x hx' (by omega) (by omega)
      have hup := up_step B hB16 (colV (bothOn w n k) A B) x hx' hs
      have e1 : ((B : Int) - (x : Int)) = ((B - x : Nat) : Int) := by omega
      rw [decide_eq_true (by omega : (x : Int) > 0), cond_true]
      rw [show ((x : Int) - 1) = ((x - 1 : Nat) : Int) by omega, w64_nat (x - 1) (by omega), bAnd (x - 1) B (by omega) (by omega), e1, w64_nat (B - x) (by omega)]
      by_cases hskip : x < B - x
      · rw [decide_eq_true (by omega : (x : Int) < ((B - x : Nat) : Int)), cond_true]
        refine ihx _ hn.1 G best (by omega) (by omega) hn.2 hb2 (isMin_congr hm fun v => ?_)
        rw [hup]
        constructor
        · exact .inl
        · rintro (h | h)
          · exact h
          · omega
      · rw [decide_eq_false (by omega : ¬ (x : Int) < ((B - x : Nat) : Int)), cond_false]
        have hadd : IsMin b (upS B (colV (bothOn w n k) A B) ((x - 1) &&& B)) (min best (colV (bothOn w n k) A B x)) := isMin_congr (isMin_add hm (colV (bothOn w n k) A B x)) fun v => by
          rw [hup]
          constructor
          · rintro (h | h)
            · exact .inl h
            · exact .inr ⟨by omega, h⟩
          · rintro (h | ⟨_, h⟩)
            · exact .inl h
            · exact .inr h
        by_cases h1 : best = 1
        · rw [h1, show (((1 : Nat) : Int) == 1) = true from rfl, cond_true]
          rw [show min best (colV (bothOn w n k) A B x) = 1 by unfold colV; omega] at hadd
          exact ihx _ hn.1 G 1 (by omega) (by omega) hn.2 (by omega) hadd
        · rw [show ((best : Int) == 1) = false by simp only [beq_eq_false_iff_ne, ne_eq]; omega, cond_false, show ((best : Int) - 2) = ((best - 2 : Nat) : Int) by omega, w64_nat (best - 2) (by omega), ih A x (best - 2) (by omega) hA (by omega) (by omega)]
          have e2 : w64 (1 + ((min (need (bothOn w n k) A x) (best - 2 + 1) : Nat) : Int)) = ((min (1 + need (bothOn w n k) A x) best : Nat) : Int) := by
            rw [w64_id] <;> omega
          rw [e2]
          by_cases hmore : 1 + need (bothOn w n k) A x < best
          · rw [decide_eq_true (by omega : ((min (1 + need (bothOn w n k) A x) best : Nat) : Int) < (best : Int)), cond_true, ih A (B - x) (best - 2) (by omega) hA (by omega) (by omega)]
            have e3 : w64 (1 + ((min (need (bothOn w n k) A (B - x)) (best - 2 + 1) : Nat) : Int)) = ((min (1 + need (bothOn w n k) A (B - x)) best : Nat) : Int) := by
              rw [w64_id] <;> omega
            have e4 : min best (max (min (1 + need (bothOn w n k) A x) best) (min (1 + need (bothOn w n k) A (B - x)) best)) = min best (colV (bothOn w n k) A B x) := by
              unfold colV; omega
            rw [e3, mxI_nat1, mnI_nat1, e4]
            refine ihx _ hn.1 G _ (by omega) (by omega) hn.2 ?_ hadd
            unfold colV
            omega
          · have e5 : min best (colV (bothOn w n k) A B x) = best := by unfold colV; omega
            rw [decide_eq_false (by omega : ¬ ((min (1 + need (bothOn w n k) A x) best : Nat) : Int) < (best : Int)), cond_false]
            rw [e5] at hadd
            exact ihx _ hn.1 G best (by omega) (by omega) hn.2 hb2 hadd

theorem spec_least (F : Nat) : LeastOK N n w k F F := by
  have h4 : 2 ^ (n - k) ≤ 4 := Nat.pow_le_pow_right (by decide) hq
  induction F with
  | zero => intro β A B b h; omega
  | succ F ih =>
    intro β A B b hAB hA hB hb K
    have hB16 : B < 16 := Nat.lt_of_lt_of_le hB (Nat.pow_le_pow_right (by decide) h4 : 2 ^ 2 ^ (n - k) ≤ 2 ^ 4)
    have hS := mixed_single w n k hk hkn hq
    simp only [spec_l21Least_f, spec_l21Least_b]
    rw [one_eq N n w k hN hk hkn hq A B hA hB, enc_mixed]
    cases hx : bothOn w n k A B with
    | false =>
      rw [Bool.not_false, cond_true, need_eq _ A B hA hB16, hx, if_neg (by decide), Nat.zero_min]
      rfl
    | true =>
      have hpos := need_pos hA hB16 hx
      have hne := mixed_ne n w k A B hx
      rw [Bool.not_true, cond_false]
      by_cases h0 : b = 0
      · subst h0
        rw [show (((0 : Nat) : Int) == 0) = true from rfl, cond_true, show min (need (bothOn w n k) A B) (0 + 1) = 1 by omega]
        rfl
      · rw [show ((b : Int) == 0) = false by simp only [beq_eq_false_iff_ne, ne_eq]; omega, cond_false, show ((A : Int) - 1) = ((A - 1 : Nat) : Int) by omega, w64_nat (A - 1) (by omega), bAnd (A - 1) A (by omega) (by omega), w64_succ b (by omega)]
        have ihs : LeastOK N n w k F (A + B) := fun A' B' b' h => ih A' B' b' (by omega)
        have na := next_low A hA A hA hne.1 (Nat.le_refl _)
        have nb := next_low B hB16 B hB16 hne.2 (Nat.le_refl _)
        have hrow := row_loop (β := β) N n w k F A B hA hB b hb ihs (fun e8_0 => K e8_0) (fun e9_0 e9_1 e9_2 e9_3 => spec_l21Least_l2 N (spec_l21Least_f N F) N e9_0 e9_1 e9_2 e9_3 ((bits .and .i64 (w64 (e9_2 - 1)) e9_2)) (fun e12_0 => K e12_0))
          ((A - 1) &&& A) N (b + 1) (by omega) (by omega) na.2 (by omega) ⟨Nat.le_refl _, fun v hv => absurd hv (up_start A hA _ v), .inl rfl⟩
        refine Eq.trans hrow ?_
        have hj := isMin_join (qmin_isMin (b + 1) (sub A) (rowV (bothOn w n k) A B) 16) (qmin_isMin (qmin (b + 1) (sub A) (rowV (bothOn w n k) A B) 16) (sub B) (colV (bothOn w n k) A B) 16)
        have hval := least_eq hS hA hB16 hx (b + 1) hj
        have hqle : qmin (b + 1) (sub A) (rowV (bothOn w n k) A B) 16 ≤ b + 1 := (qmin_isMin (b + 1) (sub A) (rowV (bothOn w n k) A B) 16).le
        have hqpos : 1 ≤ qmin (b + 1) (sub A) (rowV (bothOn w n k) A B) 16 := by
          rcases (qmin_isMin (b + 1) (sub A) (rowV (bothOn w n k) A B) 16).one with e | ⟨y, _, _, e⟩
          · omega
          · unfold rowV at e ⊢; omega
        cases hone : qmin (b + 1) (sub A) (rowV (bothOn w n k) A B) 16 == 1 with
        | true =>
          have hone : qmin (b + 1) (sub A) (rowV (bothOn w n k) A B) 16 = 1 := by simpa using hone
          have hle := (qmin_isMin (qmin (b + 1) (sub A) (rowV (bothOn w n k) A B) 16) (sub B) (colV (bothOn w n k) A B) 16).le
          rw [cond_true, show min (need (bothOn w n k) A B) (b + 1) = 1 by omega]
          rfl
        | false =>
          rw [cond_false]
          show spec_l21Least_l2 N (spec_l21Least_f N F) N _ _ _ _ (bits .and .i64 (w64 ((B : Int) - 1)) (B : Int)) _ = _
          rw [show ((B : Int) - 1) = ((B - 1 : Nat) : Int) by omega, w64_nat (B - 1) (by omega), bAnd (B - 1) B (by omega) (by omega)]
          refine Eq.trans (col_loop (β := β) N n w k hq F A B hA hB _ (by omega) ihs _ ((B - 1) &&& B) N _ (by omega) (by omega) nb.2 hqpos ⟨Nat.le_refl _, fun v hv => absurd hv (up_start B hB16 _ v), .inl rfl⟩) ?_
          rw [hval]
end
end Go.Proofs.YtdkjnadhgdneaaaDoor
