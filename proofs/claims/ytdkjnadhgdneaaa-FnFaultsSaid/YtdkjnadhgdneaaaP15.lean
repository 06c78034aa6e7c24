/- Plain laws of the texts: the draws of FnFaults, its last parts. -/
import Derived.Test.YtdkjnadhgdneaaaP14
namespace Go.Proofs.Ytdkjnadhgdneaaa
open Go.Rv
set_option linter.unusedVariables false
variable {β : Type}
theorem l3Var_ends (N : Nat) (hN : 4096 < N) (b : List Int) (hb : b.length ≤ 9223372036854775807) :
    ∃ n w i : Int, w < 9223372036854775808 ∧ ∀ k : Int → Int → Int → Option β, spec_l3Var N b k = k n w i := by
  unfold spec_l3Var
  obtain ⟨h', e1⟩ := l1New_ends (β := β) N hN b hb
  obtain ⟨n, w, i1, h1, hw, p1, e2⟩ := l2Any_ends (β := β) N (by omega) b 0 h' (by decide) hb
  obtain ⟨r, i2, h2, r1, -, p2, e3⟩ := l1Below_ends (β := β) N 7 b i1 h1 (by decide) p1 hb
  exact ⟨n, w, w64 ((r : Int) - 1), hw, fun k => by rw [e1, e2, e3]⟩
theorem l9Both_ends (N : Nat) (hN : 4096 < N) (b : List Int) (hb : b.length ≤ 9223372036854775807) :
    ∃ n w i : Int, w < 9223372036854775808 ∧ ∀ k : Int → Int → Int → Option β, spec_l9Both N b k = k n w i := by
  unfold spec_l9Both
  obtain ⟨h', e1⟩ := l1New_ends (β := β) N hN b hb
  obtain ⟨n, w, i1, h1, hw, p1, e2⟩ := l2Any_ends (β := β) N (by omega) b 0 h' (by decide) hb
  obtain ⟨r, i2, h2, r1, -, p2, e3⟩ := l1Below_ends (β := β) N 18 b i1 h1 (by decide) p1 hb
  exact ⟨n, w, w64 ((r : Int) - 1), hw, fun k => by rw [e1, e2, e3]⟩
theorem DrawRestrictTable_s2_eq (s0 s1 s2 s3 : Int) (K : Option β) : spec_DrawRestrictTable_s2 s0 s1 s2 s3 K = K := by
  unfold spec_DrawRestrictTable_s2
  simp [gd]
theorem remI_len (m : Nat) (c : Nat) (hc : 0 < c) : remI (m : Int) (c : Int) = ((m % c : Nat) : Int) := by
  unfold remI
  exact (Int.ofNat_tmod m c).symm
theorem DrawRestrictTable_ends (N : Nat) (hN : 4096 < N) (b : List Int) (hb : b.length ≤ 9223372036854775807) :
    ∃ a0 a1 a2 a3 : Int, a1 < 9223372036854775808 ∧ ∀ k : Int → Int → Int → Int → Option β, spec_DrawRestrictTable N b k = k a0 a1 a2 a3 := by
  obtain ⟨n, w, i, hw, e⟩ := l3Var_ends (β := β) N hN b hb
  have h0 : decide (0 ≤ remI (b.length : Int) 6) = true := by rw [show (6 : Int) = ((6 : Nat) : Int) from rfl, remI_len _ _ (by decide)]; exact decide_eq_true (by omega)
  have h1 : decide (remI (b.length : Int) 6 < ((((((((([] : List Int) ++ [0]) ++ [1]) ++ [0]) ++ [1]) ++ [2]) ++ [(-1)])).length : Int)) = true := by
    rw [show (6 : Int) = ((6 : Nat) : Int) from rfl, remI_len _ _ (by decide)]
    have := Nat.mod_lt b.length (by decide : 0 < 6)
    exact decide_eq_true (by simp; omega)
  exact ⟨n, w, i, rd 0 ([] ++ [0] ++ [1] ++ [0] ++ [1] ++ [2] ++ [-1]) (remI (b.length : Int) 6), hw, fun k => by
    unfold spec_DrawRestrictTable
    rw [e]
    simp only [DrawRestrictTable_s2_eq, gd_true h0, gd_true h1]⟩
theorem l22Small_ends (N : Nat) (hN : 64 < N) (b : List Int) (i h : Int) (h0 : 0 ≤ i) (hb : b.length ≤ 9223372036854775807) :
    ∃ n w i' h' : Int, w < 9223372036854775808 ∧ 0 ≤ i' ∧ ∀ k0 : Int → Int → List Int → Int → Int → Option β, spec_l22Small_g0 N b i h k0 = k0 n w b i' h' := by
  unfold spec_l22Small_g0
  obtain ⟨r, i1, h1, p1, e1⟩ := l1Once_ends (β := β) N 8 b i h (by decide) h0 hb
  cases r with
  | true =>
    obtain ⟨n, w, i2, h2, hw, p2, e2⟩ := l2Any_ends (β := β) N hN b i1 h1 p1 hb
    exact ⟨n, w, i2, h2, hw, p2, fun k0 => by rw [e1, cond_true, e2]⟩
  | false =>
    obtain ⟨r, i2, h2, r1, -, p2, e2⟩ := l1Below_ends (β := β) N 4 b i1 h1 (by decide) p1 hb
    obtain ⟨w, i3, h3, hw, p3, e3⟩ := l2Draw_ends (β := β) N r hN (by have := r1 (by decide); omega) b i2 h2 p2 hb
    exact ⟨r, w, i3, h3, hw, p3, fun k0 => by rw [e1, cond_false, e2, e3]⟩
theorem DrawLeastTestSet_ends (N : Nat) (hN : 4096 < N) (b : List Int) (hb : b.length ≤ 9223372036854775807) :
    ∃ a0 a1 : Int, a1 < 9223372036854775808 ∧ ∀ k : Int → Int → Option β, spec_DrawLeastTestSet N b k = k a0 a1 := by
  unfold spec_DrawLeastTestSet
  obtain ⟨h', e1⟩ := l1New_ends (β := β) N hN b hb
  obtain ⟨n, w, i1, h1, hw, p1, e2⟩ := l22Small_ends (β := β) N (by omega) b 0 h' (by decide) hb
  exact ⟨n, w, hw, fun k => by rw [e1, e2]⟩
theorem DrawCountDetectable_ends (N : Nat) (hN : 4096 < N) (b : List Int) (hb : b.length ≤ 9223372036854775807) :
    ∃ a0 a1 : Int, a1 < 9223372036854775808 ∧ ∀ k : Int → Int → Option β, spec_DrawCountDetectable N b k = k a0 a1 := by
  unfold spec_DrawCountDetectable
  obtain ⟨h', e1⟩ := l1New_ends (β := β) N hN b hb
  obtain ⟨n, w, i1, h1, hw, p1, e2⟩ := l2Any_ends (β := β) N (by omega) b 0 h' (by decide) hb
  exact ⟨n, w, hw, fun k => by rw [e1, e2]⟩
theorem DrawIsTestSet_s6_eq (s0 s1 : Int) (s2 : List Int) (K : Option β) : spec_DrawIsTestSet_s6 s0 s1 s2 K = K := by
  unfold spec_DrawIsTestSet_s6
  simp [gd]
theorem DrawIsTestSet_ends (N : Nat) (hN : 1048576 < N) (b : List Int) (hb : b.length ≤ 9223372036854775807) :
    ∃ (a0 a1 : Int) (l : List Int), a1 < 9223372036854775808 ∧ l.length ≤ 1048576 ∧ ∀ k : Int → Int → List Int → Option β, spec_DrawIsTestSet N b k = k a0 a1 l := by
  obtain ⟨h', e1⟩ := l1New_ends (β := β) N (by omega) b hb
  obtain ⟨n, w, i1, h1, hw, p1, e2⟩ := l22Small_ends (β := β) N (by omega) b 0 h' (by decide) hb
  have three : ∀ (i h : Int), 0 ≤ i → ∃ (x y z : Int), ∀ K : List Int → Option β, (spec_l1Below_g0 N 9 b i h (fun r12_0 r12_1 r12_2 r12_3 =>
      spec_l1Below_g0 N 8 r12_1 r12_2 r12_3 (fun r13_0 r13_1 r13_2 r13_3 =>
      spec_l1Below_g0 N 8 r13_1 r13_2 r13_3 (fun r14_0 r14_1 r14_2 r14_3 =>
      K ((((([] : List Int) ++ [(w64 (r12_0 - 1))]) ++ [r13_0]) ++ [r14_0])))))) = K [x, y, z] := fun i h p => by
    obtain ⟨x, i1, h1, -, -, p1, e1⟩ := l1Below_ends (β := β) N 9 b i h (by decide) p hb
    obtain ⟨y, i2, h2, -, -, p2, e2⟩ := l1Below_ends (β := β) N 8 b i1 h1 (by decide) p1 hb
    obtain ⟨z, i3, h3, -, -, p3, e3⟩ := l1Below_ends (β := β) N 8 b i2 h2 (by decide) p2 hb
    exact ⟨_, _, _, fun K => by rw [e1, e2, e3]; rfl⟩
  have hle := leastTests_len n w
  cases hs : smallT n w 3 with
  | true =>
    obtain ⟨r, i2, h2, p2, e3⟩ := l1Once_ends (β := β) N 3 b i1 h1 (by decide) p1 hb
    cases r with
    | false => exact ⟨n, w, leastTests n w, hw, by omega, fun k => by
        unfold spec_DrawIsTestSet
        rw [e1, e2, spec_LeastTestSet_eq N hN, hs, cond_true, e3]
        rfl⟩
    | true =>
      obtain ⟨x, y, z, e4⟩ := three i2 h2 p2
      exact ⟨n, w, [x, y, z], hw, by simp, fun k => by
        unfold spec_DrawIsTestSet
        rw [e1, e2, spec_LeastTestSet_eq N hN, hs, cond_true, e3]
        simp only [DrawIsTestSet_s6_eq]
        exact e4 _⟩
  | false =>
    obtain ⟨x, y, z, e4⟩ := three i1 h1 p1
    exact ⟨n, w, [x, y, z], hw, by simp, fun k => by
      unfold spec_DrawIsTestSet
      rw [e1, e2, spec_LeastTestSet_eq N hN, hs, cond_false]
      simp only [DrawIsTestSet_s6_eq]
      exact e4 _⟩

theorem impl_StuckTable_eq (N : Nat) (hN : 64 < N) (a0 a1 a2 a3 : Int) (h1 : a1 < 9223372036854775808) (k : Int → Int → Bool → Option β) :
    impl_StuckTable N a0 a1 a2 a3 k = if isF a0 a1 a2 a3 then k a0 (stuckw a1.toNat a0.toNat a2.toNat a3.toNat : Int) true else k 0 0 false := by
  unfold impl_StuckTable
  rw [impl_hasVariable_eq N a0 a1 a2 h1]
  simp only [impl_isBit_eq]
  by_cases h : isF a0 a1 a2 a3 = true
  · rw [if_pos h]
    obtain ⟨n, w, i, b, rfl, rfl, rfl, rfl, hn, hw, hw', hi, hb⟩ := isF_nat h
    unfold isF at h
    simp only [Bool.and_eq_true] at h
    rw [isT_of hn hw, decide_eq_true (by omega : (0 : Int) ≤ (i : Int)), decide_eq_true (by omega : (i : Int) < (n : Int)), decide_eq_true (by omega : (0 : Int) ≤ (b : Int)), decide_eq_true (by omega : (b : Int) ≤ 1)]
    exact impl_Table_stuck_eq N hN n w i b hn hw' (by omega) hb _
  · rw [if_neg h]
    unfold isF at h
    cases hA : (isT a0 a1 && (decide (0 ≤ a2) && decide (a2 < a0))) with
    | false => rfl
    | true =>
      rw [hA, Bool.true_and] at h
      rw [Bool.eq_false_iff.2 h]
      rfl

/-- How many faults can be seen. -/
def countD (a0 a1 : Int) : Int := if isT a0 a1 then ((2 * (vars a1.toNat a0.toNat a0.toNat).length : Nat) : Int) else -1
theorem spec_CountDetectable_eq (N : Nat) (hN : 64 < N) (a0 a1 : Int) (k : Int → Option β) : spec_CountDetectable N a0 a1 k = k (countD a0 a1) := by
  unfold spec_CountDetectable countD
  rw [spec_IsTable_eq]
  cases ht : isT a0 a1 with
  | false => rfl
  | true =>
    obtain ⟨n, w, rfl, rfl, hn, hw, hw'⟩ := isT_nat ht
    have hl := vars_len w n n
    simp only [spec_VariablesOf_eq N hN n w hn hw, Bool.not_true, cond_false, if_true, Int.toNat_natCast]
    rw [w64_id (by omega) (by omega)]
    rfl
theorem impl_CountDetectable_eq (N : Nat) (hN : 64 < N) (a0 a1 : Int) (h1 : a1 < 9223372036854775808) (k : Int → Option β) : impl_CountDetectable N a0 a1 k = k (countD a0 a1) := by
  unfold impl_CountDetectable countD
  rw [impl_IsTable_eq N a0 a1 h1]
  cases ht : isT a0 a1 with
  | false => rfl
  | true =>
    obtain ⟨n, w, rfl, rfl, hn, hw, hw'⟩ := isT_nat ht
    simp only [Bool.not_true, cond_false, if_true, Int.toNat_natCast]
    exact count_outer (β := β) N hN n w hn hw k N 0 (by omega) (Nat.zero_le _)

theorem faults3 (N : Nat) (hN : 1048576 < N) (b : List Int) (hb : b.length ≤ 9223372036854775807) (k : Bool → Option β) :
    (spec_DrawIsTestSet N b fun r39 r40 r41 =>
    spec_DrawStuckTable N b fun r42 r43 r44 r45 =>
    impl_StuckTable N r42 r43 r44 r45 fun r46 r47 r48 =>
    spec_StuckTable N r42 r43 r44 r45 fun r49 r50 r51 =>
    spec_DrawCountDetectable N b fun r52 r53 =>
    impl_IsTestSet N r39 r40 r41 fun r54 =>
    spec_IsTestSet N r39 r40 r41 fun r55 =>
    (cond ((r54 == r55))
    ((cond (((r46 == r49) && (r47 == r50)))
    ((cond ((r48 == r51))
    (impl_CountDetectable N r52 r53 fun r56 =>
    spec_CountDetectable N r52 r53 fun r57 =>
    k ((r56 == r57)))
    (k false)))
    (k false)))
    (k false))) = k true := by
  obtain ⟨a0, a1, l, ha, hl, e1⟩ := DrawIsTestSet_ends (β := β) N hN b hb
  obtain ⟨c0, c1, c2, c3, hc, e2⟩ := DrawRestrictTable_ends (β := β) N (by omega) b hb
  obtain ⟨d0, d1, hd, e3⟩ := DrawCountDetectable_ends (β := β) N (by omega) b hb
  unfold spec_DrawStuckTable
  simp only [e1, e2, e3]
  rw [impl_StuckTable_eq N (by omega) c0 c1 c2 c3 hc]
  simp only [spec_StuckTable_eq N (by omega : 64 < N), impl_IsTestSet_eq N hN a0 a1 ha l hl, spec_IsTestSet_eq N hN a0 a1 l hl, impl_CountDetectable_eq N (by omega : 64 < N) d0 d1 hd, spec_CountDetectable_eq N (by omega : 64 < N)]
  by_cases h : isF c0 c1 c2 c3 = true
  · simp [h]
  · simp [h]

/-- How many variables matter at an input. -/
def sens (w n x : Nat) : Nat := cnt (fun i => edge w i x) n
theorem impl_sensitivity_eq (N : Nat) (hN : 64 < N) (n w x : Nat) (hn : n ≤ 5) (hw : w < 2 ^ 2 ^ n) (hx : x < 2 ^ n) (k : Int → Option β) :
    impl_Table_sensitivity N (n : Int) (w : Int) (x : Int) k = k (sens w n x : Int) := by
  have hw' := two32 hn hw
  have hs := size_le hn
  unfold impl_Table_sensitivity
  have key : ∀ (F i : Nat), n - i < F → i ≤ n → impl_Table_sensitivity_l0 N F (x : Int) (cnt (fun i => edge w i x) i : Int) (n : Int) (i : Int) (n : Int) (w : Int) k = k (sens w n x : Int) := by
    intro F
    induction F with
    | zero => intro i h; omega
    | succ F ih =>
      intro i hF hi
      have hc := cnt_le (fun i => edge w i x) i
      simp only [impl_Table_sensitivity_l0, impl_Table_sensitivity_l0b, impl_Table_changes, impl_Table_at]
      by_cases hlt : i < n
      · have hp : 2 ^ i < 2 ^ 5 := Nat.pow_lt_pow_right (by decide) (by omega)
        have hxp : x ^^^ 2 ^ i < 2 ^ 5 := Nat.xor_lt_two_pow (by omega) hp
        rw [decide_eq_true (by omega : (i : Int) < (n : Int)), decide_eq_true (by omega : (0 : Int) ≤ (x : Int)), decide_eq_true (by omega : (0 : Int) ≤ (i : Int)), shl_one i (by omega), bXor x (2 ^ i) (by omega) (by omega), decide_eq_true (by omega : (0 : Int) ≤ ((x ^^^ 2 ^ i : Nat) : Int)), bit_at w x (by omega), bit_at w _ (by omega), w64_succ i (by omega), w64_succ (cnt (fun i => edge w i x) i) (by omega)]
        simp only [cond_true, gd_true rfl]
        have e : ((((if w.testBit x then 1 else 0 : Nat) : Int)) != ((if w.testBit (x ^^^ 2 ^ i) then 1 else 0 : Nat) : Int)) = edge w i x := by
          unfold edge
          cases w.testBit x <;> cases w.testBit (x ^^^ 2 ^ i) <;> rfl
        rw [e]
        have h1 := ih (i + 1) (by omega) (by omega)
        have h2 : cnt (fun i => edge w i x) (i + 1) = cnt (fun i => edge w i x) i + (if edge w i x then 1 else 0) := rfl
        rw [h2] at h1
        cases he : edge w i x with
        | true => rw [he] at h1; exact h1
        | false => rw [he] at h1; exact h1
      · rw [decide_eq_false (by omega : ¬ (i : Int) < (n : Int)), cond_false, show i = n by omega]
        rfl
  exact key N 0 (by omega) (Nat.zero_le _)
theorem impl_SensitivityAt_eq (N : Nat) (hN : 64 < N) (a0 a1 a2 : Int) (h1 : a1 < 9223372036854775808) (k : Int → Option β) :
    impl_SensitivityAt N a0 a1 a2 k = if isIn a0 a1 a2 then k (((detectedBy a0 a1 a2).length : Nat) : Int) else k (-1) := by
  unfold impl_SensitivityAt
  rw [impl_hasInput_eq N a0 a1 a2 h1]
  by_cases h : isIn a0 a1 a2 = true
  · rw [if_pos h, h]
    unfold detectedBy
    rw [if_pos h]
    obtain ⟨n, w, x, rfl, rfl, rfl, hn, hw, -, hx⟩ := isIn_nat h
    simp only [Bool.not_true, cond_false, Int.toNat_natCast]
    rw [impl_sensitivity_eq N hN n w x hn hw hx, seen_count w n x hn hx n (Nat.le_refl _)]
    rfl
  · rw [if_neg h, Bool.eq_false_iff.2 h]
    rfl

theorem faults2 (N : Nat) (hN : 1048576 < N) (b : List Int) (hb : b.length ≤ 9223372036854775807) (k : Bool → Option β) :
    (spec_DrawDetectedBy N b fun r31 r32 r33 =>
    impl_DetectedBy N r31 r32 r33 fun r34 =>
    spec_DetectedBy N r31 r32 r33 fun r35 =>
    laws_sameInts N r34 r35 fun r36 =>
    (cond (!r36)
    (k false)
    (impl_SensitivityAt N r31 r32 r33 fun r37 =>
    (cond ((decide (r37 ≥ 0)))
    (impl_SensitivityAt N r31 r32 r33 fun r38 =>
    (cond (((r34.length : Int) != r38))
    (k false)
    (spec_DrawIsTestSet N b fun r39 r40 r41 =>
    spec_DrawStuckTable N b fun r42 r43 r44 r45 =>
    impl_StuckTable N r42 r43 r44 r45 fun r46 r47 r48 =>
    spec_StuckTable N r42 r43 r44 r45 fun r49 r50 r51 =>
    spec_DrawCountDetectable N b fun r52 r53 =>
    impl_IsTestSet N r39 r40 r41 fun r54 =>
    spec_IsTestSet N r39 r40 r41 fun r55 =>
    (cond ((r54 == r55))
    ((cond (((r46 == r49) && (r47 == r50)))
    ((cond ((r48 == r51))
    (impl_CountDetectable N r52 r53 fun r56 =>
    spec_CountDetectable N r52 r53 fun r57 =>
    k ((r56 == r57)))
    (k false)))
    (k false)))
    (k false)))))
    (spec_DrawIsTestSet N b fun r58 r59 r60 =>
    spec_DrawStuckTable N b fun r61 r62 r63 r64 =>
    impl_StuckTable N r61 r62 r63 r64 fun r65 r66 r67 =>
    spec_StuckTable N r61 r62 r63 r64 fun r68 r69 r70 =>
    spec_DrawCountDetectable N b fun r71 r72 =>
    impl_IsTestSet N r58 r59 r60 fun r73 =>
    spec_IsTestSet N r58 r59 r60 fun r74 =>
    (cond ((r73 == r74))
    ((cond (((r65 == r68) && (r66 == r69)))
    ((cond ((r67 == r70))
    (impl_CountDetectable N r71 r72 fun r75 =>
    spec_CountDetectable N r71 r72 fun r76 =>
    k ((r75 == r76)))
    (k false)))
    (k false)))
    (k false))))))) = k true := by
  simp only [faults3 N hN b hb]
  obtain ⟨a0, a1, a2, ha, e1⟩ := l9Both_ends (β := β) N (by omega) b hb
  have hl := detectedBy_len a0 a1 a2
  unfold spec_DrawDetectedBy
  simp only [e1, impl_DetectedBy_eq N (by omega : 64 < N) a0 a1 a2 ha, spec_DetectedBy_eq N (by omega : 64 < N)]
  rw [laws_sameInts_same N hN _ (by omega)]
  simp only [impl_SensitivityAt_eq N (by omega : 64 < N) a0 a1 a2 ha]
  by_cases h : isIn a0 a1 a2 = true
  · simp [h]
  · simp [h]
end Go.Proofs.Ytdkjnadhgdneaaa
