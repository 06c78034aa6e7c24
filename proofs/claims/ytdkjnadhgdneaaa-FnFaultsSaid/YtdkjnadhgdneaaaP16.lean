/- Plain laws of the texts: FnFaults. -/
import Derived.Test.YtdkjnadhgdneaaaP15
namespace Go.Proofs.Ytdkjnadhgdneaaa
open Go.Rv
set_option linter.unusedVariables false
variable {β : Type}
theorem shows_iff (w n s : Nat) : ∀ c i, shows w n s i c = true ↔ ∀ j, i ≤ j → j < i + c → blinds w n s j = false
  | 0, i => by simp only [shows, true_iff]; intro j h1 h2; omega
  | c + 1, i => by
    simp only [shows, Bool.and_eq_true, Bool.not_eq_true', shows_iff w n s c (i + 1)]
    constructor
    · rintro ⟨h1, h2⟩ j h3 h4
      by_cases e : j = i
      · subst e; exact h1
      · exact h2 j (by omega) (by omega)
    · exact fun h => ⟨h i (by omega) (by omega), fun j h1 h2 => h j (by omega) (by omega)⟩
theorem blind_full (w n i b : Nat) (hw : w < 2 ^ 2 ^ n) : blind w n (2 ^ 2 ^ n - 1) i b = false := by
  unfold blind
  have hd : w ^^^ stuckw w n i b < 2 ^ 2 ^ n := Nat.xor_lt_two_pow hw (stuckw_lt w n i b)
  rw [Nat.and_two_pow_sub_one_eq_mod, Nat.mod_eq_of_lt hd]
  cases h : (w ^^^ stuckw w n i b) == 0 <;> simp [bne, h]
theorem lts_shows (w n : Nat) (hw : w < 2 ^ 2 ^ n) : ∀ s, shows w n (lts w n s) 0 n = true
  | 0 => (shows_iff w n _ n 0).2 fun j _ _ => by simp only [lts, blinds, blind_full w n j _ hw, Bool.or_self]
  | s + 1 => by
    simp only [lts]
    split
    · rename_i h
      exact (Bool.and_eq_true _ _ ▸ h).2
    · exact lts_shows w n hw s
theorem ones_full : ∀ n, n ≤ 3 → 0 < ones (2 ^ 2 ^ n - 1) := by decide +kernel
theorem lts_zero (w n : Nat) (hn : n ≤ 3) (h : shows w n 0 0 n = true) : ∀ s, lts w n (s + 1) = 0
  | 0 => by
    have e : lts w n 1 = if decide (ones 0 < ones (2 ^ 2 ^ n - 1)) && shows w n 0 0 n then 0 else 2 ^ 2 ^ n - 1 := rfl
    rw [e, h, decide_eq_true (show ones 0 < ones (2 ^ 2 ^ n - 1) from ones_full n hn)]
    rfl
  | s + 1 => by
    rw [lts, lts_zero w n hn h s, if_neg]
    simp only [Bool.and_eq_true, decide_eq_true_eq, not_and]
    intro h1
    exact absurd h1 (Nat.not_lt_zero _)
theorem dep_const : ∀ n, n ≤ 3 → ∀ w, w < 2 ^ 2 ^ n → ((∀ i, i < n → dep w n i = false) ↔ (w == 0 || w == 2 ^ 2 ^ n - 1) = true) := by decide +kernel
theorem dep_d (w n i b : Nat) (hn : n ≤ 5) (hi : i < n) (hb : b < 2) (hw : w < 2 ^ 2 ^ n) : (w ^^^ stuckw w n i b != 0) = dep w n i := by
  rw [← detects w n i b hn hi hb hw]
  show (w ^^^ stuckw w n i b != 0) = (((w ^^^ stuckw w n i b : Nat) : Int) != 0)
  generalize w ^^^ stuckw w n i b = m
  cases m <;> rfl
theorem blind_zero (w n i b : Nat) (hn : n ≤ 5) (hi : i < n) (hb : b < 2) (hw : w < 2 ^ 2 ^ n) : blind w n 0 i b = dep w n i := by
  unfold blind
  rw [dep_d w n i b hn hi hb hw, Nat.and_zero]
  simp
theorem shows_zero (w n : Nat) (hn : n ≤ 3) (hw : w < 2 ^ 2 ^ n) : shows w n 0 0 n = (w == 0 || w == 2 ^ 2 ^ n - 1) := by
  rw [Bool.eq_iff_iff, ← dep_const n hn w hw, shows_iff]
  constructor
  · intro h i hi
    have := h i (Nat.zero_le _) (by omega)
    simpa [blinds, blind_zero w n i _ (by omega) hi _ hw] using this
  · intro h i _ hi
    have := h i (by omega)
    simp [blinds, blind_zero w n i _ (by omega : n ≤ 5) (by omega : i < n) _ hw, this]

theorem elems_nil (d : Nat) (hd : d < 4294967296) (h : elems d 32 = []) : d = 0 := by
  apply Nat.eq_of_testBit_eq
  intro x
  rw [Nat.zero_testBit]
  by_cases hx : x < 32
  · cases hb : d.testBit x with
    | false => rfl
    | true =>
      have := (elems_mem d 32 (x : Int)).2 ⟨x, rfl, hx, hb⟩
      rw [h] at this
      cases this
  · exact Nat.testBit_lt_two_pow (Nat.lt_of_lt_of_le hd (Nat.pow_le_pow_right (by decide : 0 < 2) (by omega : 32 ≤ x)))
theorem add_elems : ∀ S, S < 256 → addAll 0 (elems S 32) = S := by decide +kernel

theorem impl_IsConstant_eq (N n w : Nat) (hn : n ≤ 3) (hw : w < 2 ^ 2 ^ n) (k : Bool → Option β) : impl_IsConstant N (n : Int) (w : Int) k = k (w == 0 || w == 2 ^ 2 ^ n - 1) := by
  have hs := size_le (by omega : n ≤ 5)
  have hp := pow_small hn
  have hpos := Nat.two_pow_pos (2 ^ n)
  unfold impl_IsConstant impl_Table_isSame impl_Table_not impl_Table_size
  rw [impl_IsTable_eq N _ _ (by omega), isT_of (by omega) hw, cond_true]
  have e0 : ((w : Int) == 0) = (w == 0) := by cases w <;> rfl
  rw [e0]
  cases h : w == 0 with
  | true => rfl
  | false =>
    rw [cond_false, decide_eq_true (by omega : (0 : Int) ≤ (n : Int)), gd_true rfl, shl_one n (by omega)]
    show gd (decide ((0 : Int) ≤ ((2 ^ n : Nat) : Int))) (k (bits .xor .i64 (w : Int) (w64 (shlI .i64 1 ((2 ^ n : Nat) : Int) - 1)) == 0)) = _
    rw [gd_true (decide_eq_true (Int.natCast_nonneg (2 ^ n))), shl_one (2 ^ n) (by omega)]
    rw [show (((2 ^ 2 ^ n : Nat) : Int) - 1) = ((2 ^ 2 ^ n - 1 : Nat) : Int) by omega, w64_id (by omega) (by omega), bXor w (2 ^ 2 ^ n - 1) (by omega) (by omega)]
    rw [Bool.false_or]
    congr 1
    rw [Bool.eq_iff_iff, beq_iff_eq, beq_iff_eq]
    constructor
    · intro e
      have e : w ^^^ (2 ^ 2 ^ n - 1) = 0 := by omega
      have h2 := xor_self_cancel w (2 ^ 2 ^ n - 1)
      rw [e, Nat.zero_xor] at h2
      exact h2.symm
    · intro e
      rw [← e, Nat.xor_self]
      rfl

/-- Whether some input of a list shows a fault. -/
def anyD (n w : Nat) (t : List Int) (k : Int) : Bool := t.any fun x => (detectedBy (n : Int) (w : Int) x).contains k
theorem faults_inner (N : Nat) (hN : 1048576 < N) (n w : Nat) (hw : w < 4294967296) (t b : List Int) (ht : t.length ≤ 32) (c k : Int) (k0 : List Int → Int → Int → Bool → Int → Int → List Int → Option β) :
    ∀ (d F j : Nat) (v : Bool), j + d = t.length → d < F → laws_FnFaults_l4 N F b c k v (j : Int) (n : Int) (w : Int) t k0 = k0 b c k (v || anyD n w (t.drop j) k) n w t := by
  intro d
  induction d with
  | zero =>
    intro F j v hj hF
    obtain ⟨F, rfl⟩ : ∃ G, F = G + 1 := ⟨F - 1, by omega⟩
    simp only [laws_FnFaults_l4, laws_FnFaults_l4b]
    rw [decide_eq_false (by omega : ¬ (j : Int) < (t.length : Int)), cond_false, List.drop_eq_nil_of_le (by omega)]
    simp [anyD]
  | succ d ih =>
    intro F j v hj hF
    obtain ⟨F, rfl⟩ : ∃ G, F = G + 1 := ⟨F - 1, by omega⟩
    have hlt : j < t.length := by omega
    simp only [laws_FnFaults_l4, laws_FnFaults_l4b]
    rw [decide_eq_true (by omega : (j : Int) < (t.length : Int)), cond_true, w64_succ j (by omega), gd_true (decide_eq_true (by omega : (0 : Int) ≤ (j : Int))), gd_true rfl, rd_nat 0 t j hlt, List.drop_eq_getElem_cons hlt]
    have hl := detectedBy_len (n : Int) (w : Int) t[j]
    cases v with
    | true =>
      rw [cond_true, ih F (j + 1) true (by omega) (by omega)]
      simp
    | false =>
      rw [cond_false, impl_DetectedBy_eq N (by omega) _ _ _ (by omega)]
      rw [laws_has_eq N hN _ _ (by omega), ih F (j + 1) _ (by omega) (by omega), Bool.false_or]
      rfl
theorem faults_outer (N : Nat) (hN : 1048576 < N) (n w : Nat) (hn : n ≤ 5) (hw : w < 4294967296) (t b : List Int) (ht : t.length ≤ 32) (k0 : List Int → Int → Int → Int → List Int → Option β) :
    ∀ (d F k : Nat), k + d = 2 * n → d < F → laws_FnFaults_l2 N F b (cnt (fun k => anyD n w t (k : Int)) k : Int) (k : Int) (n : Int) (w : Int) t k0 = k0 b (cnt (fun k => anyD n w t (k : Int)) (2 * n) : Int) n w t := by
  intro d
  induction d with
  | zero =>
    intro F k hk hF
    obtain ⟨F, rfl⟩ : ∃ G, F = G + 1 := ⟨F - 1, by omega⟩
    simp only [laws_FnFaults_l2, laws_FnFaults_l2b]
    rw [show (2 : Int) * (n : Int) = ((2 * n : Nat) : Int) by omega, w64_id (by omega) (by omega), decide_eq_false (by omega : ¬ (k : Int) < ((2 * n : Nat) : Int)), cond_false, show k = 2 * n by omega]
  | succ d ih =>
    intro F k hk hF
    obtain ⟨F, rfl⟩ : ∃ G, F = G + 1 := ⟨F - 1, by omega⟩
    have hc := cnt_le (fun k => anyD n w t (k : Int)) k
    simp only [laws_FnFaults_l2, laws_FnFaults_l2b]
    rw [show (2 : Int) * (n : Int) = ((2 * n : Nat) : Int) by omega, w64_id (by omega) (by omega), decide_eq_true (by omega : (k : Int) < ((2 * n : Nat) : Int)), cond_true]
    have e := faults_inner (β := β) N hN n w hw t b ht (cnt (fun k => anyD n w t (k : Int)) k : Int) (k : Int) (fun e26_0 e26_1 e26_2 e26_3 e26_4 e26_5 e26_6 =>
      (cond e26_3
      (laws_FnFaults_l2 N F e26_0 ((w64 (e26_1 + 1))) ((w64 (e26_2 + 1))) e26_4 e26_5 e26_6 k0)
      (laws_FnFaults_l2 N F e26_0 e26_1 ((w64 (e26_2 + 1))) e26_4 e26_5 e26_6 k0))) t.length N 0 false (by omega) (by omega)
    rw [Int.natCast_zero] at e
    rw [e, List.drop_zero, Bool.false_or, w64_succ k (by omega), w64_succ (cnt (fun k => anyD n w t (k : Int)) k) (by omega)]
    have h1 := ih F (k + 1) (by omega) (by omega)
    have h2 : cnt (fun k => anyD n w t (k : Int)) (k + 1) = cnt (fun k => anyD n w t (k : Int)) k + (if anyD n w t (k : Int) then 1 else 0) := rfl
    rw [h2] at h1
    cases he : anyD n w t (k : Int) with
    | true => rw [he] at h1; exact h1
    | false => rw [he] at h1; exact h1

theorem det_mem (n w x i b : Nat) (hn : n ≤ 5) (hw : w < 2 ^ 2 ^ n) (hx : x < 2 ^ n) (hi : i < n) (hb : b < 2) : (detectedBy (n : Int) (w : Int) (x : Int)).contains ((2 * i + b : Nat) : Int) = sees w n x i b := by
  unfold detectedBy
  have hin : isIn (n : Int) (w : Int) (x : Int) = true := by
    rw [isIn_n n w hn hw]
    simp only [Bool.and_eq_true, decide_eq_true_eq]
    omega
  rw [if_pos hin, Bool.eq_iff_iff, List.contains_iff_mem]
  simp only [Int.toNat_natCast]
  exact seen_mem w n x n i b hi hb

theorem anyD_dep (n w S i b : Nat) (hn : n ≤ 3) (hw : w < 2 ^ 2 ^ n) (hS : S < 2 ^ 2 ^ n) (hsh : shows w n S 0 n = true) (hi : i < n) (hb : b < 2) : anyD n w (elems S 32) ((2 * i + b : Nat) : Int) = dep w n i := by
  have hd : w ^^^ stuckw w n i b < 2 ^ 2 ^ n := Nat.xor_lt_two_pow hw (stuckw_lt w n i b)
  have hs := size_le (by omega : n ≤ 5)
  have small : ∀ m x : Nat, m < 2 ^ 2 ^ n → m.testBit x = true → x < 2 ^ n := fun m x hm hb => by
    rcases Nat.lt_or_ge x (2 ^ n) with h | h
    · exact h
    · rw [Nat.testBit_lt_two_pow (Nat.lt_of_lt_of_le hm (Nat.pow_le_pow_right (by decide) h))] at hb
      cases hb
  rw [← dep_d w n i b (by omega) hi hb hw, Bool.eq_iff_iff]
  unfold anyD
  rw [List.any_eq_true, bne_iff_ne]
  constructor
  · rintro ⟨u, hu, hc⟩ h0
    obtain ⟨x, rfl, hx, hbit⟩ := (elems_mem S 32 u).1 hu
    rw [det_mem n w x i b (by omega) hw (small S x hS hbit) hi hb] at hc
    have : (w ^^^ stuckw w n i b).testBit x = true := hc
    rw [h0, Nat.zero_testBit] at this
    cases this
  · intro h0
    have hbl := (shows_iff w n S n 0).1 hsh i (Nat.zero_le _) (by omega)
    have hbl2 : blind w n S i b = false := by
      have hb' : b = 0 ∨ b = 1 := by omega
      simp only [blinds, Bool.or_eq_false_iff] at hbl
      rcases hb' with rfl | rfl
      · exact hbl.1
      · exact hbl.2
    have hne : (w ^^^ stuckw w n i b) &&& S ≠ 0 := by
      intro e
      unfold blind at hbl2
      rw [e, bne_iff_ne.2 h0] at hbl2
      simp at hbl2
    obtain ⟨x, hx⟩ := Nat.exists_testBit_of_ne_zero hne
    rw [Nat.testBit_and, Bool.and_eq_true] at hx
    have hlt := small S x hS hx.2
    exact ⟨(x : Int), (elems_mem S 32 _).2 ⟨x, rfl, by omega, hx.2⟩, by rw [det_mem n w x i b (by omega) hw hlt hi hb]; exact hx.1⟩

theorem cnt_vars (n w : Nat) (g : Nat → Bool) : ∀ m, (∀ i b, i < m → b < 2 → g (2 * i + b) = dep w n i) → cnt g (2 * m) = 2 * (vars w n m).length
  | 0, _ => rfl
  | m + 1, h => by
    have ih := cnt_vars n w g m fun i b hi hb => h i b (by omega) hb
    have e0 := h m 0 (by omega) (by decide)
    have e1 := h m 1 (by omega) (by decide)
    rw [Nat.add_zero] at e0
    rw [show 2 * (m + 1) = 2 * m + 1 + 1 by omega, cnt, cnt, ih, e0, e1, vars_succ]
    cases dep w n m <;> simp <;> omega

theorem faults1 (N : Nat) (hN : 1048576 < N) (b : List Int) (hb : b.length ≤ 9223372036854775807) (k : Bool → Option β) :
    (spec_DrawLeastTestSet N b fun r17 r18 =>
    impl_LeastTestSet N r17 r18 fun r19 r20 =>
    spec_LeastTestSet N r17 r18 fun r21 r22 =>
    (cond ((!(r20 == r22)))
    (k false)
    (laws_sameInts N r19 r21 fun r23 =>
    (cond (!r23)
    (k false)
    ((cond r20
    (laws_FnFaults_l2 N  N b 0 0 r17 r18 r21 (fun e27_0 e27_1 e27_2 e27_3 e27_4 =>
    impl_IsTestSet N e27_2 e27_3 e27_4 fun r28 =>
    (cond (!r28)
    (k false)
    (impl_CountDetectable N e27_2 e27_3 fun r29 =>
    (cond ((e27_1 != r29))
    (k false)
    (impl_IsConstant N e27_2 e27_3 fun r30 =>
    (cond ((!(((e27_4.length : Int) == 0) == r30)))
    (k false)
    (spec_DrawDetectedBy N e27_0 fun r31 r32 r33 =>
    impl_DetectedBy N r31 r32 r33 fun r34 =>
    spec_DetectedBy N r31 r32 r33 fun r35 =>
    laws_sameInts N r34 r35 fun r36 =>
    (cond (!r36)
    (k false)
    (impl_SensitivityAt N r31 r32 r33 fun r37 =>
    (cond ((decide (r37 ≥ 0)))
    (impl_SensitivityAt N r31 r32 r33 fun r38 =>
    (cond (((r34.length : Int) != r38))
    (k false)
    (spec_DrawIsTestSet N e27_0 fun r39 r40 r41 =>
    spec_DrawStuckTable N e27_0 fun r42 r43 r44 r45 =>
    impl_StuckTable N r42 r43 r44 r45 fun r46 r47 r48 =>
    spec_StuckTable N r42 r43 r44 r45 fun r49 r50 r51 =>
    spec_DrawCountDetectable N e27_0 fun r52 r53 =>
    impl_IsTestSet N r39 r40 r41 fun r54 =>
    spec_IsTestSet N r39 r40 r41 fun r55 =>
    (cond ((r54 == r55))
    ((cond (((r46 == r49) && (r47 == r50)))
    ((cond ((r48 == r51))
    (impl_CountDetectable N r52 r53 fun r56 =>
    spec_CountDetectable N r52 r53 fun r57 =>
    k ((r56 == r57)))
    (k false)))
    (k false)))
    (k false)))))
    (spec_DrawIsTestSet N e27_0 fun r58 r59 r60 =>
    spec_DrawStuckTable N e27_0 fun r61 r62 r63 r64 =>
    impl_StuckTable N r61 r62 r63 r64 fun r65 r66 r67 =>
    spec_StuckTable N r61 r62 r63 r64 fun r68 r69 r70 =>
    spec_DrawCountDetectable N e27_0 fun r71 r72 =>
    impl_IsTestSet N r58 r59 r60 fun r73 =>
    spec_IsTestSet N r58 r59 r60 fun r74 =>
    (cond ((r73 == r74))
    ((cond (((r65 == r68) && (r66 == r69)))
    ((cond ((r67 == r70))
    (impl_CountDetectable N r71 r72 fun r75 =>
    spec_CountDetectable N r71 r72 fun r76 =>
    k ((r75 == r76)))
    (k false)))
    (k false)))
    (k false))))))))))))))
    (spec_DrawDetectedBy N b fun r77 r78 r79 =>
    impl_DetectedBy N r77 r78 r79 fun r80 =>
    spec_DetectedBy N r77 r78 r79 fun r81 =>
    laws_sameInts N r80 r81 fun r82 =>
    (cond (!r82)
    (k false)
    (impl_SensitivityAt N r77 r78 r79 fun r83 =>
    (cond ((decide (r83 ≥ 0)))
    (impl_SensitivityAt N r77 r78 r79 fun r84 =>
    (cond (((r80.length : Int) != r84))
    (k false)
    (spec_DrawIsTestSet N b fun r85 r86 r87 =>
    spec_DrawStuckTable N b fun r88 r89 r90 r91 =>
    impl_StuckTable N r88 r89 r90 r91 fun r92 r93 r94 =>
    spec_StuckTable N r88 r89 r90 r91 fun r95 r96 r97 =>
    spec_DrawCountDetectable N b fun r98 r99 =>
    impl_IsTestSet N r85 r86 r87 fun r100 =>
    spec_IsTestSet N r85 r86 r87 fun r101 =>
    (cond ((r100 == r101))
    ((cond (((r92 == r95) && (r93 == r96)))
    ((cond ((r94 == r97))
    (impl_CountDetectable N r98 r99 fun r102 =>
    spec_CountDetectable N r98 r99 fun r103 =>
    k ((r102 == r103)))
    (k false)))
    (k false)))
    (k false)))))
    (spec_DrawIsTestSet N b fun r104 r105 r106 =>
    spec_DrawStuckTable N b fun r107 r108 r109 r110 =>
    impl_StuckTable N r107 r108 r109 r110 fun r111 r112 r113 =>
    spec_StuckTable N r107 r108 r109 r110 fun r114 r115 r116 =>
    spec_DrawCountDetectable N b fun r117 r118 =>
    impl_IsTestSet N r104 r105 r106 fun r119 =>
    spec_IsTestSet N r104 r105 r106 fun r120 =>
    (cond ((r119 == r120))
    ((cond (((r111 == r114) && (r112 == r115)))
    ((cond ((r113 == r116))
    (impl_CountDetectable N r117 r118 fun r121 =>
    spec_CountDetectable N r117 r118 fun r122 =>
    k ((r121 == r122)))
    (k false)))
    (k false)))
    (k false))))))))))))) = k true := by
  simp only [faults2 N hN b hb]
  obtain ⟨a0, a1, ha, e1⟩ := DrawLeastTestSet_ends (β := β) N (by omega) b hb
  have hl := leastTests_len a0 a1
  simp only [e1, impl_LeastTestSet_eq N hN a0 a1 ha, spec_LeastTestSet_eq N hN]
  rw [laws_sameInts_same N hN _ (by omega)]
  simp only [beq_self_eq_true, Bool.not_true, cond_false]
  cases hsm : smallT a0 a1 3 with
  | false => rfl
  | true =>
    rw [cond_true]
    unfold smallT at hsm
    simp only [Bool.and_eq_true, decide_eq_true_eq] at hsm
    obtain ⟨hT, h3⟩ := hsm
    obtain ⟨n, w, rfl, rfl, hn, hw, hw'⟩ := isT_nat hT
    have hn3 : n ≤ 3 := by omega
    have hp := pow_small hn3
    have hpos := Nat.two_pow_pos (2 ^ n)
    have hlt : leastTests (n : Int) (w : Int) = elems (lts w n (2 ^ 2 ^ n - 1)) 32 := by
      unfold leastTests smallT
      rw [hT, decide_eq_true h3]
      simp
    have hS := lts_le w n (2 ^ 2 ^ n - 1) (by omega)
    have hsh := lts_shows w n hw (2 ^ 2 ^ n - 1)
    have hz : ((lts w n (2 ^ 2 ^ n - 1)) == 0) = (w == 0 || w == 2 ^ 2 ^ n - 1) := by
      rw [← shows_zero w n hn3 hw, Bool.eq_iff_iff, beq_iff_eq]
      constructor
      · intro h
        rw [h] at hsh
        exact hsh
      · intro h
        have hp2 : 2 ≤ 2 ^ 2 ^ n := Nat.le_trans (by decide : 2 ≤ 2 ^ 1) (Nat.pow_le_pow_right (by decide) (Nat.two_pow_pos n))
        have := lts_zero w n hn3 h (2 ^ 2 ^ n - 2)
        rw [show 2 ^ 2 ^ n - 2 + 1 = 2 ^ 2 ^ n - 1 by omega] at this
        exact this
    rw [hlt]
    rw [hlt] at hl
    generalize lts w n (2 ^ 2 ^ n - 1) = S at hS hsh hz hl
    have eo := fun k0 => faults_outer (β := β) N hN n w hn hw' (elems S 32) b hl k0 (2 * n) N 0 (by omega) (by omega)
    simp only [cnt, Int.natCast_zero] at eo
    rw [eo]
    have hcnt : cnt (fun k => anyD n w (elems S 32) (k : Int)) (2 * n) = 2 * (vars w n n).length := cnt_vars n w _ n fun i b hi hb => anyD_dep n w S i b hn3 hw (by omega) hsh hi hb
    have hts : testSet (n : Int) (w : Int) (elems S 32) = true := by
      unfold testSet
      simp only [Int.toNat_natCast]
      rw [add_elems S (by omega), hsh, hT, Bool.and_self, Bool.and_true, List.all_eq_true]
      intro u hu
      obtain ⟨x, rfl, hx, hbit⟩ := (elems_mem S 32 u).1 hu
      have hx2 : x < 2 ^ n := by
        rcases Nat.lt_or_ge x (2 ^ n) with h | h
        · exact h
        · rw [Nat.testBit_lt_two_pow (Nat.lt_of_lt_of_le (by omega : S < 2 ^ 2 ^ n) (Nat.pow_le_pow_right (by decide) h))] at hbit
          cases hbit
      rw [isIn_n n w hn hw]
      simp only [Bool.and_eq_true, decide_eq_true_eq]
      omega
    rw [impl_IsTestSet_eq N hN _ _ (by omega) _ (by omega), hts, Bool.not_true, cond_false, impl_CountDetectable_eq N (by omega) _ _ (by omega)]
    have hcd : countD (n : Int) (w : Int) = ((2 * (vars w n n).length : Nat) : Int) := by
      unfold countD
      rw [if_pos hT]
      rfl
    rw [hcd, hcnt, bne_self_eq_false, cond_false, impl_IsConstant_eq N n w hn3 hw, ← hz]
    have hlen : ((((elems S 32).length : Nat) : Int) == 0) = (S == 0) := by
      rw [Bool.eq_iff_iff, beq_iff_eq, beq_iff_eq]
      constructor
      · intro h
        exact elems_nil S (by omega) (List.eq_nil_of_length_eq_zero (by omega))
      · intro h
        subst h
        rfl
    rw [hlen]
    simp only [beq_self_eq_true, Bool.not_true, cond_false]
    exact faults2 N hN b hb k

theorem faults_seen (N : Nat) (hN : 1048576 < N) (n w i c : Nat) (hn : n ≤ 5) (hw : w < 2 ^ 2 ^ n) (hi : i < n) (hc : c < 2) (b : List Int) (k0 : Bool → Option β) (k1 : List Int → Option β) (l : List Int) (hl : ∀ u ∈ l, ∃ x : Nat, u = x ∧ x < 2 ^ n ∧ sees w n x i c = true) (hlen : l.length ≤ 32) :
    ∀ (d F j : Nat), j + d = l.length → d < F → laws_FnFaults_l0 N F b (i : Int) (c : Int) (j : Int) (n : Int) (w : Int) l k0 k1 = k1 b := by
  have hw' := two32 hn hw
  have hs := size_le hn
  intro d
  induction d with
  | zero =>
    intro F j hj hF
    obtain ⟨F, rfl⟩ : ∃ G, F = G + 1 := ⟨F - 1, by omega⟩
    simp only [laws_FnFaults_l0, laws_FnFaults_l0b]
    rw [decide_eq_false (by omega : ¬ (j : Int) < (l.length : Int)), cond_false]
  | succ d ih =>
    intro F j hj hF
    obtain ⟨F, rfl⟩ : ∃ G, F = G + 1 := ⟨F - 1, by omega⟩
    have hlt : j < l.length := by omega
    simp only [laws_FnFaults_l0, laws_FnFaults_l0b]
    rw [decide_eq_true (by omega : (j : Int) < (l.length : Int)), cond_true, w64_succ j (by omega)]
    simp only [gd_true (decide_eq_true (by omega : (0 : Int) ≤ (j : Int))), gd_true (decide_eq_true (by omega : (0 : Int) ≤ (i : Int))), gd_true (rfl : true = true)]
    rw [rd_nat 0 l j hlt]
    obtain ⟨x, hx, hx2, hsee⟩ := hl l[j] (List.getElem_mem hlt)
    rw [hx]
    have hdl := detectedBy_len (n : Int) (w : Int) (x : Int)
    have hm := det_mem n w x i c hn hw hx2 hi hc
    have e2 : w64 (w64 (2 * (i : Int)) + (c : Int)) = ((2 * i + c : Nat) : Int) := by
      rw [w64_id (x := 2 * (i : Int)) (by omega) (by omega), w64_id (by omega) (by omega)]
      omega
    rw [impl_DetectedBy_eq N (by omega) _ _ _ (by omega), laws_has_eq N hN _ _ (by omega), e2, hm, hsee, Bool.not_true, cond_false]
    rw [bit_at x i (by omega)]
    have hbit : ((((if x.testBit i then 1 else 0 : Nat) : Int)) == (c : Int)) = false := by
      rw [sees_eq w n x i c hn hi hc hx2] at hsee
      have hc' : c = 0 ∨ c = 1 := by omega
      rcases hc' with rfl | rfl
      · cases hb : x.testBit i
        · rw [hb] at hsee; simp at hsee
        · rfl
      · cases hb : x.testBit i
        · rfl
        · rw [hb] at hsee; simp at hsee
    rw [hbit, cond_false]
    exact ih F (j + 1) (by omega) (by omega)

theorem law_FnFaults (N : Nat) (hN : 1048576 < N) (b : List Int) (hb : (b.length : Int) ≤ 9223372036854775807) (k : Bool → Option β) : laws_FnFaults N b k = k true := by
  have hb' : b.length ≤ 9223372036854775807 := by omega
  unfold laws_FnFaults laws_big
  generalize decide ((b.length : Int) > 1048576) = big
  cases big with
  | true => rfl
  | false =>
    simp only [cond_false]
    simp only [faults1 N hN b hb']
    obtain ⟨a0, a1, a2, a3, ha, e1⟩ := DrawRestrictTable_ends (β := β) N (by omega) b hb'
    have hl := detInputs_len a0 a1 a2 a3
    unfold spec_DrawDetectingInputs
    simp only [e1, impl_DetectingInputs_eq N (by omega : 64 < N) a0 a1 a2 a3 ha, spec_DetectingInputs_eq N (by omega : 64 < N)]
    rw [laws_sameInts_same N hN _ (by omega)]
    simp only [beq_self_eq_true, Bool.not_true, cond_false]
    by_cases h : isF a0 a1 a2 a3 = true
    · rw [h, cond_true]
      unfold impl_InfluenceOf
      rw [impl_hasVariable_eq N a0 a1 a2 ha]
      have hv : (isT a0 a1 && (decide (0 ≤ a2) && decide (a2 < a0))) = true := by
        unfold isF at h
        exact (Bool.and_eq_true _ _ ▸ h).1
      rw [hv, Bool.not_true, cond_false]
      obtain ⟨n, w, i, c, rfl, rfl, rfl, rfl, hn, hw, hw', hi, hc⟩ := isF_nat h
      have hdi : detInputs (n : Int) (w : Int) (i : Int) (c : Int) = elems (w ^^^ stuckw w n i c) 32 := by
        unfold detInputs
        rw [if_pos h]
        rfl
      rw [hdi] at hl
      rw [impl_influence_eq N (by omega) n w i hn hi hw, hdi, infl_half w n i c hn hi hc hw, show (2 : Int) * (((elems (w ^^^ stuckw w n i c) 32).length : Nat) : Int) = ((2 * (elems (w ^^^ stuckw w n i c) 32).length : Nat) : Int) by omega, w64_id (by omega) (by omega)]
      simp only [bne_self_eq_false, cond_false]
      have hd : w ^^^ stuckw w n i c < 2 ^ 2 ^ n := Nat.xor_lt_two_pow hw (stuckw_lt w n i c)
      have e2 := fun k0 k1 => faults_seen (β := β) N hN n w i c hn hw hi hc b k0 k1 (elems (w ^^^ stuckw w n i c) 32) (fun u hu => by
        obtain ⟨x, rfl, hx, hbit⟩ := (elems_mem _ 32 u).1 hu
        refine ⟨x, rfl, ?_, hbit⟩
        rcases Nat.lt_or_ge x (2 ^ n) with h | h
        · exact h
        · rw [Nat.testBit_lt_two_pow (Nat.lt_of_lt_of_le hd (Nat.pow_le_pow_right (by decide) h))] at hbit
          cases hbit) hl _ N 0 (Nat.zero_add _) (by omega)
      simp only [Int.natCast_zero] at e2
      rw [e2]
      exact faults1 N hN b hb' k
    · rw [Bool.eq_false_iff.2 h]
      rfl
end Go.Proofs.Ytdkjnadhgdneaaa
