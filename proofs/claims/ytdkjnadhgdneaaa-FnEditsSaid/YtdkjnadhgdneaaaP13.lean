/- Plain law of the texts: FnEdits. -/
import Derived.Test.YtdkjnadhgdneaaaP12
namespace Go.Proofs.Ytdkjnadhgdneaaa
open Go.Rv

variable {β : Type}
theorem pc_zero : ∀ f, pc f 0 = 0
  | 0 => rfl
  | f + 1 => by simp only [pc]; rw [show 0 / 2 = 0 from rfl, pc_zero f]
theorem ones_pow (x : Nat) (hx : x < 32) : ones (2 ^ x) = 1 := by
  have h := ones_flip 0 x hx
  rw [Nat.zero_xor] at h
  have h0 : ones 0 = 0 := pc_zero 32
  rw [h0] at h
  simpa using h
theorem impl_DistanceBetween_flip (N n w x : Nat) (hn : n ≤ 5) (hw : w < 2 ^ 2 ^ n) (hx : x < 2 ^ n) (k : Int → Option β) :
    impl_DistanceBetween N (n : Int) (w : Int) (n : Int) ((w ^^^ 2 ^ x : Nat) : Int) k = k 1 := by
  have hs := size_le hn
  have hp : 2 ^ 2 ^ n ≤ 4294967296 := Nat.le_trans (Nat.pow_le_pow_right (by decide) hs) (by decide)
  have hx2 : 2 ^ x < 2 ^ 2 ^ n := Nat.pow_lt_pow_right (by decide) hx
  have hw2 : w ^^^ 2 ^ x < 2 ^ 2 ^ n := Nat.xor_lt_two_pow hw hx2
  have hb : (!((n : Int) == (n : Int))) = false := by simp
  unfold impl_DistanceBetween impl_areTables
  rw [impl_IsTable_eq N _ _ (by omega), isT_of hn hw, cond_true, impl_IsTable_eq N _ _ (by omega), isT_of hn hw2, cond_true, bXor _ _ (by omega) (by omega),
    show w ^^^ (w ^^^ 2 ^ x) = 2 ^ x by rw [← Nat.xor_assoc, Nat.xor_self, Nat.zero_xor]]
  show cond (!((n : Int) == (n : Int))) _ _ = _
  rw [hb, cond_false, impl_ones_eq N _ (by omega), ones_pow x (by omega)]
  rfl

theorem EqualKept_refl (N : Nat) (hN : 1048576 < N) (a b c : Int) (l : List Int) (hl : l.length ≤ 1048576) (k : Bool → Option β) : spec_EqualKept N a b c l a b c l k = k true := by
  rw [spec_EqualKept_eq N a b c l a b c l hl hN]
  simp

theorem flips_one (w x : Nat) : flips w [(x : Int)] = w ^^^ 2 ^ x := rfl

theorem law_FnEdits (N : Nat) (hN : 1048576 < N) (b : List Int) (hb : (b.length : Int) ≤ 9223372036854775807) (k : Bool → Option β) : laws_FnEdits N b k = k true := by
  have hb' : b.length ≤ 9223372036854775807 := by omega
  have tail : ∀ K : Option β, K = (spec_DrawFlipAll N b fun r33 r34 r35 r36 r37 =>
      impl_FlipAll N r33 r34 r35 r36 r37 fun r38 r39 r40 r41 r42 =>
      spec_FlipAll N r33 r34 r35 r36 r37 fun r43 r44 r45 r46 r47 =>
      spec_DrawIsKept N b fun r48 r49 r50 r51 =>
      spec_DrawNewKept N b fun r52 r53 =>
      impl_NewKept N r52 r53 fun r54 r55 r56 r57 r58 =>
      spec_NewKept N r52 r53 fun r59 r60 r61 r62 r63 =>
      spec_DrawEqualKept_g0 N b (fun r64_0 r64_1 r64_2 r64_3 r64_4 r64_5 r64_6 =>
      (cond ((r42 == r47))
      (spec_EqualKept N r38 r39 r40 r41 r43 r44 r45 r46 fun r65 =>
      (cond r65
      ((cond (!r42)
      (impl_IsKept N r48 r49 r50 r51 fun r66 =>
      spec_IsKept N r48 r49 r50 r51 fun r67 =>
      (cond ((r66 == r67))
      ((cond ((r58 == r63))
      (spec_EqualKept N r54 r55 r56 r57 r59 r60 r61 r62 fun r68 =>
      (cond r68
      (impl_EqualKept N r64_0 r64_1 r64_2 r64_6 r64_3 r64_4 r64_5 r64_6 fun r69 =>
      spec_EqualKept N r64_0 r64_1 r64_2 r64_6 r64_3 r64_4 r64_5 r64_6 fun r70 =>
      k ((r69 == r70)))
      (k false)))
      (k false)))
      (k false)))
      (impl_IsKept N r43 r44 r45 r46 fun r71 =>
      (cond r71
      (impl_IsKept N r48 r49 r50 r51 fun r72 =>
      spec_IsKept N r48 r49 r50 r51 fun r73 =>
      (cond ((r72 == r73))
      ((cond ((r58 == r63))
      (spec_EqualKept N r54 r55 r56 r57 r59 r60 r61 r62 fun r74 =>
      (cond r74
      (impl_EqualKept N r64_0 r64_1 r64_2 r64_6 r64_3 r64_4 r64_5 r64_6 fun r75 =>
      spec_EqualKept N r64_0 r64_1 r64_2 r64_6 r64_3 r64_4 r64_5 r64_6 fun r76 =>
      k ((r75 == r76)))
      (k false)))
      (k false)))
      (k false)))
      (k false)))))
      (k false)))
      (k false))) (fun r77_0 r77_1 r77_2 r77_3 r77_4 r77_5 r77_6 r77_7 =>
      (cond ((r42 == r47))
      (spec_EqualKept N r38 r39 r40 r41 r43 r44 r45 r46 fun r78 =>
      (cond r78
      ((cond (!r42)
      (impl_IsKept N r48 r49 r50 r51 fun r79 =>
      spec_IsKept N r48 r49 r50 r51 fun r80 =>
      (cond ((r79 == r80))
      ((cond ((r58 == r63))
      (spec_EqualKept N r54 r55 r56 r57 r59 r60 r61 r62 fun r81 =>
      (cond r81
      (impl_EqualKept N r77_0 r77_1 r77_2 r77_6 r77_3 r77_4 r77_5 r77_7 fun r82 =>
      spec_EqualKept N r77_0 r77_1 r77_2 r77_6 r77_3 r77_4 r77_5 r77_7 fun r83 =>
      k ((r82 == r83)))
      (k false)))
      (k false)))
      (k false)))
      (impl_IsKept N r43 r44 r45 r46 fun r84 =>
      (cond r84
      (impl_IsKept N r48 r49 r50 r51 fun r85 =>
      spec_IsKept N r48 r49 r50 r51 fun r86 =>
      (cond ((r85 == r86))
      ((cond ((r58 == r63))
      (spec_EqualKept N r54 r55 r56 r57 r59 r60 r61 r62 fun r87 =>
      (cond r87
      (impl_EqualKept N r77_0 r77_1 r77_2 r77_6 r77_3 r77_4 r77_5 r77_7 fun r88 =>
      spec_EqualKept N r77_0 r77_1 r77_2 r77_6 r77_3 r77_4 r77_5 r77_7 fun r89 =>
      k ((r88 == r89)))
      (k false)))
      (k false)))
      (k false)))
      (k false)))))
      (k false)))
      (k false)))) → K = k true := by
    intro K hK
    rw [hK]
    clear hK K
    obtain ⟨a0, a1, a2, l, m, h1, hl, hm, e1⟩ := DrawFlipAll_ends (β := β) N (by omega) b hb'
    obtain ⟨c0, c1, c2, p, hc1, hp, e2⟩ := DrawIsKept_ends (β := β) N (by omega) b hb'
    obtain ⟨d0, d1, hd1, e3⟩ := DrawNewKept_ends (β := β) N (by omega) b hb'
    have hkl := keptList_len d0 d1
    have e4 := fun k => impl_FlipAll_eq (β := β) N hN a0 a1 a2 h1 l m (by omega) k
    have e5 := fun k => spec_FlipAll_eq (β := β) N hN a0 a1 a2 l m (by omega) k
    have e6 := fun k => impl_IsKept_eq (β := β) N hN c0 c1 c2 hc1 p (by omega) k
    have e7 := fun k => spec_IsKept_eq (β := β) N hN c0 c1 c2 p (by omega) k
    have e8 := fun k => impl_NewKept_eq (β := β) N (by omega) d0 d1 hd1 k
    have e9 := fun k => spec_NewKept_eq (β := β) N (by omega) d0 d1 k
    have e10 := fun k => EqualKept_refl (β := β) N hN (ifT d0 d1 d0) (ifT d0 d1 d1) (keptOnes d0 d1) (keptList d0 d1) (by omega) k
    have both : ∀ (x0 x1 x2 y0 y1 y2 : Int) (u v : List Int), u.length ≤ 5 → (impl_EqualKept N x0 x1 x2 u y0 y1 y2 v fun r82 => spec_EqualKept N x0 x1 x2 u y0 y1 y2 v fun r83 => k (r82 == r83)) = k true := fun x0 x1 x2 y0 y1 y2 u v hu => by
      rw [impl_EqualKept_eq N _ _ _ _ _ _ _ _ (by omega) hN, spec_EqualKept_eq N _ _ _ _ _ _ _ _ (by omega) hN]
      simp
    cases hf : flipsOK a0 a1 a2 l m with
    | false =>
      simp only [hf, Bool.false_eq_true, if_false] at e4 e5
      have e11 := fun k => EqualKept_refl (β := β) N hN 0 0 0 [] (by decide) k
      rcases DrawEqualKept_ends (β := β) N (by omega) b hb' with ⟨x0, x1, x2, u, hu, e12⟩ | ⟨x0, x1, x2, y0, y1, y2, u, v, hu, hv, e12⟩
      · simp only [e1, e2, e3, e4, e5, e6, e7, e8, e9, e10, e11, e12, beq_self_eq_true, cond_true, Bool.not_false]
        exact both _ _ _ _ _ _ _ _ hu
      · simp only [e1, e2, e3, e4, e5, e6, e7, e8, e9, e10, e11, e12, beq_self_eq_true, cond_true, Bool.not_false]
        exact both _ _ _ _ _ _ _ _ hu
    | true =>
      have hfl := flipped_len hf
      simp only [hf, if_true] at e4 e5
      simp only [flipsOK, Bool.and_eq_true] at hf
      obtain ⟨n, w, rfl, rfl, hn, hw, rfl, rfl⟩ := isKept_nat hf.1
      have ha2 : (m.all fun x => decide (0 ≤ x) && decide (x < ((2 ^ n : Nat) : Int))) = true := by
        rw [← hf.2.2]; congr 1; funext x; exact (isIn_n n w hn hw x).symm
      have hw' := flips_lt n m w hw ha2
      have hs := size_le hn
      have hp2 : 2 ^ 2 ^ n ≤ 4294967296 := Nat.le_trans (Nat.pow_le_pow_right (by decide) hs) (by decide)
      simp only [Int.toNat_natCast] at e4 e5 hfl
      have hfl' := hfl (flips w m)
      have e11 := fun k => EqualKept_refl (β := β) N hN (n : Int) (flips w m : Nat) (ones (flips w m) : Nat) (infls (flips w m) n n) (by omega) k
      have e13 : ∀ k : Bool → Option β, impl_IsKept N (n : Int) (flips w m : Nat) (ones (flips w m) : Nat) (infls (flips w m) n n) k = k true := fun k => by
        rw [impl_IsKept_eq N hN _ _ _ (by omega) _ (by omega)]
        congr 1
        unfold isKept keptOnes keptList
        rw [isT_of hn hw']
        simp
      rcases DrawEqualKept_ends (β := β) N (by omega) b hb' with ⟨x0, x1, x2, u, hu, e12⟩ | ⟨x0, x1, x2, y0, y1, y2, u, v, hu, hv, e12⟩
      · simp only [e1, e2, e3, e4, e5, e6, e7, e8, e9, e10, e11, e12, e13, beq_self_eq_true, cond_true, cond_false, Bool.not_true]
        exact both _ _ _ _ _ _ _ _ hu
      · simp only [e1, e2, e3, e4, e5, e6, e7, e8, e9, e10, e11, e12, e13, beq_self_eq_true, cond_true, cond_false, Bool.not_true]
        exact both _ _ _ _ _ _ _ _ hu
  have big : ∀ K : Bool → Option β, laws_big N b K = K (decide ((b.length : Int) > 1048576)) := fun _ => rfl
  unfold laws_FnEdits
  rw [big]
  by_cases hbig : (b.length : Int) > 1048576
  · rw [decide_eq_true hbig, cond_true]
  · rw [decide_eq_false hbig, cond_false]
    obtain ⟨a0, a1, a2, l, x, h1, hl, e1⟩ := DrawFlipAt_ends (β := β) N (by omega) b hb'
    have e4 := fun k => impl_FlipAt_eq (β := β) N hN a0 a1 a2 x h1 l (by omega) k
    have e5 := fun k => spec_FlipAt_eq (β := β) N hN a0 a1 a2 x l (by omega) k
    cases hf : flipsOK a0 a1 a2 l [x] with
    | false =>
      simp only [hf, Bool.false_eq_true, if_false] at e4 e5
      have e11 := fun k => EqualKept_refl (β := β) N hN 0 0 0 [] (by decide) k
      rw [e1, e4, e5]
      simp only [beq_self_eq_true, Bool.not_true, cond_false]
      rw [e11]
      simp only [Bool.not_true, cond_false]
      exact tail _ rfl
    | true =>
      simp only [hf, if_true] at e4 e5
      have hf0 := hf
      simp only [flipsOK, Bool.and_eq_true] at hf
      obtain ⟨n, w, rfl, rfl, hn, hw, rfl, rfl⟩ := isKept_nat hf.1
      have hx2 : isIn (n : Int) (w : Int) x = true := by simpa using hf.2.2
      rw [isIn_n n w hn hw] at hx2
      simp only [Bool.and_eq_true, decide_eq_true_eq] at hx2
      obtain ⟨x, rfl⟩ := Int.eq_ofNat_of_zero_le hx2.1
      have hxn : x < 2 ^ n := by omega
      have hs := size_le hn
      have hp2 : 2 ^ 2 ^ n ≤ 4294967296 := Nat.le_trans (Nat.pow_le_pow_right (by decide) hs) (by decide)
      have hw' : w ^^^ 2 ^ x < 2 ^ 2 ^ n := Nat.xor_lt_two_pow hw (Nat.pow_lt_pow_right (by decide) hxn)
      have kept_ok : ∀ v : Nat, v < 2 ^ 2 ^ n → isKept (n : Int) (v : Int) (ones v) (infls v n n) = true := fun v hv => by
        unfold isKept keptOnes keptList
        rw [isT_of hn hv]
        simp
      simp only [Int.toNat_natCast, flips_one] at e4 e5
      have len : ∀ v, (infls v n n).length ≤ 5 := fun v => by rw [infls_len]; omega
      have l1 := len (w ^^^ 2 ^ x)
      have l2 := len w
      have e11 := fun k => EqualKept_refl (β := β) N hN (n : Int) (w ^^^ 2 ^ x : Nat) (ones (w ^^^ 2 ^ x) : Nat) (infls (w ^^^ 2 ^ x) n n) (by omega) k
      have e12 := fun k => EqualKept_refl (β := β) N hN (n : Int) (w : Nat) (ones w : Nat) (infls w n n) (by omega) k
      have e6 : ∀ k : Int → Int → Int → List Int → Bool → Option β, impl_NewKept N (n : Int) (w ^^^ 2 ^ x : Nat) k = k (n : Int) (w ^^^ 2 ^ x : Nat) (ones (w ^^^ 2 ^ x) : Nat) (infls (w ^^^ 2 ^ x) n n) true := fun k => by
        rw [impl_NewKept_eq N (by omega) _ _ (by omega)]
        unfold ifT keptOnes keptList
        rw [isT_of hn hw']
        simp
      have e7 : ∀ k : Int → Int → Int → List Int → Bool → Option β, impl_FlipAt N (n : Int) (w ^^^ 2 ^ x : Nat) (ones (w ^^^ 2 ^ x) : Nat) (infls (w ^^^ 2 ^ x) n n) (x : Int) k = k (n : Int) (w : Nat) (ones w : Nat) (infls w n n) true := fun k => by
        rw [impl_FlipAt_eq N hN _ _ _ _ (by omega) _ (by omega)]
        have : flipsOK (n : Int) (w ^^^ 2 ^ x : Nat) (ones (w ^^^ 2 ^ x) : Nat) (infls (w ^^^ 2 ^ x) n n) [(x : Int)] = true := by
          unfold flipsOK
          rw [kept_ok _ hw']
          simp only [List.all_cons, List.all_nil, isIn_n n _ hn hw']
          simp
          exact_mod_cast hxn
        rw [if_pos this]
        simp only [Int.toNat_natCast, flips_one, xor_self_cancel]
      have e8 : ∀ k : Bool → Option β, impl_IsKept N (n : Int) (w ^^^ 2 ^ x : Nat) (ones (w ^^^ 2 ^ x) : Nat) (infls (w ^^^ 2 ^ x) n n) k = k true := fun k => by
        rw [impl_IsKept_eq N hN _ _ _ (by omega) _ (by omega), kept_ok _ hw']
      have e9 := fun k => impl_DistanceBetween_flip (β := β) N n w x hn hw hxn k
      rw [e1, e4, e5]
      simp only [beq_self_eq_true, Bool.not_true, cond_false]
      rw [e11]
      simp only [Bool.not_true, cond_false, cond_true]
      rw [e6, e7, e8]
      simp only [Bool.not_true, cond_false]
      rw [e11]
      simp only [Bool.not_true, cond_false]
      rw [e12]
      simp only [Bool.not_true, cond_false]
      rw [e9]
      exact tail _ rfl
end Go.Proofs.Ytdkjnadhgdneaaa
