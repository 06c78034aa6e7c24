/- Plain laws of the texts: counts are kept under flips. -/
import Derived.Test.YtdkjnadhgdneaaaP9
namespace Go.Proofs.Ytdkjnadhgdneaaa
open Go.Rv
set_option linter.unusedVariables false
set_option maxRecDepth 100000
variable {β : Type}
theorem bit_flip (w x y : Nat) : (w ^^^ 2 ^ x).testBit y = (w.testBit y ^^ decide (x = y)) := by
  rw [Nat.testBit_xor, Nat.testBit_two_pow]
theorem ones_flip (w x : Nat) (hx : x < 32) : ones (w ^^^ 2 ^ x) + (if w.testBit x then 1 else 0) = ones w + (if w.testBit x then 0 else 1) := by
  unfold ones
  rw [pc_cnt, pc_cnt]
  exact cnt_flip x (by rw [bit_flip]; simp) (fun i hi => by rw [bit_flip]; simp [Ne.symm hi]) 32 hx
theorem xor_self_cancel (a b : Nat) : a ^^^ b ^^^ b = a := by rw [Nat.xor_assoc, Nat.xor_self, Nat.xor_zero]
theorem xor_ne (x i : Nat) : x ^^^ 2 ^ i ≠ x := fun h => by
  have h1 := congrArg (fun t => t ^^^ x) h
  simp only [Nat.xor_self] at h1
  rw [Nat.xor_comm x, xor_self_cancel] at h1
  have := Nat.two_pow_pos i
  omega
theorem edge_sym (w i x : Nat) : edge w i (x ^^^ 2 ^ i) = edge w i x := by
  unfold edge
  rw [xor_self_cancel]
  cases w.testBit x <;> cases w.testBit (x ^^^ 2 ^ i) <;> rfl
theorem infl_flip (w n i x : Nat) (hi : i < n) (hx : x < 2 ^ n) : infl (w ^^^ 2 ^ x) i (2 ^ n) + (if edge w i x then 4 else 0) = infl w i (2 ^ n) + 2 := by
  have hp : x ^^^ 2 ^ i < 2 ^ n := Nat.xor_lt_two_pow hx (Nat.pow_lt_pow_right (by decide) hi)
  have hne := xor_ne x i
  let g : Nat → Bool := fun y => if y = x then !edge w i x else edge w i y
  have h1 := cnt_flip (g := edge w i) (h := g) x (by simp [g]) (fun y hy => by simp [g, hy]) (2 ^ n) hx
  have h2 := cnt_flip (g := g) (h := edge (w ^^^ 2 ^ x) i) (x ^^^ 2 ^ i) (by
      simp only [g, hne, if_false, edge_sym]
      rw [← edge_sym]
      simp only [edge, bit_flip, xor_self_cancel]
      simp only [hne.symm, decide_true, decide_false, Bool.xor_false, Bool.xor_true]
      cases w.testBit x <;> cases w.testBit (x ^^^ 2 ^ i) <;> rfl) (fun y hy => by
      by_cases e : y = x
      · subst e
        simp only [g, if_true, edge, bit_flip, decide_true, Bool.xor_true]
        simp only [hne.symm, decide_false, Bool.xor_false]
        cases w.testBit y <;> cases w.testBit (y ^^^ 2 ^ i) <;> rfl
      · have e2 : ¬ x = y ^^^ 2 ^ i := fun h => hy (by rw [h, xor_self_cancel])
        simp only [g, e, if_false, edge, bit_flip]
        simp [Ne.symm e, e2]) (2 ^ n) hp
  have h3 : g (x ^^^ 2 ^ i) = edge w i x := by simp [g, hne, edge_sym]
  rw [h3] at h2
  unfold infl
  cases he : edge w i x with
  | true => rw [he] at h1 h2; simp at h1 h2 ⊢; omega
  | false => rw [he] at h1 h2; simp at h1 h2 ⊢; omega

/-- Whether what is kept is right. -/
def isKept (a0 a1 a2 : Int) (l : List Int) : Bool := isT a0 a1 && (a2 == keptOnes a0 a1 && l == keptList a0 a1)
theorem spec_IsKept_eq (N : Nat) (hN : 1048576 < N) (a0 a1 a2 : Int) (l : List Int) (hl : l.length ≤ 1048576) (k : Bool → Option β) : spec_IsKept N a0 a1 a2 l k = k (isKept a0 a1 a2 l) := by
  unfold spec_IsKept isKept
  rw [spec_NewKept_eq N (by omega)]
  cases isT a0 a1 with
  | false => rfl
  | true =>
    simp only [cond_true, Bool.true_and]
    cases (a2 == keptOnes a0 a1) with
    | false => rfl
    | true => simp only [cond_true, Bool.true_and, spec_l30Same_eq N l _ hl hN]
theorem impl_IsKept_eq (N : Nat) (hN : 1048576 < N) (a0 a1 a2 : Int) (h1 : a1 < 9223372036854775808) (l : List Int) (hl : l.length ≤ 1048576) (k : Bool → Option β) : impl_IsKept N a0 a1 a2 l k = k (isKept a0 a1 a2 l) := by
  unfold impl_IsKept isKept keptOnes keptList
  rw [impl_IsTable_eq N a0 a1 h1]
  cases ht : isT a0 a1 with
  | false => rfl
  | true =>
    obtain ⟨n, w, rfl, rfl, hn, hw, hw'⟩ := isT_nat ht
    simp only [cond_true, Bool.true_and, impl_kept_eq N (by omega) n w hn hw, impl_EqualKept_eq N _ _ _ l _ _ _ _ hl hN, beq_self_eq_true, if_true, Int.toNat_natCast]
theorem spec_l30Flip_s2_eq (s0 s1 s2 s3 : Int) (s4 : List Int) (s5 s6 s7 s8 s9 s10 s11 s12 : Int) (s13 s14 : List Int) (K : Option β) : spec_l30Flip_s2 s0 s1 s2 s3 s4 s5 s6 s7 s8 s9 s10 s11 s12 s13 s14 K = K := by
  simp [spec_l30Flip_s2, gd]
theorem spec_l30Flip_eq (N : Nat) (hN : 64 < N) (n w x : Nat) (hn : n ≤ 5) (hw : w < 2 ^ 2 ^ n) (hx : x < 2 ^ n) (k : Int → Int → Int → List Int → Option β) :
    spec_l30Flip N (n : Int) (w : Int) (ones w : Int) (infls w n n) (x : Int) k = k n ((w ^^^ 2 ^ x : Nat) : Int) (ones (w ^^^ 2 ^ x)) (infls (w ^^^ 2 ^ x) n n) := by
  have hw' := two32 hn hw
  have hs := size_le hn
  have hp : 2 ^ x < 4294967296 := (Nat.pow_lt_pow_right (by decide) (by omega) : 2 ^ x < 2 ^ 32)
  have ho := ones_flip w x (by omega)
  have h1 := ones_le w
  have h2 := ones_le (w ^^^ 2 ^ x)
  unfold spec_l30Flip
  simp only [spec_l30Flip_s2_eq]
  rw [shl_one x (by omega), bXor w _ (by omega) (by omega), decide_eq_true (by omega : (0 : Int) ≤ (x : Int)), gd_true rfl, gd_true rfl, bit_at w x (by omega), bit_one]
  have key : ∀ (o' : Int) (F i : Nat), n - i < F → i ≤ n → spec_l30Flip_l0 N F (x : Int) (i : Int) (n : Int) (w : Int) (ones w : Int) (infls w n n) 0 0 0 (n : Int) (w : Int) (n : Int) ((w ^^^ 2 ^ x : Nat) : Int) o' [] (infls (w ^^^ 2 ^ x) n i) (fun e5_0 e5_1 e5_2 e5_3 e5_4 e5_5 e5_6 e5_7 => k e5_3 e5_4 e5_5 e5_7) = k n ((w ^^^ 2 ^ x : Nat) : Int) o' (infls (w ^^^ 2 ^ x) n n) := by
    intro o' F
    induction F with
    | zero => intro i h; omega
    | succ F ih =>
      intro i hF hi
      have hl := infls_len (w ^^^ 2 ^ x) n i
      simp only [spec_l30Flip_l0, spec_l30Flip_l0b]
      by_cases hlt : i < n
      · have hpi : 2 ^ i < 2 ^ 5 := Nat.pow_lt_pow_right (by decide) (by omega)
        have hxp : x ^^^ 2 ^ i < 2 ^ 5 := Nat.xor_lt_two_pow (by omega) hpi
        have hf := infl_flip w n i x hlt hx
        have hc1 := cnt_le (edge w i) (2 ^ n)
        have hc2 := cnt_le (edge (w ^^^ 2 ^ x) i) (2 ^ n)
        unfold infl at hf
        have hg : rd 0 (infls w n n) (i : Int) = ((infl w i (2 ^ n) : Nat) : Int) := by
          have hlen : i < (infls w n n).length := by rw [infls_len]; exact hlt
          rw [rd_nat 0 _ i hlen]
          have := infls_get w n n i hlt
          rw [List.getElem?_eq_getElem hlen] at this
          simpa using this
        have hn' : ((infls w n n).length : Int) = n := by rw [infls_len]
        have h3 := ih (i + 1) (by omega) (by omega)
        rw [infls_succ] at h3
        have he : (((if (w.testBit x != w.testBit (x ^^^ 2 ^ i)) = true then 1 else 0 : Nat) : Int) == 1) = edge w i x := bit_one _
        rw [decide_eq_true (by omega : (i : Int) < (n : Int)), decide_eq_true (by omega : (0 : Int) ≤ (x : Int)), decide_eq_true (by omega : (0 : Int) ≤ (i : Int)), shl_one i (by omega), bXor x (2 ^ i) (by omega) (by omega), decide_eq_true (by omega : (0 : Int) ≤ ((x ^^^ 2 ^ i : Nat) : Int)), spec_bit2 w x _ hw', he, hg, hn', decide_eq_true (by omega : (i : Int) < (n : Int)), w64_succ i (by omega)]
        simp only [cond_true, gd_true rfl]
        cases hd : edge w i x with
        | true =>
          rw [hd] at hf
          simp only [if_true] at hf
          have e : w64 (((infl w i (2 ^ n) : Nat) : Int) + -2) = ((infl (w ^^^ 2 ^ x) i (2 ^ n) : Nat) : Int) := by
            unfold infl
            rw [w64_id (by omega) (by omega)]; omega
          rw [e, cond_true, gd_true (decide_eq_true (by simp; omega)), List.nil_append]
          exact h3
        | false =>
          rw [hd] at hf
          simp only [Bool.false_eq_true, if_false] at hf
          have e : w64 (((infl w i (2 ^ n) : Nat) : Int) + 2) = ((infl (w ^^^ 2 ^ x) i (2 ^ n) : Nat) : Int) := by
            unfold infl
            rw [w64_id (by omega) (by omega)]; omega
          rw [e, cond_false, gd_true (decide_eq_true (by simp; omega)), List.nil_append]
          exact h3
      · rw [decide_eq_false (by omega : ¬ (i : Int) < (n : Int)), cond_false, show i = n by omega]
  cases hb : w.testBit x with
  | true =>
    rw [hb] at ho
    simp only [if_true] at ho
    rw [cond_true, w64_id (by omega) (by omega), show ((ones w : Int) - 1) = ((ones (w ^^^ 2 ^ x) : Nat) : Int) by omega]
    exact key _ N 0 (by omega) (Nat.zero_le _)
  | false =>
    rw [hb] at ho
    simp only [Bool.false_eq_true, if_false] at ho
    rw [cond_false, w64_id (by omega) (by omega), show ((ones w : Int) + 1) = ((ones (w ^^^ 2 ^ x) : Nat) : Int) by omega]
    exact key _ N 0 (by omega) (Nat.zero_le _)

/-- A word flipped at all of some inputs. -/
def flips (w : Nat) (l : List Int) : Nat := l.foldl (fun w x => w ^^^ 2 ^ x.toNat) w
theorem flips_lt (n : Nat) : ∀ (l : List Int) (w : Nat), w < 2 ^ 2 ^ n → (l.all fun x => decide (0 ≤ x) && decide (x < ((2 ^ n : Nat) : Int))) = true → flips w l < 2 ^ 2 ^ n
  | [], w, hw, _ => hw
  | x :: l, w, hw, h => by
    simp only [List.all_cons, Bool.and_eq_true, decide_eq_true_eq] at h
    have hx : x.toNat < 2 ^ n := by omega
    exact flips_lt n l _ (Nat.xor_lt_two_pow hw (Nat.pow_lt_pow_right (by decide) hx)) (by simpa using h.2)
theorem isIn_n (n w : Nat) (hn : n ≤ 5) (hw : w < 2 ^ 2 ^ n) (x : Int) : isIn (n : Int) (w : Int) x = (decide (0 ≤ x) && decide (x < ((2 ^ n : Nat) : Int))) := by
  unfold isIn
  rw [isT_of hn hw]
  simp

theorem spec_flipall_loop (N : Nat) (hN : 64 < N) (n w0 : Nat) (hn : n ≤ 5) (hw0 : w0 < 2 ^ 2 ^ n) (l : List Int) (hl : l.length ≤ 1048576) (d0 d4 d5 d6 : Int) (m0 m1 : List Int) (k0 : Bool → Int → Int → Int → List Int → Option β) (k1 : Int → Int → Int → Int → Int → Int → List Int → List Int → Option β) :
    ∀ (F i w : Nat), l.length - i < F → i ≤ l.length → w < 2 ^ 2 ^ n →
      spec_FlipAll_l0 N F l (i : Int) (n : Int) (w0 : Int) d0 m0 d4 d5 d6 (n : Int) (w : Int) (ones w : Int) m1 (infls w n n) k0 k1 =
        if (l.drop i).all (isIn (n : Int) (w0 : Int)) then k1 d4 d5 d6 n (flips w (l.drop i) : Nat) (ones (flips w (l.drop i)) : Nat) m1 (infls (flips w (l.drop i)) n n) else k0 false 0 0 0 [] := by
  have hs := size_le hn
  intro F
  induction F with
  | zero => intro i w h; omega
  | succ F ih =>
    intro i w hF hi hw
    simp only [spec_FlipAll_l0, spec_FlipAll_l0b]
    by_cases hlt : i < l.length
    · rw [decide_eq_true (by omega : (i : Int) < (l.length : Int)), decide_eq_true (by omega : (0 : Int) ≤ (i : Int)), rd_nat 0 l i hlt, List.drop_eq_getElem_cons hlt, spec_l9In_eq, w64_succ i (by omega)]
      simp only [cond_true, gd_true rfl, List.all_cons]
      by_cases hx : isIn (n : Int) (w0 : Int) l[i] = true
      case neg => simp only [Bool.eq_false_iff.2 hx]; simp
      case pos =>
        simp only [hx]
        have hx2 := hx
        rw [isIn_n n w0 hn hw0] at hx2
        simp only [Bool.and_eq_true, decide_eq_true_eq] at hx2
        obtain ⟨x, hx'⟩ := Int.eq_ofNat_of_zero_le hx2.1
        rw [hx']
        have hxn : x < 2 ^ n := by omega
        simp only [Bool.not_true, cond_false, Bool.true_and]
        rw [spec_l30Flip_eq N hN n w x hn hw hxn]
        rw [ih (i + 1) _ (by omega) (by omega) (Nat.xor_lt_two_pow hw (Nat.pow_lt_pow_right (by decide) hxn))]
        rfl
    · have : i = l.length := by omega
      subst this
      rw [decide_eq_false (by omega : ¬ (l.length : Int) < (l.length : Int))]
      simp [flips]

theorem impl_flipall_loop (N : Nat) (n w0 : Nat) (hn : n ≤ 5) (hw0 : w0 < 2 ^ 2 ^ n) (l : List Int) (hl : l.length ≤ 1048576) (d3 d4 d5 : Int) (m0 : List Int) (k0 : Bool → Int → Int → Int → List Int → Option β) (k1 : Int → Int → Int → Int → Int → List Int → Option β) :
    ∀ (F i w : Nat), l.length - i < F → i ≤ l.length → w < 2 ^ 2 ^ n →
      impl_FlipAll_l0 N F l (l.length : Int) (i : Int) d3 d4 d5 (n : Int) (w : Int) m0 k0 k1 =
        if (l.drop i).all (isIn (n : Int) (w0 : Int)) then k1 d3 d4 d5 n (flips w (l.drop i) : Nat) m0 else k0 false 0 0 0 [] := by
  have hs := size_le hn
  intro F
  induction F with
  | zero => intro i w h; omega
  | succ F ih =>
    intro i w hF hi hw
    have hw' := two32 hn hw
    simp only [impl_FlipAll_l0, impl_FlipAll_l0b]
    by_cases hlt : i < l.length
    · rw [decide_eq_true (by omega : (i : Int) < (l.length : Int)), decide_eq_true (by omega : (0 : Int) ≤ (i : Int)), rd_nat 0 l i hlt, List.drop_eq_getElem_cons hlt, impl_isInput_eq N n hn, w64_succ i (by omega)]
      have hi2 : (decide (0 ≤ l[i]) && decide (l[i] < 2 ^ n)) = isIn (n : Int) (w0 : Int) l[i] := by rw [isIn_n n w0 hn hw0]; simp
      rw [hi2]
      simp only [cond_true, gd_true rfl, List.all_cons]
      by_cases hx : isIn (n : Int) (w0 : Int) l[i] = true
      case neg => simp only [Bool.eq_false_iff.2 hx]; simp
      case pos =>
        simp only [hx]
        have hx2 := hx
        rw [isIn_n n w0 hn hw0] at hx2
        simp only [Bool.and_eq_true, decide_eq_true_eq] at hx2
        obtain ⟨x, hx'⟩ := Int.eq_ofNat_of_zero_le hx2.1
        rw [hx']
        have hxn : x < 2 ^ n := by omega
        have hp : 2 ^ x < 4294967296 := (Nat.pow_lt_pow_right (by decide) (by omega) : 2 ^ x < 2 ^ 32)
        rw [decide_eq_true (by omega : (0 : Int) ≤ ((x : Nat) : Int)), shl_one x (by omega), bXor w _ (by omega) (by omega)]
        simp only [Bool.not_true, cond_false, Bool.true_and, gd_true rfl]
        rw [ih (i + 1) _ (by omega) (by omega) (Nat.xor_lt_two_pow hw (Nat.pow_lt_pow_right (by decide) hxn))]
        rfl
    · have : i = l.length := by omega
      subst this
      rw [decide_eq_false (by omega : ¬ (l.length : Int) < (l.length : Int))]
      simp [flips]

/-- Whether a table may be flipped so. -/
def flipsOK (a0 a1 a2 : Int) (l m : List Int) : Bool := isKept a0 a1 a2 l && (decide (m.length ≤ 40) && m.all (isIn a0 a1))
theorem isKept_nat {a0 a1 a2 : Int} {l : List Int} (h : isKept a0 a1 a2 l = true) : ∃ n w : Nat, a0 = n ∧ a1 = w ∧ n ≤ 5 ∧ w < 2 ^ 2 ^ n ∧ a2 = ones w ∧ l = infls w n n := by
  simp only [isKept, Bool.and_eq_true, beq_iff_eq] at h
  obtain ⟨ht, h1, h2⟩ := h
  unfold keptOnes at h1
  unfold keptList at h2
  rw [if_pos ht] at h1 h2
  obtain ⟨n, w, rfl, rfl, hn, hw, hw'⟩ := isT_nat ht
  exact ⟨n, w, rfl, rfl, hn, hw, by simpa using h1, by simpa using h2⟩

theorem spec_FlipAt_eq (N : Nat) (hN : 1048576 < N) (a0 a1 a2 x : Int) (l : List Int) (hl : l.length ≤ 1048576) (k : Int → Int → Int → List Int → Bool → Option β) :
    spec_FlipAt N a0 a1 a2 l x k = if flipsOK a0 a1 a2 l [x] then k a0 (flips a1.toNat [x] : Nat) (ones (flips a1.toNat [x]) : Nat) (infls (flips a1.toNat [x]) a0.toNat a0.toNat) true else k 0 0 0 [] false := by
  unfold spec_FlipAt flipsOK
  rw [spec_IsKept_eq N hN _ _ _ l hl]
  by_cases h : isKept a0 a1 a2 l = true
  · rw [h]
    obtain ⟨n, w, rfl, rfl, hn, hw, rfl, rfl⟩ := isKept_nat h
    have hs := size_le hn
    rw [Bool.not_true, cond_false, spec_l9In_eq]
    by_cases hx : isIn (n : Int) (w : Int) x = true
    · rw [hx]
      have hx2 := hx
      rw [isIn_n n w hn hw] at hx2
      simp only [Bool.and_eq_true, decide_eq_true_eq] at hx2
      obtain ⟨x, rfl⟩ := Int.eq_ofNat_of_zero_le hx2.1
      have hxn : x < 2 ^ n := by omega
      rw [Bool.not_true, cond_false, spec_l30Flip_eq N (by omega) n w x hn hw hxn]
      simp [flips, hx]
    · rw [Bool.eq_false_iff.2 hx]
      simp [Bool.eq_false_iff.2 hx]
  · rw [Bool.eq_false_iff.2 h]; rfl

theorem impl_FlipAll_eq (N : Nat) (hN : 1048576 < N) (a0 a1 a2 : Int) (h1 : a1 < 9223372036854775808) (l m : List Int) (hl : l.length ≤ 1048576) (k : Int → Int → Int → List Int → Bool → Option β) :
    impl_FlipAll N a0 a1 a2 l m k = if flipsOK a0 a1 a2 l m then k a0 (flips a1.toNat m : Nat) (ones (flips a1.toNat m) : Nat) (infls (flips a1.toNat m) a0.toNat a0.toNat) true else k 0 0 0 [] false := by
  unfold impl_FlipAll flipsOK
  rw [impl_IsKept_eq N hN _ _ _ h1 l hl]
  by_cases h : isKept a0 a1 a2 l = true
  · rw [h]
    obtain ⟨n, w, rfl, rfl, hn, hw, rfl, rfl⟩ := isKept_nat h
    by_cases hm : m.length ≤ 40
    · rw [Bool.not_true, cond_false, decide_eq_false (by omega : ¬ (m.length : Int) > 40), cond_false, decide_eq_true hm]
      have e := fun k0 k1 => impl_flipall_loop (β := β) N n w hn hw m (by omega) 0 0 0 [] k0 k1 N 0 w (by omega) (Nat.zero_le _) hw
      simp only [Int.natCast_zero, List.drop_zero] at e
      rw [e]
      by_cases ha : m.all (isIn (n : Int) (w : Int)) = true
      · rw [if_pos ha, ha]
        have ha2 : (m.all fun x => decide (0 ≤ x) && decide (x < ((2 ^ n : Nat) : Int))) = true := by
          rw [← ha]; congr 1; funext x; exact (isIn_n n w hn hw x).symm
        simp only [Bool.and_self, if_true, Int.toNat_natCast]
        exact impl_kept_eq N (by omega) n _ hn (flips_lt n m w hw ha2) _
      · rw [if_neg ha, Bool.eq_false_iff.2 ha]; rfl
    · rw [Bool.not_true, cond_false, decide_eq_true (by omega : (m.length : Int) > 40), cond_true, decide_eq_false hm]; rfl
  · rw [Bool.eq_false_iff.2 h]; rfl

theorem impl_FlipAt_eq (N : Nat) (hN : 1048576 < N) (a0 a1 a2 x : Int) (h1 : a1 < 9223372036854775808) (l : List Int) (hl : l.length ≤ 1048576) (k : Int → Int → Int → List Int → Bool → Option β) :
    impl_FlipAt N a0 a1 a2 l x k = if flipsOK a0 a1 a2 l [x] then k a0 (flips a1.toNat [x] : Nat) (ones (flips a1.toNat [x]) : Nat) (infls (flips a1.toNat [x]) a0.toNat a0.toNat) true else k 0 0 0 [] false := by
  unfold impl_FlipAt
  exact impl_FlipAll_eq N hN a0 a1 a2 h1 l [x] hl _

theorem flipped_len {a0 a1 a2 : Int} {l m : List Int} (h : flipsOK a0 a1 a2 l m = true) (w : Nat) : (infls w a0.toNat a0.toNat).length ≤ 5 := by
  simp only [flipsOK, Bool.and_eq_true] at h
  obtain ⟨n, w', rfl, rfl, hn, -, -, -⟩ := isKept_nat h.1
  rw [infls_len]
  omega

theorem spec_FlipAll_s3_eq (s0 : List Int) (s1 s2 s3 : Int) (s4 : List Int) (s5 s6 s7 s8 s9 s10 : Int) (s11 s12 : List Int) (K : Option β) : spec_FlipAll_s3 s0 s1 s2 s3 s4 s5 s6 s7 s8 s9 s10 s11 s12 K = K := by
  simp [spec_FlipAll_s3, gd]
theorem spec_FlipAll_eq (N : Nat) (hN : 1048576 < N) (a0 a1 a2 : Int) (l m : List Int) (hl : l.length ≤ 1048576) (k : Int → Int → Int → List Int → Bool → Option β) :
    spec_FlipAll N a0 a1 a2 l m k = if flipsOK a0 a1 a2 l m then k a0 (flips a1.toNat m : Nat) (ones (flips a1.toNat m) : Nat) (infls (flips a1.toNat m) a0.toNat a0.toNat) true else k 0 0 0 [] false := by
  unfold flipsOK
  have hg : decide (((([] : List Int)).length + l.length) * 8 ≤ 140737488355328) = true := decide_eq_true (by simp; omega)
  unfold spec_FlipAll
  simp only [spec_FlipAll_s3_eq, hg, gd_true rfl]
  rw [spec_IsKept_eq N hN _ _ _ l hl]
  by_cases h : isKept a0 a1 a2 l = true
  · rw [h]
    obtain ⟨n, w, rfl, rfl, hn, hw, rfl, rfl⟩ := isKept_nat h
    by_cases hm : m.length ≤ 40
    · rw [Bool.not_true, cond_false, decide_eq_false (by omega : ¬ (m.length : Int) > 40), cond_false, decide_eq_true hm]
      have e := fun k0 k1 => spec_flipall_loop (β := β) N (by omega) n w hn hw m (by omega) (ones w) 0 0 0 (infls w n n) [] k0 k1 N 0 w (by omega) (Nat.zero_le _) hw
      simp only [Int.natCast_zero, List.drop_zero] at e
      rw [List.nil_append, e]
      by_cases ha : m.all (isIn (n : Int) (w : Int)) = true
      · rw [if_pos ha, ha]
        simp
      · rw [if_neg ha, Bool.eq_false_iff.2 ha]; rfl
    · rw [Bool.not_true, cond_false, decide_eq_true (by omega : (m.length : Int) > 40), cond_true, decide_eq_false hm]; rfl
  · rw [Bool.eq_false_iff.2 h]; rfl
end Go.Proofs.Ytdkjnadhgdneaaa
