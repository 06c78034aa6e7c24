/- Plain laws of the texts: the best tree. -/
import Derived.Test.YtfdggelojmofmaaDoorP92
namespace Go.Proofs.YtfdggelojmofmaaDoor
open Go.Rv
set_option linter.unusedVariables false
variable {β : Type}
theorem mnO_found (B : Nat) (free : Nat → Bool) (val : Nat → Nat) : ∀ n, mnO B free val n = B ∨ ∃ i, i < n ∧ free i = true ∧ val i = mnO B free val n
  | 0 => .inl rfl
  | n + 1 => by
    simp only [mnO]
    cases hf : free n with
    | false =>
      rw [if_neg (by decide)]
      rcases mnO_found B free val n with h | ⟨i, h1, h2, h3⟩
      · exact .inl h
      · exact .inr ⟨i, by omega, h2, h3⟩
    | true =>
      rw [if_pos rfl]
      by_cases hle : val n ≤ mnO B free val n
      · exact .inr ⟨n, by omega, hf, by omega⟩
      · rcases mnO_found B free val n with h | ⟨i, h1, h2, h3⟩
        · exact .inl (by omega)
        · exact .inr ⟨i, by omega, h2, by omega⟩
/-- Whether a letter leads to the least depth. -/
def pick (w n m v i : Nat) : Bool := free m i && (1 + max (dep_ w n (m ||| 2 ^ i) v) (dep_ w n (m ||| 2 ^ i) (v ||| 2 ^ i)) == dep_ w n m v)
theorem pick_some (w n m v : Nat) (hn : n ≤ 4) (hm : m < 2 ^ n) (hb : bothV w n m v = true) : ∃ i, i < n ∧ pick w n m v i = true := by
  have hd := dep_eq w n m v hn hm
  rw [hb, if_pos rfl] at hd
  have hle := dep_le w n m v hn hm
  have hfc := fc_le n m
  rcases mnO_found 10 (free m) (fun i => 1 + max (dep_ w n (m ||| 2 ^ i) v) (dep_ w n (m ||| 2 ^ i) (v ||| 2 ^ i))) n with h | ⟨i, h1, h2, h3⟩
  · omega
  · refine ⟨i, h1, ?_⟩
    unfold pick
    rw [h2, Bool.true_and, beq_iff_eq, hd]
    exact h3
theorem pick_less (w n m v i : Nat) (hn : n ≤ 4) (hm : m < 2 ^ n) (hb : bothV w n m v = true) (hi : i < n) (hf : free m i = true) :
    pick w n m v i = (decide (dep_ w n (m ||| 2 ^ i) v < dep_ w n m v) && decide (dep_ w n (m ||| 2 ^ i) (v ||| 2 ^ i) < dep_ w n m v)) := by
  have hd := dep_eq w n m v hn hm
  rw [hb, if_pos rfl] at hd
  have h1 := mnO_le 10 (free m) (fun i => 1 + max (dep_ w n (m ||| 2 ^ i) v) (dep_ w n (m ||| 2 ^ i) (v ||| 2 ^ i))) n i hi hf
  rw [← hd] at h1
  have h1 : dep_ w n m v ≤ 1 + max (dep_ w n (m ||| 2 ^ i) v) (dep_ w n (m ||| 2 ^ i) (v ||| 2 ^ i)) := h1
  unfold pick
  rw [hf, Bool.true_and, Bool.eq_iff_iff, Bool.and_eq_true, beq_iff_eq, decide_eq_true_eq, decide_eq_true_eq]
  omega
/-- The first letter that leads to the least depth, from one on. -/
def fstI (p : Nat → Bool) : Nat → Nat → Nat
  | 0, i => i
  | d + 1, i => if p i then i else fstI p d (i + 1)
theorem fstI_found (p : Nat → Bool) : ∀ d i, (∃ j, i ≤ j ∧ j < i + d ∧ p j = true) → fstI p d i < i + d ∧ i ≤ fstI p d i ∧ p (fstI p d i) = true
  | 0, i, ⟨j, h1, h2, _⟩ => by omega
  | d + 1, i, ⟨j, h1, h2, h3⟩ => by
    simp only [fstI]
    cases hp : p i with
    | true => rw [if_pos rfl]; exact ⟨by omega, Nat.le_refl _, hp⟩
    | false =>
      rw [if_neg (by decide)]
      have hne : j ≠ i := fun e => by rw [e, hp] at h3; cases h3
      have := fstI_found p d (i + 1) ⟨j, by omega, by omega, h3⟩
      exact ⟨by omega, by omega, this.2.2⟩
/-- The best tree's text. -/
def bst (w n : Nat) : Nat → Nat → Nat → List UInt8
  | 0, _, _ => []
  | f + 1, m, v => if bothV w n m v then
      UInt8.ofNat (97 + fstI (pick w n m v) n 0) :: (bst w n f (m ||| 2 ^ fstI (pick w n m v) n 0) v ++ bst w n f (m ||| 2 ^ fstI (pick w n m v) n 0) (v ||| 2 ^ fstI (pick w n m v) n 0))
    else [if sc w m v true (2 ^ n) then 49 else 48]
theorem fst_free {w n m v : Nat} (hn : n ≤ 4) (hm : m < 2 ^ n) (hb : bothV w n m v = true) : fstI (pick w n m v) n 0 < n ∧ free m (fstI (pick w n m v) n 0) = true ∧ pick w n m v (fstI (pick w n m v) n 0) = true := by
  obtain ⟨i, h1, h2⟩ := pick_some w n m v hn hm hb
  obtain ⟨h3, _, h4⟩ := fstI_found (pick w n m v) n 0 ⟨i, Nat.zero_le _, by omega, h2⟩
  have h5 := h4
  unfold pick at h5
  simp only [Bool.and_eq_true] at h5
  exact ⟨by omega, h5.1, h4⟩
theorem bst_len (w n : Nat) (hn : n ≤ 4) : ∀ f m v, m < 2 ^ n → v < 2 ^ n → (bst w n f m v).length + 1 ≤ 2 ^ (fc n m + 1)
  | 0, m, v, _, _ => Nat.two_pow_pos _
  | f + 1, m, v, hm, hv => by
    simp only [bst]
    cases hb : bothV w n m v with
    | false =>
      rw [if_neg (by decide)]
      have : 2 ^ 1 ≤ 2 ^ (fc n m + 1) := Nat.pow_le_pow_right (by decide) (by omega)
      simpa using this
    | true =>
      rw [if_pos rfl]
      obtain ⟨h1, h2, _⟩ := fst_free hn hm hb
      generalize fstI (pick w n m v) n 0 = i at h1 h2 ⊢
      have h4 := fc_less n hn m hm i h1 h2
      have k1 := bst_len w n hn f (m ||| 2 ^ i) v (or_lt n hn m hm i h1) hv
      have k2 := bst_len w n hn f (m ||| 2 ^ i) (v ||| 2 ^ i) (or_lt n hn m hm i h1) (or_lt n hn v hv i h1)
      rw [h4] at k1 k2
      have e : 2 ^ (fc n m + 1) = 2 * 2 ^ fc n m := by rw [Nat.pow_succ]; omega
      simp only [List.length_cons, List.length_append]
      omega
theorem bst_small (w n : Nat) (hn : n ≤ 4) (f m v : Nat) (hm : m < 2 ^ n) (hv : v < 2 ^ n) : (bst w n f m v).length ≤ 31 := by
  have h1 := bst_len w n hn f m v hm hv
  have h2 := fc_le n m
  have : 2 ^ (fc n m + 1) ≤ 2 ^ 5 := Nat.pow_le_pow_right (by decide) (by omega)
  omega

theorem sub_or (m v b : Nat) (h : v &&& m = v) : v &&& (m ||| b) = v ∧ (v ||| b) &&& (m ||| b) = v ||| b := by
  have hb : ∀ j, v.testBit j = true → m.testBit j = true := fun j hj => by
    have e := congrArg (fun x => x.testBit j) h
    simp only [Nat.testBit_and, hj, Bool.true_and] at e
    exact e
  constructor
  · apply Nat.eq_of_testBit_eq
    intro j
    have := hb j
    simp only [Nat.testBit_and, Nat.testBit_or]
    cases hv : v.testBit j with
    | false => rfl
    | true => rw [this hv]; rfl
  · apply Nat.eq_of_testBit_eq
    intro j
    have := hb j
    simp only [Nat.testBit_and, Nat.testBit_or]
    cases hv : v.testBit j with
    | false => cases m.testBit j <;> cases b.testBit j <;> rfl
    | true => rw [this hv]; rfl
theorem spec_least_eq (N : Nat) (hN : 64 < N) (n w : Nat) (hn : n ≤ 4) (hw : w < 2 ^ 2 ^ n) (m v : Nat) (hm : m < 2 ^ n) (hv : v < 2 ^ n) (k : Int → Option β) : spec_l7Least N (n : Int) (w : Int) (m : Int) (v : Int) k = k (dep_ w n m v : Int) := by
  have := fc_le n m
  exact spec_least_f N hN n w hn hw N m v (by omega) hm hv k
theorem sc_some (w n m v : Nat) (hv : v < 2 ^ n) (hvm : v &&& m = v) : (sc w m v false (2 ^ n) || sc w m v true (2 ^ n)) = true := by
  have := (sc_iff w m v (w.testBit v) (2 ^ n)).2 ⟨v, hv, hvm, rfl⟩
  cases hb : w.testBit v with
  | true => rw [hb] at this; rw [this, Bool.or_true]
  | false => rw [hb] at this; rw [this, Bool.true_or]
theorem letter_ext : ∀ i, i < 5 → (strOf [97, 98, 99, 100, 101]).extract i (i + 1) = B [UInt8.ofNat (97 + i)] := by decide +kernel
theorem letter_w8 (i : Nat) (h : i < 5) : strOf (([] : List Int) ++ [w8 (97 + w8 (i : Int))]) = B [UInt8.ofNat (97 + i)] := by
  rw [w8_small i (by omega), show (97 : Int) + (i : Int) = ((97 + i : Nat) : Int) by omega, w8_small _ (by omega), B_one, Int.toNat_natCast]
theorem letters_size : (((strOf [97, 98, 99, 100, 101]).size : Nat) : Int) = 5 := by decide +kernel

theorem spec_best_f (N : Nat) (hN : 64 < N) (n w : Nat) (hn : n ≤ 4) (hw : w < 2 ^ 2 ^ n) : ∀ (F m v : Nat), fc n m < F → m < 2 ^ n → v < 2 ^ n → v &&& m = v → ∀ k : ByteArray → Option β,
    spec_l7Best_f N F (n : Int) (w : Int) (m : Int) (v : Int) k = k (B (bst w n F m v)) := by
  have hs := size4 hn
  have hw' := two32 (by omega) hw
  intro F
  induction F with
  | zero => intro m v h; omega
  | succ F ih =>
    intro m v hF hm hv hvm k
    simp only [spec_l7Best_f, spec_l7Best_b]
    rw [spec_l3Cube_eq N hN n w m v (by omega) hw' (by omega), cres_bothV]
    simp only [bst]
    cases hx : bothV w n m v with
    | false =>
      rw [if_neg (by decide), Bool.not_false, cond_true]
      unfold bothV at hx
      cases h0 : sc w m v false (2 ^ n) with
      | true =>
        rw [h0, Bool.true_and] at hx
        rw [hx]; rfl
      | false =>
        cases h1 : sc w m v true (2 ^ n) with
        | true => rfl
        | false => exact absurd (sc_some w n m v hv hvm) (by rw [h0, h1]; decide)
    | true =>
      rw [if_pos rfl, Bool.not_true, cond_false]
      have hfcn := fc_le n m
      rw [spec_least_eq N hN n w hn hw m v hm hv]
      obtain ⟨f1, f2, f3⟩ := fst_free hn hm hx
      have key : ∀ (d G i : Nat), i + d = n → d < G → (∃ j, i ≤ j ∧ j < i + d ∧ pick w n m v j = true) → fstI (pick w n m v) d i = fstI (pick w n m v) n 0 →
          spec_l7Best_l0 N (spec_l7Best_f N F) G (m : Int) (v : Int) (dep_ w n m v : Int) (i : Int) (n : Int) (w : Int) k (k ByteArray.empty) =
          k (B (UInt8.ofNat (97 + fstI (pick w n m v) n 0) :: (bst w n F (m ||| 2 ^ fstI (pick w n m v) n 0) v ++ bst w n F (m ||| 2 ^ fstI (pick w n m v) n 0) (v ||| 2 ^ fstI (pick w n m v) n 0)))) := by
        intro d
        induction d with
        | zero => intro G i _ _ ⟨j, h1, h2, _⟩; omega
        | succ d ihd =>
          intro G i hi hG hex hst
          obtain ⟨G, rfl⟩ : ∃ H, G = H + 1 := ⟨G - 1, by omega⟩
          have hlt : i < n := by omega
          have hp : 2 ^ i < 2 ^ 4 := Nat.pow_lt_pow_right (by decide) (by omega)
          simp only [spec_l7Best_l0, spec_l7Best_l0b]
          rw [decide_eq_true (by omega : (i : Int) < (n : Int)), cond_true, gd_true (decide_eq_true (by omega : (0 : Int) ≤ (i : Int))), shl_one i (by omega), bAnd m _ (by omega) (by omega), nat_eq_zero, and_bit m (by omega) i (by omega), bOr m _ (by omega) (by omega), bOr v _ (by omega) (by omega), w64_succ i (by omega)]
          simp only [fstI] at hst
          have next : pick w n m v i = false → spec_l7Best_l0 N (spec_l7Best_f N F) G (m : Int) (v : Int) (dep_ w n m v : Int) ((i + 1 : Nat) : Int) (n : Int) (w : Int) k (k ByteArray.empty) =
              k (B (UInt8.ofNat (97 + fstI (pick w n m v) n 0) :: (bst w n F (m ||| 2 ^ fstI (pick w n m v) n 0) v ++ bst w n F (m ||| 2 ^ fstI (pick w n m v) n 0) (v ||| 2 ^ fstI (pick w n m v) n 0)))) := by
            intro hno
            rw [hno, if_neg (by decide)] at hst
            refine ihd G (i + 1) (by omega) (by omega) ?_ hst
            obtain ⟨j, h1, h2, h3⟩ := hex
            have hne : j ≠ i := fun e => by rw [e, hno] at h3; cases h3
            exact ⟨j, by omega, by omega, h3⟩
          cases hf : free m i with
          | false =>
            rw [cond_false]
            exact next (by unfold pick; rw [hf]; rfl)
          | true =>
            have h4 := fc_less n hn m hm i hlt hf
            have hmo := or_lt n hn m hm i hlt
            have hvo := or_lt n hn v hv i hlt
            have hd1 := dep_le w n (m ||| 2 ^ i) v hn hmo
            have hd2 := dep_le w n (m ||| 2 ^ i) (v ||| 2 ^ i) hn hmo
            have hfc := fc_le n (m ||| 2 ^ i)
            rw [cond_true, spec_least_eq N hN n w hn hw _ v hmo hv, spec_least_eq N hN n w hn hw _ _ hmo hvo, mxI_nat, show (1 : Int) + ((max (dep_ w n (m ||| 2 ^ i) v) (dep_ w n (m ||| 2 ^ i) (v ||| 2 ^ i)) : Nat) : Int) = ((1 + max (dep_ w n (m ||| 2 ^ i) v) (dep_ w n (m ||| 2 ^ i) (v ||| 2 ^ i)) : Nat) : Int) by omega, w64_nat _ (by omega), natb]
            have hpk : pick w n m v i = (1 + max (dep_ w n (m ||| 2 ^ i) v) (dep_ w n (m ||| 2 ^ i) (v ||| 2 ^ i)) == dep_ w n m v) := by unfold pick; rw [hf, Bool.true_and]
            rw [← hpk]
            cases hpi : pick w n m v i with
            | false => rw [cond_false]; exact next hpi
            | true =>
              rw [hpi, if_pos rfl] at hst
              rw [← hst]
              have l1 := bst_small w n hn F (m ||| 2 ^ i) v hmo hv
              have l2 := bst_small w n hn F (m ||| 2 ^ i) (v ||| 2 ^ i) hmo hvo
              rw [cond_true, letters_size, gd_true (decide_eq_true (by omega)), gd_true (decide_eq_true (by omega)), gd_true (decide_eq_true (by omega)), gd_true (decide_eq_true (by omega)), Int.toNat_natCast, Int.toNat_natCast, letter_ext i (by omega), ih _ v (by omega) hmo hv (sub_or m v (2 ^ i) hvm).1, B_size, B_size, gd_true (decide_eq_true (by simp only [List.length_cons, List.length_nil]; omega)), ih _ _ (by omega) hmo hvo (sub_or m v (2 ^ i) hvm).2, B_app, B_size, B_size, gd_true (decide_eq_true (by simp only [List.length_append, List.length_cons, List.length_nil]; omega)), B_app]
              rfl
      exact key n N 0 (by omega) (by omega) ⟨_, Nat.zero_le _, by omega, f3⟩ rfl
end Go.Proofs.YtfdggelojmofmaaDoor
