/- Plain laws of the texts: the best tree, as the other text finds it. -/
import Derived.Test.YtfdggelojmofmaaDoorP57
namespace Go.Proofs.YtfdggelojmofmaaDoor
open Go.Rv
set_option linter.unusedVariables false
variable {β : Type}
theorem impl_left_eq (N : Nat) (hN : 64 < N) (n w : Nat) (hn : n ≤ 4) (hw : w < 2 ^ 2 ^ n) (m v : Nat) (mp mp5 : Mp) (hm : m < 2 ^ n) (hv : v < 2 ^ n) (hM : Mem w n mp) :
    ∃ mp', Mem w n mp' ∧ ∀ k0 : Int → Int → Int → Mp → Mp → Option β, impl_asker_left_g0 N (m : Int) (v : Int) (n : Int) (w : Int) mp mp5 k0 = k0 (dep_ w n m v : Int) n w mp' mp5 := by
  have := fc_le n m
  exact impl_left_f N hN n w hn hw N m v mp mp5 (by omega) hm hv hM
theorem with_eq (N m v i : Nat) (hm : m < 16) (hv : v < 16) (hi : i < 4) (K : Int → Int → Option β) :
    impl_known_with N (m : Int) (v : Int) (i : Int) 0 K = K ((m ||| 2 ^ i : Nat) : Int) v ∧ impl_known_with N (m : Int) (v : Int) (i : Int) 1 K = K ((m ||| 2 ^ i : Nat) : Int) ((v ||| 2 ^ i : Nat) : Int) := by
  have hp : 2 ^ i < 2 ^ 4 := Nat.pow_lt_pow_right (by decide) (by omega)
  unfold impl_known_with
  rw [shl_zero, shl_one i (by omega), or_zero_int v (by omega), bOr m _ (by omega) (by omega), bOr v _ (by omega) (by omega), gd_true (decide_eq_true (by omega : (0 : Int) ≤ (i : Int))), gd_true (decide_eq_true (by omega : (0 : Int) ≤ (i : Int)))]
  rw [gd_true (decide_eq_true (by omega : (0 : Int) ≤ (i : Int)))]
  exact ⟨rfl, rfl⟩

theorem impl_first_eq (N : Nat) (hN : 64 < N) (n w : Nat) (hn : n ≤ 4) (hw : w < 2 ^ 2 ^ n) (m v : Nat) (mp mp5 : Mp) (hm : m < 2 ^ n) (hv : v < 2 ^ n) (hM : Mem w n mp) :
    ∃ mp', Mem w n mp' ∧ ∀ k0 : Int → Int → Int → Mp → Mp → Option β, impl_asker_first_g0 N (m : Int) (v : Int) (n : Int) (w : Int) mp mp5 k0 =
      k0 (if bothV w n m v then (fstI (pick w n m v) n 0 : Int) else -1) n w mp' mp5 := by
  have hs := size4 hn
  have hw' := two32 (by omega) hw
  unfold impl_asker_first_g0
  obtain ⟨mp1, hM1, he1⟩ := impl_left_eq (β := β) N hN n w hn hw m v mp mp5 hm hv hM
  simp only [he1]
  cases hx : bothV w n m v with
  | false =>
    refine ⟨mp1, hM1, fun k0 => ?_⟩
    rw [if_neg (by decide)]
    have hd := dep_eq w n m v hn hm
    rw [hx, if_neg (by decide)] at hd
    rw [hd]
    refine loop_st (fun F i => impl_asker_first_l0 N F ((0 : Nat) : Int) (n : Int) (i : Int) (n : Int) (w : Int) mp1 mp5 (m : Int) (v : Int) k0 (fun a b c d => k0 (-1) a b c d)) n _ ?_ ?_ N 0 (Nat.zero_le _) (by omega)
    · intro F i hi
      simp only [impl_asker_first_l0, impl_asker_first_l0b]
      rw [decide_eq_true (by omega : (i : Int) < (n : Int)), cond_true, decide_eq_false (by decide : ¬ ((0 : Nat) : Int) > 0), cond_false, w64_succ i (by omega)]
    · intro F
      simp only [impl_asker_first_l0, impl_asker_first_l0b]
      rw [decide_eq_false (by omega : ¬ (n : Int) < (n : Int)), cond_false]
  | true =>
    obtain ⟨f1, f2, f3⟩ := fst_free hn hm hx
    have hpos : 0 < dep_ w n m v := by
      have := f3
      unfold pick at this
      simp only [Bool.and_eq_true, beq_iff_eq] at this
      omega
    have key : ∀ (d G i : Nat) (mp : Mp), i + d = n → d < G → Mem w n mp → (∃ j, i ≤ j ∧ j < i + d ∧ pick w n m v j = true) → fstI (pick w n m v) d i = fstI (pick w n m v) n 0 →
        ∃ mp', Mem w n mp' ∧ ∀ (k0 : Int → Int → Int → Mp → Mp → Option β) (k1 : Int → Int → Mp → Mp → Option β),
          impl_asker_first_l0 N G (dep_ w n m v : Int) (n : Int) (i : Int) (n : Int) (w : Int) mp mp5 (m : Int) (v : Int) k0 k1 = k0 (fstI (pick w n m v) n 0 : Int) n w mp' mp5 := by
      intro d
      induction d with
      | zero => intro G i mp _ _ _ ⟨j, h1, h2, _⟩; omega
      | succ d ihd =>
        intro G i mp hi hG hM hex hst
        obtain ⟨G, rfl⟩ : ∃ H, G = H + 1 := ⟨G - 1, by omega⟩
        have hlt : i < n := by omega
        simp only [impl_asker_first_l0, impl_asker_first_l0b]
        simp only [decide_eq_true (by omega : (i : Int) < (n : Int)), decide_eq_true (by omega : (dep_ w n m v : Int) > 0), cond_true, gd_true (decide_eq_true (by omega : (0 : Int) ≤ (i : Int))), w64_succ i (by omega), fun K => (with_eq (β := β) N m v i (by omega) (by omega) (by omega) K).1, fun K => (with_eq (β := β) N m v i (by omega) (by omega) (by omega) K).2, bit_at m i (by omega)]
        have eb : ((((if m.testBit i then 1 else 0 : Nat) : Int)) == 0) = free m i := by
          unfold free
          cases m.testBit i <;> rfl
        rw [eb]
        simp only [fstI] at hst
        have next : pick w n m v i = false → ∀ mp, Mem w n mp → ∃ mp', Mem w n mp' ∧ ∀ (k0 : Int → Int → Int → Mp → Mp → Option β) (k1 : Int → Int → Mp → Mp → Option β),
            impl_asker_first_l0 N G (dep_ w n m v : Int) (n : Int) ((i + 1 : Nat) : Int) (n : Int) (w : Int) mp mp5 (m : Int) (v : Int) k0 k1 = k0 (fstI (pick w n m v) n 0 : Int) n w mp' mp5 := by
          intro hno mp hM
          rw [hno, if_neg (by decide)] at hst
          refine ihd G (i + 1) mp (by omega) (by omega) hM ?_ hst
          obtain ⟨j, h1, h2, h3⟩ := hex
          have hne : j ≠ i := fun e => by rw [e, hno] at h3; cases h3
          exact ⟨j, by omega, by omega, h3⟩
        cases hf : free m i with
        | false =>
          simp only [cond_false]
          exact next (by unfold pick; rw [hf]; rfl) mp hM
        | true =>
          have hmo := or_lt n hn m hm i hlt
          have hvo := or_lt n hn v hv i hlt
          have hpk := pick_less w n m v i hn hm hx hlt hf
          obtain ⟨mpa, hMa, hea⟩ := impl_left_eq (β := β) N hN n w hn hw (m ||| 2 ^ i) v mp mp5 hmo hv hM
          obtain ⟨mpb, hMb, heb⟩ := impl_left_eq (β := β) N hN n w hn hw (m ||| 2 ^ i) (v ||| 2 ^ i) mpa mp5 hmo hvo hMa
          have c1 : decide (((dep_ w n (m ||| 2 ^ i) v : Nat) : Int) < (dep_ w n m v : Int)) = decide (dep_ w n (m ||| 2 ^ i) v < dep_ w n m v) := decide_eq_decide.2 (by omega)
          have c2 : decide (((dep_ w n (m ||| 2 ^ i) (v ||| 2 ^ i) : Nat) : Int) < (dep_ w n m v : Int)) = decide (dep_ w n (m ||| 2 ^ i) (v ||| 2 ^ i) < dep_ w n m v) := decide_eq_decide.2 (by omega)
          simp only [cond_true, hea, heb, c1, c2]
          cases d1 : decide (dep_ w n (m ||| 2 ^ i) v < dep_ w n m v) with
          | false =>
            rw [d1, Bool.false_and] at hpk
            simp only [cond_false]
            exact next hpk mpa hMa
          | true =>
            cases d2 : decide (dep_ w n (m ||| 2 ^ i) (v ||| 2 ^ i) < dep_ w n m v) with
            | false =>
              rw [d1, d2] at hpk
              simp only [cond_false, cond_true]
              exact next hpk mpb hMb
            | true =>
              rw [d1, d2] at hpk
              have hpk : pick w n m v i = true := hpk
              rw [hpk, if_pos rfl] at hst
              rw [← hst]
              exact ⟨mpb, hMb, fun k0 k1 => rfl⟩
    obtain ⟨mp', hM', he⟩ := key n N 0 mp1 (by omega) (by omega) hM1 ⟨_, Nat.zero_le _, by omega, f3⟩ rfl
    exact ⟨mp', hM', fun k0 => by rw [if_pos rfl]; exact he _ _⟩

theorem itoa_bit (b : Bool) : Lib.itoa (if b then 1 else 0 : Int) = [if b then 49 else 48] := by
  cases b
  · show Lib.itoa 0 = [48]
    unfold Lib.itoa
    rw [if_neg (by decide), Lib.decDigits, dif_pos (by decide)]
    rfl
  · show Lib.itoa 1 = [49]
    unfold Lib.itoa
    rw [if_neg (by decide), Lib.decDigits, dif_pos (by decide)]
    rfl
theorem impl_best_f (N : Nat) (hN : 64 < N) (n w : Nat) (hn : n ≤ 4) (hw : w < 2 ^ 2 ^ n) : ∀ (F m v : Nat) (mp mp5 : Mp), fc n m < F → m < 2 ^ n → v < 2 ^ n → Mem w n mp →
    ∃ mp', Mem w n mp' ∧ ∀ k0 : ByteArray → Int → Int → Mp → Mp → Option β, impl_asker_best_g0_f N F (m : Int) (v : Int) (n : Int) (w : Int) mp mp5 k0 = k0 (B (bst w n F m v)) n w mp' mp5 := by
  have hs := size4 hn
  have hw' := two32 (by omega) hw
  intro F
  induction F with
  | zero => intro m v mp mp5 h; omega
  | succ F ih =>
    intro m v mp mp5 hF hm hv hM
    simp only [impl_asker_best_g0_f, impl_asker_best_g0_b]
    obtain ⟨mp1, hM1, he⟩ := impl_first_eq (β := β) N hN n w hn hw m v mp mp5 hm hv hM
    simp only [he, bst]
    cases hx : bothV w n m v with
    | false =>
      refine ⟨mp1, hM1, fun k0 => ?_⟩
      rw [if_neg (by decide), if_neg (by decide), decide_eq_true (by decide : (-1 : Int) < 0), cond_true, impl_cube_eq N hN n w m v (by omega) hw' (by omega)]
      have e : (cond (sc w m v false (2 ^ n)) (cond (sc w m v true (2 ^ n)) (2 : Int) 0) (cond (sc w m v true (2 ^ n)) 1 0)) = (if sc w m v true (2 ^ n) then 1 else 0 : Int) := by
        unfold bothV at hx
        revert hx
        cases sc w m v false (2 ^ n) <;> cases sc w m v true (2 ^ n) <;> decide
      rw [e, impl_FormatInt_eq N _ (by cases sc w m v true (2 ^ n) <;> exact ⟨by decide, by decide⟩), itoa_bit]
    | true =>
      obtain ⟨f1, f2, _⟩ := fst_free hn hm hx
      simp only [if_true]
      generalize fstI (pick w n m v) n 0 = i at f1 f2 ⊢
      have h4 := fc_less n hn m hm i f1 f2
      have hmo := or_lt n hn m hm i f1
      have hvo := or_lt n hn v hv i f1
      obtain ⟨mpa, hMa, hea⟩ := ih (m ||| 2 ^ i) v mp1 mp5 (by omega) hmo hv hM1
      obtain ⟨mpb, hMb, heb⟩ := ih (m ||| 2 ^ i) (v ||| 2 ^ i) mpa mp5 (by omega) hmo hvo hMa
      refine ⟨mpb, hMb, fun k0 => ?_⟩
      have l1 := bst_small w n hn F (m ||| 2 ^ i) v hmo hv
      have l2 := bst_small w n hn F (m ||| 2 ^ i) (v ||| 2 ^ i) hmo hvo
      generalize bst w n F (m ||| 2 ^ i) v = b1 at hea l1 ⊢
      generalize bst w n F (m ||| 2 ^ i) (v ||| 2 ^ i) = b2 at heb l2 ⊢
      have g1 : decide (([UInt8.ofNat (97 + i)] : List UInt8).length + b1.length ≤ 9223372036854775807) = true := decide_eq_true (by simp only [List.length_cons, List.length_nil]; omega)
      have g2 : decide ((([UInt8.ofNat (97 + i)] : List UInt8) ++ b1).length + b2.length ≤ 9223372036854775807) = true := decide_eq_true (by simp only [List.length_append, List.length_cons, List.length_nil]; omega)
      rw [decide_eq_false (by omega : ¬ (i : Int) < 0), cond_false]
      simp only [fun K => (with_eq (β := β) N m v i (by omega) (by omega) (by omega) K).1, fun K => (with_eq (β := β) N m v i (by omega) (by omega) (by omega) K).2, hea, heb, letter_w8 i (by omega), B_app, B_size, g1, g2, gd, cond_true, impl_asker_best_t4, beq_self_eq_true, decide_true]
      rfl

/-- What both texts answer for the best tree. -/
def bestT (N : Nat) (a0 a1 : Int) : List UInt8 := if smallT a0 a1 4 then bst a1.toNat a0.toNat N 0 0 else []
theorem spec_BestTree_eq (N : Nat) (hN : 64 < N) (a0 a1 : Int) (k : ByteArray → Bool → Option β) : spec_BestTree N a0 a1 k = k (B (bestT N a0 a1)) (smallT a0 a1 4) := by
  unfold spec_BestTree bestT
  rw [spec_IsTable_eq]
  cases ht : isT a0 a1 with
  | false =>
    have hs : smallT a0 a1 4 = false := by unfold smallT; rw [ht]; rfl
    rw [hs]; rfl
  | true =>
    obtain ⟨n, w, rfl, rfl, hn, hw, _⟩ := isT_nat ht
    by_cases h : n ≤ 4
    · have hs : smallT (n : Int) (w : Int) 4 = true := by unfold smallT; rw [ht, decide_eq_true (by omega)]; rfl
      have hfc := fc_le n 0
      have e := spec_best_f (β := β) N hN n w h hw N 0 0 (by omega) (Nat.two_pow_pos n) (Nat.two_pow_pos n) rfl fun r => k r true
      simp only [Int.natCast_zero] at e
      rw [hs, if_pos rfl, Bool.not_true, cond_false, decide_eq_false (by omega), cond_false]
      exact e
    · have hs : smallT (n : Int) (w : Int) 4 = false := by unfold smallT; rw [ht, decide_eq_false (by omega)]; rfl
      rw [hs, Bool.not_true, cond_false, decide_eq_true (by omega), cond_true]
      rfl
theorem impl_BestTree_eq (N : Nat) (hN : 64 < N) (a0 a1 : Int) (h1 : a1 < 9223372036854775808) (k : ByteArray → Bool → Option β) : impl_BestTree N a0 a1 k = k (B (bestT N a0 a1)) (smallT a0 a1 4) := by
  unfold impl_BestTree bestT
  rw [impl_isSmall_eq N a0 a1 4 h1]
  cases hs : smallT a0 a1 4 with
  | false => rfl
  | true =>
    have h := hs
    simp only [smallT, Bool.and_eq_true, decide_eq_true_eq] at h
    obtain ⟨n, w, rfl, rfl, hn, hw, _⟩ := isT_nat h.1
    have hfc := fc_le n 0
    obtain ⟨mp', _, e⟩ := impl_best_f (β := β) N hN n w (by omega) hw N 0 0 [] [] (by omega) (Nat.two_pow_pos n) (Nat.two_pow_pos n) (fun m v h => by cases h)
    simp only [Int.natCast_zero] at e
    rw [if_pos rfl, Bool.not_true, cond_false]
    unfold impl_Table_asking_g0 impl_asker_best_g0
    exact e _
theorem bestT_len (N : Nat) (a0 a1 : Int) : (bestT N a0 a1).length ≤ 31 := by
  unfold bestT
  cases hs : smallT a0 a1 4 with
  | false => exact Nat.zero_le _
  | true =>
    have h := hs
    simp only [smallT, Bool.and_eq_true, decide_eq_true_eq] at h
    obtain ⟨n, w, rfl, rfl, hn, hw, _⟩ := isT_nat h.1
    rw [if_pos rfl]
    exact bst_small w n (by omega) N 0 0 (Nat.two_pow_pos n) (Nat.two_pow_pos n)
end Go.Proofs.YtfdggelojmofmaaDoor
