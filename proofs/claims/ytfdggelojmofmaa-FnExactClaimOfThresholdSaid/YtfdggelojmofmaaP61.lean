/- Plain laws of the texts: the first weights of least sizes. -/
import Derived.Test.YtfdggelojmofmaaP60
namespace Go.Proofs.Ytfdggelojmofmaa
open Go.Rv
set_option linter.unusedVariables false
variable {β : Type}
def ab (d : Int) : Int := mxI d (w64 (0 - d))
theorem ab_le {d : Int} (h : -3 ≤ d ∧ d ≤ 3) : 0 ≤ ab d ∧ ab d ≤ 3 := by
  unfold ab mxI
  rw [w64_id (by omega) (by omega)]
  split <;> omega
/-- The sum of absolute values. -/
def sz : List Int → Int
  | [] => 0
  | a :: l => ab a + sz l
theorem sz_app : ∀ l m, sz (l ++ m) = sz l + sz m
  | [], m => by simp [sz]
  | a :: l, m => by simp only [List.cons_append, sz, sz_app l m]; omega
theorem sz_rev : ∀ l, sz l.reverse = sz l
  | [] => rfl
  | a :: l => by rw [List.reverse_cons, sz_app, sz_rev l]; simp only [sz]; omega
theorem sz_le : ∀ l : List Int, (∀ a ∈ l, -3 ≤ a ∧ a ≤ 3) → 0 ≤ sz l ∧ sz l ≤ 3 * (l.length : Int)
  | [], _ => by simp [sz]
  | a :: l, h => by
    have h1 := sz_le l fun b hb => h b (List.mem_cons_of_mem _ hb)
    have h2 := ab_le (h a List.mem_cons_self)
    simp only [sz, List.length_cons]
    omega
theorem sz_okW {w : List Int} (h : okW w) : 0 ≤ sz w ∧ sz w ≤ 12 := by
  have h1 := sz_le w h.2
  have h2 := h.1
  omega
theorem impl_sumOfSizes_eq (N : Nat) (hN : 64 < N) (w : List Int) (hw : okW w) (k : Int → Option β) : impl_sumOfSizes N w k = k (sz w) := by
  have hl := hw.1
  unfold impl_sumOfSizes
  have e : sz (w.take w.length) = sz w := by rw [List.take_length]
  rw [← e]
  refine loop_st (fun F i => impl_sumOfSizes_l0 N F (sz (w.take i)) w (w.length : Int) (i : Int) fun e => k e) w.length _ (fun F i hi => ?_) (fun F => ?_) N 0 (by omega) (by omega)
  · simp only [impl_sumOfSizes_l0, impl_sumOfSizes_l0b, impl_size1]
    have h1 := sz_le (w.take i) fun a ha => hw.2 a (List.mem_of_mem_take ha)
    have h2 := okW_rd hw i
    have h3 := ab_le h2
    have h4 : (w.take i).length ≤ 4 := Nat.le_trans (by rw [List.length_take]; exact Nat.min_le_right _ _) hl
    rw [decide_eq_true (by omega), cond_true, gd_true (decide_eq_true (by omega)), gd_true rfl, w64_succ i (by omega)]
    rw [show mxI (rd 0 w (i : Int)) (w64 (0 - rd 0 w (i : Int))) = ab (rd 0 w (i : Int)) from rfl, w64_id (by omega) (by omega), List.take_succ_eq_append_getElem hi, sz_app, rd_nat 0 w i hi]
    simp only [sz, Int.add_zero]
  · simp only [impl_sumOfSizes_l0, impl_sumOfSizes_l0b]
    rw [decide_eq_false (by omega), cond_false]

/-- The best weights of the first numbers. -/
def bst_ (W n : Nat) : Nat → List Int × Int × Bool
  | 0 => ([], 0, false)
  | c + 1 => if (thr W n (wv n c)).2 && (!(bst_ W n c).2.2 || decide (sz (wv n c) < sz (bst_ W n c).1)) then (wv n c, (thr W n (wv n c)).1, true) else bst_ W n c
theorem bst_ok (W n : Nat) (hn : n ≤ 4) : ∀ c, okW (bst_ W n c).1
  | 0 => ⟨Nat.zero_le _, fun a h => by cases h⟩
  | c + 1 => by
    simp only [bst_]
    split
    · exact okW_wv n c hn
    · exact bst_ok W n hn c
theorem pow7 : ∀ n, n ≤ 4 → 7 ^ n ≤ 2401 ∧ ((7 ^ n : Nat) : Int) * 7 ≤ 16807 := by decide +kernel

theorem spec_count7 (N : Nat) (hN : 64 < N) (n W : Nat) (hn : n ≤ 4) (k0 : Int → Int → Int → Option β) : spec_WeightsFor_l0 N N 1 0 (n : Int) (W : Int) k0 = k0 ((7 ^ n : Nat) : Int) n W := by
  refine loop_st (fun F i => spec_WeightsFor_l0 N F ((7 ^ i : Nat) : Int) (i : Int) (n : Int) (W : Int) k0) n _ (fun F i hi => ?_) (fun F => ?_) N 0 (by omega) (by omega)
  · simp only [spec_WeightsFor_l0, spec_WeightsFor_l0b]
    have := pow7 i (by omega)
    rw [decide_eq_true (by omega), cond_true, w64_succ i (by omega), show ((7 ^ i : Nat) : Int) * 7 = ((7 ^ (i + 1) : Nat) : Int) by rw [Nat.pow_succ]; push_cast; rfl, w64_nat _ (by have := pow7 (i + 1) (by omega); omega)]
  · simp only [spec_WeightsFor_l0, spec_WeightsFor_l0b]
    rw [decide_eq_false (by omega), cond_false]

theorem spec_digits (N : Nat) (hN : 64 < N) (n c : Nat) (hn : n ≤ 4) (hc : c < 2401) (v0 v1 v2 v8 : Int) (v9 : List Int) (k0 : Int → Int → Int → Int → Int → Int → Int → List Int → List Int → Option β) :
    spec_WeightsFor_l4 N N v0 v1 v2 (c : Int) (c : Int) 0 (w64 ((n : Int) - 1)) (n : Int) v8 v9 (List.replicate n 0) k0 = k0 v0 v1 v2 (c : Int) (sz (wv n c)) (n : Int) v8 v9 (wv n c) := by
  have hz : ∀ m, 0 ≤ sz (dg m c) ∧ sz (dg m c) ≤ 3 * (m : Int) := fun m => by
    have := sz_le (dg m c) (dg_range m c)
    rwa [dg_len] at this
  have := loop_st (fun F k => spec_WeightsFor_l4 N F v0 v1 v2 (c : Int) ((c / 7 ^ k : Nat) : Int) (sz (dg k c)) ((n : Int) - 1 - (k : Int)) (n : Int) v8 v9 (List.replicate (n - k) 0 ++ (dg k c).reverse) k0) n
    (k0 v0 v1 v2 (c : Int) (sz (wv n c)) (n : Int) v8 v9 (wv n c)) (fun F k hk => ?_) (fun F => ?_) N 0 (by omega) (by omega)
  · simpa [dg, sz, w64_id (x := (n : Int) - 1) (by omega) (by omega)] using this
  · simp only [spec_WeightsFor_l4, spec_WeightsFor_l4b]
    have h7 : c / 7 ^ k ≤ c := Nat.div_le_self _ _
    have hl : (List.replicate (n - k) (0 : Int) ++ (dg k c).reverse).length = n := by simp [dg_len]; omega
    have er : remI ((c / 7 ^ k : Nat) : Int) 7 = ((c / 7 ^ k % 7 : Nat) : Int) := rfl
    have eq : quoI .i64 ((c / 7 ^ k : Nat) : Int) 7 = ((c / 7 ^ (k + 1) : Nat) : Int) := by
      rw [Nat.pow_succ, ← Nat.div_div_eq_div_mul]
      exact wrap_small _ (Int.natCast_nonneg _) (by have := Nat.div_le_self (c / 7 ^ k) 7; show ((c / 7 ^ k / 7 : Nat) : Int) < _; omega)
    have hd : ∀ x : Int, wr (List.replicate (n - k) (0 : Int) ++ (dg k c).reverse) ((n : Int) - 1 - (k : Int)) x = List.replicate (n - (k + 1)) 0 ++ x :: (dg k c).reverse := fun x => by
      rw [show n - k = (n - (k + 1)) + 1 by omega, List.replicate_succ', List.append_assoc, show (n : Int) - 1 - (k : Int) = ((List.replicate (n - (k + 1)) (0 : Int)).length : Int) by simp; omega]
      exact wr_mid _ _ _ _
    have hr : ∀ x : Int, rd 0 (List.replicate (n - (k + 1)) 0 ++ x :: (dg k c).reverse) ((n : Int) - 1 - (k : Int)) = x := fun x => by
      rw [show (n : Int) - 1 - (k : Int) = ((List.replicate (n - (k + 1)) (0 : Int)).length : Int) by simp; omega]
      exact rd_mid _ _ _
    have hl2 : ∀ x : Int, (List.replicate (n - (k + 1)) (0 : Int) ++ x :: (dg k c).reverse).length = n := fun x => by simp [dg_len]; omega
    have h1 := hz k
    have h2 : -3 ≤ ((c / 7 ^ k % 7 : Nat) : Int) - 3 ∧ ((c / 7 ^ k % 7 : Nat) : Int) - 3 ≤ 3 := by omega
    have h3 := ab_le h2
    rw [er, eq, w64_id (x := ((c / 7 ^ k % 7 : Nat) : Int) - 3) (by omega) (by omega)]
    simp only [hd, hr, hl, hl2]
    rw [decide_eq_true (by omega), decide_eq_true (by omega)]
    simp only [gd, cond_true]
    rw [show mxI (((c / 7 ^ k % 7 : Nat) : Int) - 3) (w64 (0 - (((c / 7 ^ k % 7 : Nat) : Int) - 3))) = ab (((c / 7 ^ k % 7 : Nat) : Int) - 3) from rfl, w64_id (x := sz (dg k c) + _) (by omega) (by omega), w64_id (x := (n : Int) - 1 - (k : Int) - 1) (by omega) (by omega)]
    rw [dg_snoc, sz_app, List.reverse_append]
    simp only [sz, Int.add_zero, List.reverse_cons, List.reverse_nil, List.nil_append, List.cons_append]
    congr 1
    omega
  · simp only [spec_WeightsFor_l4, spec_WeightsFor_l4b]
    rw [decide_eq_false (by omega), cond_false, Nat.sub_self]
    simp only [List.replicate_zero, List.nil_append, wv, sz_rev]

theorem spec_WeightsFor_n (N : Nat) (hN : 1048576 < N) (n W : Nat) (hn : n ≤ 4) (hW : W < 2 ^ 2 ^ n) (k : List Int → Int → Bool → Option β) :
    spec_WeightsFor N (n : Int) (W : Int) k = k (bst_ W n (7 ^ n)).1 (bst_ W n (7 ^ n)).2.1 (bst_ W n (7 ^ n)).2.2 := by
  have hW' := two32 (by omega) hW
  have h7 := pow7 n hn
  have hz7 : (0 : Int) ≤ ((7 ^ n : Nat) : Int) := Int.natCast_nonneg _
  have hsz : ∀ c, 0 ≤ sz (bst_ W n c).1 ∧ sz (bst_ W n c).1 ≤ 12 := fun c => sz_okW (bst_ok W n hn c)
  unfold spec_WeightsFor
  rw [spec_IsTable_eq, isTn (by omega) hW, Bool.not_true, cond_false, decide_eq_false (by omega), cond_false, spec_count7 N (by omega) n W hn]
  refine loop_st (fun F c => spec_WeightsFor_l2 N F ((7 ^ n : Nat) : Int) (cond (bst_ W n c).2.2 (sz (bst_ W n c).1) 100) (bst_ W n c).2.1 (c : Int) (n : Int) (W : Int) (bst_ W n c).1 fun e0 e1 e2 => k e2 e1 (decide (e0 < 100))) (7 ^ n) _ (fun F c hc => ?_) (fun F => ?_) N 0 (by omega) (by omega)
  · simp only [spec_WeightsFor_l2, spec_WeightsFor_l2b]
    have h1 := sz_okW (okW_wv n c hn)
    have h2 := hsz c
    rw [decide_eq_true (show (c : Int) < ((7 ^ n : Nat) : Int) by omega), cond_true, gd_true (decide_eq_true (by omega)), gd_true (decide_eq_true (by omega)), gd_true (decide_eq_true (by omega)), Int.toNat_natCast, spec_digits N (by omega) n c hn (by omega), spec_l16Fits_eq N (by omega) n W (by omega) hW' _ (okW_wv n c hn), w64_succ c (by omega)]
    simp only [bst_]
    cases hf : (bst_ W n c).2.2 with
    | false =>
      rw [cond_false, decide_eq_false (by omega), cond_false, Bool.not_false, Bool.true_or, Bool.and_true]
      cases ht : (thr W n (wv n c)).2 with
      | true => rfl
      | false =>
        rw [cond_false, if_neg (by decide), hf]
        rfl
    | true =>
      rw [cond_true, Bool.not_true, Bool.false_or]
      by_cases hlt : sz (wv n c) < sz (bst_ W n c).1
      · rw [decide_eq_false (by omega), cond_false, decide_eq_true hlt, Bool.and_true]
        cases ht : (thr W n (wv n c)).2 with
        | true => rfl
        | false =>
          rw [cond_false, if_neg (by decide), hf]
          rfl
      · rw [decide_eq_true (by omega), cond_true, decide_eq_false hlt, Bool.and_false, if_neg (by decide), hf]
        rfl
  · simp only [spec_WeightsFor_l2, spec_WeightsFor_l2b]
    have h2 := hsz (7 ^ n)
    rw [decide_eq_false (by omega), cond_false]
    cases hf : (bst_ W n (7 ^ n)).2.2 with
    | false => rfl
    | true => rw [cond_true, decide_eq_true (by omega)]

theorem impl_odometer (N : Nat) (b : Int) (f : Bool) (n W : Int) (best : List Int) (k0 : Int → Bool → Int → Int → Int → List Int → List Int → Option β) : ∀ (l : List Int) (F j : Nat), l.length < 5 → l.length < F →
    (inc l = none ∧ impl_WeightsFor_l2 N F b f ((l.length : Int) - 1) n W (l.reverse ++ List.replicate j (-3)) best k0 = k0 b f (-1) n W (List.replicate (l.length + j) (-3)) best) ∨
    (∃ l' q a r, inc l = some l' ∧ l'.reverse ++ List.replicate j (-3) = q ++ (a + 1) :: r ∧ a ∈ l ∧
      impl_WeightsFor_l2 N F b f ((l.length : Int) - 1) n W (l.reverse ++ List.replicate j (-3)) best k0 = k0 b f (q.length : Int) n W (q ++ a :: r) best)
  | [], F, j, hl, hF => by
    obtain ⟨G, rfl⟩ : ∃ G, F = G + 1 := ⟨F - 1, by simp at hF; omega⟩
    refine .inl ⟨rfl, ?_⟩
    simp only [impl_WeightsFor_l2, impl_WeightsFor_l2b]
    rw [show ((([] : List Int).length : Nat) : Int) - 1 = -1 from rfl, decide_eq_false (by omega), cond_false]
    simp
  | a :: l, F, j, hl, hF => by
    obtain ⟨G, rfl⟩ : ∃ G, F = G + 1 := ⟨F - 1, by simp at hF; omega⟩
    simp only [List.length_cons] at hl hF
    have hi : (((a :: l).length : Nat) : Int) - 1 = (l.reverse.length : Int) := by simp
    have e : (a :: l).reverse ++ List.replicate j (-3) = l.reverse ++ a :: List.replicate j (-3) := by simp
    have hlen : decide ((l.reverse.length : Int) < ((l.reverse ++ a :: List.replicate j (-3)).length : Int)) = true := decide_eq_true (by simp; omega)
    rw [hi, e]
    simp only [impl_WeightsFor_l2, impl_WeightsFor_l2b, hlen, rd_mid, wr_mid]
    rw [decide_eq_true (by omega)]
    simp only [gd, cond_true, inc]
    by_cases h3 : a = 3
    · subst h3
      rw [if_pos rfl, show ((3 : Int) == 3) = true from rfl, cond_true, show w64 ((l.reverse.length : Int) - 1) = ((l.length : Nat) : Int) - 1 by rw [List.length_reverse, w64_id (by omega) (by omega)]]
      have e2 : l.reverse ++ (-3) :: List.replicate j (-3) = l.reverse ++ List.replicate (j + 1) (-3) := by rw [List.replicate_succ]
      rw [e2]
      rcases impl_odometer N b f n W best k0 l G (j + 1) (by omega) (by omega) with ⟨h1, h2⟩ | ⟨l', q, a', r, h1, h2, h3, h4⟩
      · refine .inl ⟨by rw [h1]; rfl, ?_⟩
        rw [h2]
        congr 2
        simp; omega
      · refine .inr ⟨-3 :: l', q, a', r, by rw [h1]; rfl, ?_, List.mem_cons_of_mem _ h3, h4⟩
        rw [← h2, List.reverse_cons, List.append_assoc, List.replicate_succ]
        rfl
    · rw [if_neg h3, beq_eq_false_iff_ne.2 h3, cond_false]
      refine .inr ⟨(a + 1) :: l, l.reverse, a, List.replicate j (-3), rfl, by simp, List.mem_cons_self, rfl⟩

theorem impl_WeightsFor_loop (N : Nat) (hN : 1048576 < N) (n W : Nat) (hn : n ≤ 4) (hW : W < 2 ^ 2 ^ n) (k0 : Int → Bool → List Int → Option β) : ∀ (d F c : Nat), c + d + 1 = 7 ^ n → d < F →
    impl_WeightsFor_l0 N F (bst_ W n c).2.1 (bst_ W n c).2.2 (n : Int) (W : Int) (wv n c) (bst_ W n c).1 k0 = k0 (bst_ W n (7 ^ n)).2.1 (bst_ W n (7 ^ n)).2.2 (bst_ W n (7 ^ n)).1 := by
  have hW' := two32 (by omega) hW
  intro d
  induction d with
  | zero =>
    intro F c hc hF
    obtain ⟨G, rfl⟩ : ∃ G, F = G + 1 := ⟨F - 1, by omega⟩
    simp only [impl_WeightsFor_l0, impl_WeightsFor_l0b]
    have hcl : decide ((wv n c).length * 8 ≤ 140737488355328) = true := decide_eq_true (by rw [wv_len]; omega)
    rw [impl_threshold_eq N (by omega) n W (by omega) hW' _ (okW_wv n c hn), impl_sumOfSizes_eq N (by omega) _ (okW_wv n c hn), impl_sumOfSizes_eq N (by omega) _ (bst_ok W n hn c)]
    simp only [slices_Clone_Sint_int, hcl, gd, cond_true]
    have hodo : ∀ (b : Int) (f : Bool) (best : List Int) (K : Int → Bool → Int → Int → Int → List Int → List Int → Option β), impl_WeightsFor_l2 N N b f (w64 ((n : Int) - 1)) n W (wv n c) best K = K b f (-1) n W (List.replicate n (-3)) best := fun b f best K => by
      have := impl_odometer N b f n W best K (dg n c) N 0 (by rw [dg_len]; omega) (by rw [dg_len]; omega)
      rw [inc_dg n c (by omega), if_neg (by omega)] at this
      rcases this with ⟨_, h⟩ | ⟨_, _, _, _, h, _⟩
      · rw [dg_len] at h
        rw [w64_id (by omega) (by omega)]
        simpa [wv] using h
      · cases h
    simp only [hodo]
    rw [show (7 ^ n : Nat) = c + 1 by omega]
    simp only [bst_]
    cases ht : (thr W n (wv n c)).2 with
    | false => rfl
    | true =>
      cases hf : (bst_ W n c).2.2 with
      | false => rfl
      | true =>
        rw [Bool.not_true, Bool.false_or, Bool.true_and, cond_true, cond_false]
        cases hd : decide (sz (wv n c) < sz (bst_ W n c).1) with
        | true => rfl
        | false =>
          rw [if_neg (by decide), hf]
          rfl
  | succ d ih =>
    intro F c hc hF
    obtain ⟨G, rfl⟩ : ∃ G, F = G + 1 := ⟨F - 1, by omega⟩
    simp only [impl_WeightsFor_l0, impl_WeightsFor_l0b]
    have hcl : decide ((wv n c).length * 8 ≤ 140737488355328) = true := decide_eq_true (by rw [wv_len]; omega)
    rw [impl_threshold_eq N (by omega) n W (by omega) hW' _ (okW_wv n c hn), impl_sumOfSizes_eq N (by omega) _ (okW_wv n c hn), impl_sumOfSizes_eq N (by omega) _ (bst_ok W n hn c)]
    simp only [slices_Clone_Sint_int, hcl, gd, cond_true]
    have hodo : ∀ (b : Int) (f : Bool) (best : List Int) (K : Int → Bool → Int → Int → List Int → List Int → Option β), (impl_WeightsFor_l2 N N b f (w64 ((n : Int) - 1)) n W (wv n c) best fun e0 e1 e2 e3 e4 e5 e6 =>
        cond (decide (e2 < 0)) (k0 e0 e1 e6) (cond (decide (0 ≤ e2)) (cond (decide (e2 < (e5.length : Int))) (cond (decide (0 ≤ e2)) (cond (decide (e2 < (e5.length : Int))) (K e0 e1 e3 e4 (wr e5 e2 (w64 (rd 0 e5 e2 + 1))) e6) none) none) none) none)) = K b f n W (wv n (c + 1)) best := fun b f best K => by
      have := impl_odometer N b f n W best (fun e0 e1 e2 e3 e4 e5 e6 =>
        cond (decide (e2 < 0)) (k0 e0 e1 e6) (cond (decide (0 ≤ e2)) (cond (decide (e2 < (e5.length : Int))) (cond (decide (0 ≤ e2)) (cond (decide (e2 < (e5.length : Int))) (K e0 e1 e3 e4 (wr e5 e2 (w64 (rd 0 e5 e2 + 1))) e6) none) none) none) none)) (dg n c) N 0 (by rw [dg_len]; omega) (by rw [dg_len]; omega)
      rw [inc_dg n c (by omega), if_pos (by omega)] at this
      rcases this with ⟨h, _⟩ | ⟨l', q, a, r, h1, h2, h3, h4⟩
      · cases h
      · cases h1
        have ha := dg_range n c a h3
        rw [dg_len] at h4
        rw [w64_id (by omega) (by omega)]
        have e : (dg n c).reverse ++ List.replicate 0 (-3) = wv n c := by simp [wv]
        rw [e] at h4
        rw [h4, decide_eq_false (by omega), cond_false, decide_eq_true (by omega), cond_true, decide_eq_true (by simp; omega), cond_true, cond_true, cond_true, rd_mid, wr_mid, w64_id (by omega) (by omega), ← h2]
        simp [wv]
    have key := ih G (c + 1) (by omega) (by omega)
    simp only [bst_] at key
    cases ht : (thr W n (wv n c)).2 with
    | false =>
      rw [ht, Bool.false_and, if_neg (by decide)] at key
      rw [cond_false]
      refine (hodo _ _ _ (fun a b c d e f => impl_WeightsFor_l0 N G a b c d e f k0)).trans ?_
      exact key
    | true =>
      rw [ht, Bool.true_and] at key
      rw [cond_true]
      cases hf : (bst_ W n c).2.2 with
      | false =>
        rw [hf, Bool.not_false, Bool.true_or, if_pos rfl] at key
        rw [Bool.not_false, cond_true]
        refine (hodo _ _ _ (fun a b c d e f => impl_WeightsFor_l0 N G a b c d e f k0)).trans ?_
        exact key
      | true =>
        rw [hf, Bool.not_true, Bool.false_or] at key
        rw [Bool.not_true, cond_false]
        cases hd : decide (sz (wv n c) < sz (bst_ W n c).1) with
        | true =>
          rw [hd, if_pos rfl] at key
          rw [cond_true]
          refine (hodo _ _ _ (fun a b c d e f => impl_WeightsFor_l0 N G a b c d e f k0)).trans ?_
          exact key
        | false =>
          rw [hd, if_neg (by decide), hf] at key
          rw [cond_false]
          refine (hodo _ _ _ (fun a b c d e f => impl_WeightsFor_l0 N G a b c d e f k0)).trans ?_
          exact key

theorem impl_WeightsFor_n (N : Nat) (hN : 1048576 < N) (n W : Nat) (hn : n ≤ 4) (hW : W < 2 ^ 2 ^ n) (k : List Int → Int → Bool → Option β) :
    impl_WeightsFor N (n : Int) (W : Int) k = k (bst_ W n (7 ^ n)).1 (bst_ W n (7 ^ n)).2.1 (bst_ W n (7 ^ n)).2.2 := by
  have hW' := two32 (by omega) hW
  have hsm : smallT (n : Int) (W : Int) 4 = true := by unfold smallT; rw [isTn (by omega) hW, decide_eq_true (by omega)]; rfl
  unfold impl_WeightsFor
  rw [impl_isSmall_eq N _ _ 4 (by omega), hsm, Bool.not_true, cond_false]
  unfold slices_Repeat_Sint_int
  rw [gd_true (by rfl), gd_true (decide_eq_true (by omega)), gd_true (decide_eq_true (by omega)), Int.toNat_natCast]
  have e : ∀ m, List.replicate m (-3) = wv m 0 := fun m => by
    unfold wv
    have : ∀ m, dg m 0 = List.replicate m (-3) := fun m => by
      induction m with
      | zero => rfl
      | succ m ih => rw [dg, List.replicate_succ, Nat.zero_div, ih]; rfl
    rw [this m, List.reverse_replicate]
  have e2 : (([] : List Int) ++ [-3]).getD 0 0 = -3 := rfl
  have h7 := pow7 n hn
  have hz7 : (0 : Int) ≤ ((7 ^ n : Nat) : Int) := Int.natCast_nonneg _
  have hp : 0 < 7 ^ n := Nat.pow_pos (by decide)
  rw [e2, e n]
  exact impl_WeightsFor_loop N hN n W hn hW (fun a b c => k c a b) (7 ^ n - 1) N 0 (by omega) (by omega)
end Go.Proofs.Ytfdggelojmofmaa
