/- Simple games: powers, veto and dummy players; the line of a game. -/
import Derived.Test.YtfdggelojmofmaaDoorP47
namespace Go.Proofs.YtfdggelojmofmaaDoor
open Go.Rv
variable {β : Type}
/-- The sum of what coalitions count that a player turns. -/
def pw (cf : Nat → Int) (w i : Nat) : Nat → Int
  | 0 => 0
  | x + 1 => cond (!x.testBit i && (w.testBit x != w.testBit (x ^^^ 2 ^ i))) (w64 (pw cf w i x + cf (ones x))) (pw cf w i x)
theorem pw_in (cf : Nat → Int) (w i : Nat) : ∀ x, in64 (pw cf w i x)
  | 0 => by unfold pw in64; omega
  | x + 1 => by
    have h1 := pw_in cf w i x
    simp only [pw]
    cases (!x.testBit i && (w.testBit x != w.testBit (x ^^^ 2 ^ i))) with
    | false => exact h1
    | true => exact w64_in _
def pws (cf : Nat → Int) (w n m : Nat) : List Int := (List.range m).map fun i => pw cf w i (2 ^ n)
theorem pws_len (cf : Nat → Int) (w n m : Nat) : (pws cf w n m).length = m := by simp [pws]
theorem pws_succ (cf : Nat → Int) (w n m : Nat) : pws cf w n (m + 1) = pws cf w n m ++ [pw cf w m (2 ^ n)] := by simp [pws, List.range_succ]
theorem pws_in (cf : Nat → Int) (w n m : Nat) : ∀ x ∈ pws cf w n m, in64 x := by
  intro x hx
  simp only [pws, List.mem_map] at hx
  obtain ⟨i, _, rfl⟩ := hx
  exact pw_in cf w i _
theorem ones_free : ∀ n, n ≤ 5 → ∀ i, i < n → ∀ x, x < 2 ^ n → x.testBit i = true ∨ ones x < n := by decide +kernel

theorem powers_inner (N n w i : Nat) (hn : n ≤ 5) (hi : i < n) (hw : w < 2 ^ 2 ^ n) (a2 : Int → (Int → Option β) → Option β) (cf : Nat → Int) (hc : ∀ m k, m < n → a2 (m : Int) k = k (cf m)) (hN : 64 < N)
    (p r : List Int) (hp : p.length = i) (c1 c2 : Int) (k0 : Int → Int → Int → Int → List Int → Option β) :
    impl_Table_powers_l2 N a2 N (i : Int) c1 c2 ((2 ^ n : Nat) : Int) 0 (n : Int) (w : Int) (p ++ 0 :: r) k0 = k0 c1 c2 (n : Int) (w : Int) (p ++ pw cf w i (2 ^ n) :: r) := by
  have hw' := w_small hn hw
  have hs := size_le hn
  have hz : (0 : Int) ≤ ((2 ^ n : Nat) : Int) := Int.natCast_nonneg _
  refine loop_st (fun F x => impl_Table_powers_l2 N a2 F (i : Int) c1 c2 ((2 ^ n : Nat) : Int) (x : Int) (n : Int) (w : Int) (p ++ pw cf w i x :: r) k0) (2 ^ n) _ (fun F x hx => ?_) (fun F => ?_) N 0 (by omega) (by omega)
  · simp only [impl_Table_powers_l2, impl_Table_powers_l2b]
    have hg : decide ((i : Int) < ((p ++ pw cf w i x :: r).length : Int)) = true := decide_eq_true (by simp; omega)
    have hi0 : decide ((0 : Int) ≤ (i : Int)) = true := decide_eq_true (by omega)
    rw [decide_eq_true (by omega), cond_true, hi0, hg, gd_true rfl, bit_w x i (by omega), bw_eq0, w64_succ x (by omega)]
    simp only [gd, cond_true]
    rcases ones_free n hn i hi x hx with hb | hb
    · have e : pw cf w i (x + 1) = pw cf w i x := by simp only [pw, hb, Bool.not_true, Bool.false_and, cond_false]
      rw [e, hb]; rfl
    · rw [changes_eq N w x i _ hw' (by omega) (by omega)]
      cases hxb : x.testBit i with
      | true =>
        have e : pw cf w i (x + 1) = pw cf w i x := by simp only [pw, hxb, Bool.not_true, Bool.false_and, cond_false]
        rw [e]; rfl
      | false =>
        cases hch : (w.testBit x != w.testBit (x ^^^ 2 ^ i)) with
        | false =>
          have e : pw cf w i (x + 1) = pw cf w i x := by simp only [pw, hch, Bool.and_false, cond_false]
          rw [e]; rfl
        | true =>
          have e : pw cf w i (x + 1) = w64 (pw cf w i x + cf (ones x)) := by simp only [pw, hxb, hch, Bool.not_false, Bool.and_self, cond_true]
          simp only [Bool.not_false, cond_true]
          rw [impl_ones_eq N x (by omega), hc _ _ hb, e]
          simp only [← hp, rd_mid, wr_mid]
  · simp only [impl_Table_powers_l2, impl_Table_powers_l2b]
    rw [decide_eq_false (by omega), cond_false]
theorem powers_n (N n w : Nat) (hn : n ≤ 5) (hw : w < 2 ^ 2 ^ n) (hg : game w n = true) (a2 : Int → (Int → Option β) → Option β) (cf : Nat → Int) (hc : ∀ m k, m < n → a2 (m : Int) k = k (cf m)) (hN : 64 < N) (k : List Int → Option β) :
    impl_Table_powers N (n : Int) (w : Int) a2 k = k (pws cf w n n) := by
  have hs := size_le hn
  unfold impl_Table_powers
  rw [impl_IsSimpleGame_n N n w hN hn hw, hg]
  simp only [Bool.not_true, cond_false]
  rw [gd_true (decide_eq_true (by omega)), gd_true (decide_eq_true (by omega)), gd_true (decide_eq_true (by omega)), Int.toNat_natCast, List.length_replicate]
  have := loop_st (fun F u => impl_Table_powers_l0 N a2 F (n : Int) (u : Int) (n : Int) (w : Int) (pws cf w n u ++ List.replicate (n - u) 0) fun e => k e) n (k (pws cf w n n)) (fun F u hu => ?_) (fun F => ?_) N 0 (by omega) (by omega)
  · simpa [pws] using this
  · simp only [impl_Table_powers_l0, impl_Table_powers_l0b]
    rw [decide_eq_true (by omega), cond_true, impl_Table_size_eq N n _ hn, show n - u = (n - (u + 1)) + 1 by omega, List.replicate_succ]
    rw [powers_inner N n w u hn hu hw a2 cf hc hN _ _ (pws_len cf w n u), w64_succ u (by omega), pws_succ]
    simp
  · simp only [impl_Table_powers_l0, impl_Table_powers_l0b]
    rw [decide_eq_false (by omega), cond_false]
    simp

/-! ### Banzhaf -/
def turn (w i x : Nat) : Bool := !x.testBit i && edge w i x
theorem infl_twice (w n i : Nat) (hn : n ≤ 5) (hi : i < n) : infl w i (2 ^ n) = 2 * cnt (turn w i) (2 ^ n) := by
  have hs := size_le hn
  have e3 : cnt (turn w i) (2 ^ n) = cnt (fun x => x.testBit i && edge w i x) (2 ^ n) := by
    rw [cnt_range, cnt_range]
    have hp := (List.isPerm_iff.1 (flip_perm n hn i hi)).countP_eq (fun x => x.testBit i && edge w i x)
    rw [List.countP_map] at hp
    rw [← hp]
    apply List.countP_congr
    intro x hx
    have hx := List.mem_range.1 hx
    simp only [Function.comp, turn]
    rw [edge_sym, flip_bit x (by omega) i (by omega)]
  have e4 : infl w i (2 ^ n) = cnt (turn w i) (2 ^ n) + cnt (fun x => x.testBit i && edge w i x) (2 ^ n) := by
    unfold infl
    generalize 2 ^ n = m
    induction m with
    | zero => rfl
    | succ m ih =>
      simp only [cnt, turn] at ih ⊢
      rw [ih]
      by_cases h1 : m.testBit i = true <;> by_cases h2 : edge w i m = true <;> simp [h1, h2] <;> omega
  omega
theorem pw_cnt (w i : Nat) : ∀ x, x ≤ 1000 → pw (fun _ => 1) w i x = (cnt (turn w i) x : Int)
  | 0, _ => rfl
  | x + 1, h => by
    have h1 := pw_cnt w i x (by omega)
    have h2 := cnt_le (turn w i) x
    simp only [pw, cnt, h1]
    have e : (!x.testBit i && (w.testBit x != w.testBit (x ^^^ 2 ^ i))) = turn w i x := rfl
    rw [e]
    cases turn w i x with
    | false => simp
    | true => simp only [cond_true, if_true]; rw [w64_id (by omega) (by omega)]; simp
theorem spec_Banzhaf_n (N n w : Nat) (hN : 64 < N) (hn : n ≤ 5) (hw : w < 2 ^ 2 ^ n) (hg : game w n = true) (k : List Int → Option β) : spec_BanzhafNumbers N (n : Int) (w : Int) k = k (pws (fun _ => 1) w n n) := by
  have hs := size_le hn
  refine loop_st (fun F i => spec_BanzhafNumbers_l0 N F (i : Int) (n : Int) (w : Int) (pws (fun _ => 1) w n i) fun e => k e) n _ (fun F i hi => ?_) (fun F => ?_) N 0 (by omega) (by omega)
  · simp only [spec_BanzhafNumbers_l0, spec_BanzhafNumbers_l0b]
    rw [spec_IsSimpleGame_n N n w hN hn hw, hg, cond_true, decide_eq_true (by omega), cond_true, spec_InfluenceOf_eq N hN n w i hn hi hw, gd_true (decide_eq_true (by simp [pws_len]; omega)), w64_succ i (by omega), pws_succ, pw_cnt w i (2 ^ n) (by omega), infl_twice w n i hn hi]
    have hc := cnt_le (turn w i) (2 ^ n)
    have e : quoI .i64 ((2 * cnt (turn w i) (2 ^ n) : Nat) : Int) 2 = (cnt (turn w i) (2 ^ n) : Int) := by
      show w64 (Int.tdiv _ 2) = _
      rw [show ((2 * cnt (turn w i) (2 ^ n) : Nat) : Int).tdiv 2 = ((2 * cnt (turn w i) (2 ^ n) / 2 : Nat) : Int) from rfl, show 2 * cnt (turn w i) (2 ^ n) / 2 = cnt (turn w i) (2 ^ n) by omega, w64_nat _ (by omega)]
    rw [e]
    rfl
  · simp only [spec_BanzhafNumbers_l0, spec_BanzhafNumbers_l0b]
    rw [spec_IsSimpleGame_n N n w hN hn hw, hg, cond_true, decide_eq_false (by omega), cond_false]
theorem impl_Banzhaf_n (N n w : Nat) (hN : 64 < N) (hn : n ≤ 5) (hw : w < 2 ^ 2 ^ n) (hg : game w n = true) (k : List Int → Option β) : impl_BanzhafNumbers N (n : Int) (w : Int) k = k (pws (fun _ => 1) w n n) := by
  unfold impl_BanzhafNumbers
  exact powers_n N n w hn hw hg _ _ (fun _ _ _ => rfl) hN _

/-! ### Shapley -/
def fact : List Int := [1, 1, 2, 6, 24, 120]
def cfS (n m : Nat) : Int := w64 (rd 0 fact (m : Int) * rd 0 fact ((n - 1 - m : Nat) : Int))
theorem factorial_eq (N m : Nat) (hN : 64 < N) (hm : m ≤ 4) (k : Int → Option β) : impl_factorial N (m : Int) k = k (rd 0 fact (m : Int)) := by
  obtain ⟨M, rfl⟩ : ∃ M, N = M + 8 := ⟨N - 8, by omega⟩
  have : m = 0 ∨ m = 1 ∨ m = 2 ∨ m = 3 ∨ m = 4 := by omega
  rcases this with rfl | rfl | rfl | rfl | rfl <;> rfl
theorem impl_Shapley_n (N n w : Nat) (hN : 64 < N) (hn : n ≤ 5) (hw : w < 2 ^ 2 ^ n) (hg : game w n = true) (k : List Int → Option β) : impl_ShapleyNumbers N (n : Int) (w : Int) k = k (pws (cfS n) w n n) := by
  unfold impl_ShapleyNumbers
  refine powers_n N n w hn hw hg _ (cfS n) (fun m k' hm => ?_) hN _
  unfold impl_ShapleyNumbers_1
  rw [factorial_eq N m hN (by omega), show w64 (w64 ((n : Int) - 1) - (m : Int)) = ((n - 1 - m : Nat) : Int) by rw [w64_id (x := (n : Int) - 1) (by omega) (by omega), w64_id (by omega) (by omega)]; omega, factorial_eq N _ hN (by omega)]
  rfl
theorem shap_cond (w n i x : Nat) (hn : n ≤ 5) (hi : i < n) (hx : x < 2 ^ n) (hm : mono w n i = true) (hb : x.testBit i = false) : (!w.testBit x && w.testBit (x ||| 2 ^ i)) = (w.testBit x != w.testBit (x ^^^ 2 ^ i)) := by
  obtain ⟨f1, _⟩ := flip_ins n hn i hi x hx
  rcases f1 with f1 | ⟨_, _, g3, _⟩
  · rw [hb] at f1; cases f1
  · rw [g3]
    have := mono_at w n i x hn hi hx hm hb
    cases h1 : w.testBit x with
    | true => rw [this h1]; rfl
    | false => cases w.testBit (x ^^^ 2 ^ i) <;> rfl
theorem spec_shap_inner (N n w i : Nat) (hN : 64 < N) (hn : n ≤ 5) (hi : i < n) (hw : w < 2 ^ 2 ^ n) (hm : mono w n i = true) (L : List Int) (k0 : Int → Int → Int → Int → List Int → List Int → Option β) :
    spec_ShapleyNumbers_l2 N N (i : Int) 0 0 (n : Int) (w : Int) L fact k0 = k0 (i : Int) (pw (cfS n) w i (2 ^ n)) (n : Int) (w : Int) L fact := by
  have hw' := w_small hn hw
  have hs := size_le hn
  have hz : (0 : Int) ≤ ((2 ^ n : Nat) : Int) := Int.natCast_nonneg _
  refine loop_st (fun F x => spec_ShapleyNumbers_l2 N F (i : Int) (pw (cfS n) w i x) (x : Int) (n : Int) (w : Int) L fact k0) (2 ^ n) _ (fun F x hx => ?_) (fun F => ?_) N 0 (by omega) (by omega)
  · simp only [spec_ShapleyNumbers_l2, spec_ShapleyNumbers_l2b]
    have h2 : 2 ^ i < 2 ^ n := Nat.pow_lt_pow_right (by decide) hi
    rw [gd_true (decide_eq_true (by omega)), shl_one n (by omega), decide_eq_true (by omega), cond_true, gd_true (decide_eq_true (by omega)), bit_w x i (by omega), bw_eq0, w64_succ x (by omega)]
    cases hxb : x.testBit i with
    | true =>
      have e : pw (cfS n) w i (x + 1) = pw (cfS n) w i x := by simp only [pw, hxb, Bool.not_true, Bool.false_and, cond_false]
      rw [e]; rfl
    | false =>
      have ho : ones x < n := by
        rcases ones_free n hn i hi x hx with h | h
        · rw [hxb] at h; cases h
        · exact h
      have hsc := shap_cond w n i x hn hi hx hm hxb
      have e : pw (cfS n) w i (x + 1) = cond (!w.testBit x && w.testBit (x ||| 2 ^ i)) (w64 (pw (cfS n) w i x + cfS n (ones x))) (pw (cfS n) w i x) := by simp only [pw, hxb, Bool.not_false, Bool.true_and, hsc]
      rw [e]
      simp only [Bool.not_false, cond_true]
      rw [gd_true (decide_eq_true (by omega)), bit_w w x (by omega), bw_eq0]
      cases hwx : w.testBit x with
      | true => rfl
      | false =>
        simp only [Bool.not_false, cond_true, Bool.true_and]
        rw [gd_true (decide_eq_true (by omega)), shl_one i (by omega), bOr x (2 ^ i) (by omega) (by omega), gd_true (decide_eq_true (Int.natCast_nonneg _)), bit_w w _ (by omega), bw_eq1]
        cases hwo : w.testBit (x ||| 2 ^ i) with
        | false => rfl
        | true =>
          simp only [cond_true]
          have el : ((fact.length : Nat) : Int) = 6 := rfl
          rw [spec_l2Count_eq N x hN (by omega), show w64 (w64 ((n : Int) - 1) - (ones x : Int)) = ((n - 1 - ones x : Nat) : Int) by rw [w64_id (x := (n : Int) - 1) (by omega) (by omega), w64_id (by omega) (by omega)]; omega]
          rw [gd_true (decide_eq_true (by omega)), gd_true (decide_eq_true (by rw [el]; omega)), gd_true (decide_eq_true (by omega)), gd_true (decide_eq_true (by rw [el]; omega))]
          rfl
  · simp only [spec_ShapleyNumbers_l2, spec_ShapleyNumbers_l2b]
    rw [gd_true (decide_eq_true (by omega)), shl_one n (by omega), decide_eq_false (by omega), cond_false]
theorem game_mono {w n : Nat} (hg : game w n = true) : ∀ i, i < n → mono w n i = true := by
  simp only [game, Bool.and_eq_true] at hg
  exact allTo_spec hg.1
theorem spec_Shapley_n (N n w : Nat) (hN : 64 < N) (hn : n ≤ 5) (hw : w < 2 ^ 2 ^ n) (hg : game w n = true) (k : List Int → Option β) : spec_ShapleyNumbers N (n : Int) (w : Int) k = k (pws (cfS n) w n n) := by
  unfold spec_ShapleyNumbers
  rw [spec_IsSimpleGame_n N n w hN hn hw, hg]
  simp only [Bool.not_true, cond_false]
  refine loop_st (fun F i => spec_ShapleyNumbers_l0 N F (i : Int) (n : Int) (w : Int) (pws (cfS n) w n i) fact fun e => k e) n _ (fun F i hi => ?_) (fun F => ?_) N 0 (by omega) (by omega)
  · simp only [spec_ShapleyNumbers_l0, spec_ShapleyNumbers_l0b]
    rw [decide_eq_true (by omega), cond_true, spec_shap_inner N n w i hN hn hi hw (game_mono hg i hi), gd_true (decide_eq_true (by simp [pws_len]; omega)), w64_succ i (by omega), pws_succ]
    rfl
  · simp only [spec_ShapleyNumbers_l0, spec_ShapleyNumbers_l0b]
    rw [decide_eq_false (by omega), cond_false]

/-! ### Veto and dummy players -/
theorem l2Variable_eq (N n i : Nat) (hN : 64 < N) (hn : n ≤ 5) (k : Int → Option β) : spec_l2Variable N (n : Int) (i : Int) k = k (tabw (fun x => x.testBit i) (2 ^ n) : Int) := by
  have hs := size_le hn
  have hz : (0 : Int) ≤ ((2 ^ n : Nat) : Int) := Int.natCast_nonneg _
  refine loop_st (fun F x => spec_l2Variable_l0 N F (n : Int) (i : Int) (tabw (fun x => x.testBit i) x : Int) (x : Int) fun e => k e) (2 ^ n) _ (fun F x hx => ?_) (fun F => ?_) N 0 (by omega) (by omega)
  · simp only [spec_l2Variable_l0, spec_l2Variable_l0b]
    have ht : tabw (fun x => x.testBit i) x < 2 ^ 63 := Nat.lt_of_lt_of_le (tabw_lt _ x) (Nat.pow_le_pow_right (by decide) (by omega))
    have hp : 2 ^ x < 2 ^ 63 := Nat.pow_lt_pow_right (by decide) (by omega)
    rw [gd_true (decide_eq_true (by omega)), shl_one n (by omega), decide_eq_true (by omega), cond_true, gd_true (decide_eq_true (by omega)), bit_w x i (by omega), bw_eq1, w64_succ x (by omega)]
    cases hxb : x.testBit i with
    | true =>
      have e : tabw (fun x => x.testBit i) (x + 1) = tabw (fun x => x.testBit i) x ||| 2 ^ x := by simp [tabw, hxb]
      rw [cond_true, gd_true (decide_eq_true (by omega)), shl_one x (by omega), bOr _ _ ht hp, e]
    | false =>
      have e : tabw (fun x => x.testBit i) (x + 1) = tabw (fun x => x.testBit i) x := by simp [tabw, hxb]
      rw [cond_false, e]
  · simp only [spec_l2Variable_l0, spec_l2Variable_l0b]
    rw [gd_true (decide_eq_true (by omega)), shl_one n (by omega), decide_eq_false (by omega), cond_false]
def veto (w n i : Nat) : Bool := R w n i 0 == 0
theorem veto_iff (w n i : Nat) (hn : n ≤ 5) (hi : i < n) (hw : w < 2 ^ 2 ^ n) : ((w &&& tabw (fun x => x.testBit i) (2 ^ n)) == w) = veto w n i := by
  have key : w &&& tabw (fun x => x.testBit i) (2 ^ n) = w ↔ R w n i 0 = 0 := by
    constructor
    · intro h
      apply Nat.eq_of_testBit_eq
      intro y
      rw [Nat.zero_testBit]
      simp only [R, tabw_bit]
      by_cases hy : y < 2 ^ (n - 1)
      · obtain ⟨b0, _, l0, _, _⟩ := ins_bit n hn i hi y hy
        have e := congrArg (fun z => z.testBit (ins y i 0)) h
        simp only [Nat.testBit_and, tabw_bit, b0, Bool.and_false] at e
        rw [← e]; simp
      · simp [hy]
    · intro h
      apply Nat.eq_of_testBit_eq
      intro x
      rw [Nat.testBit_and, tabw_bit]
      by_cases hx : x < 2 ^ n
      · rw [decide_eq_true hx, Bool.true_and]
        cases hb : x.testBit i with
        | true => simp
        | false =>
          obtain ⟨f1, f2⟩ := flip_ins n hn i hi x hx
          rcases f1 with f1 | ⟨g1, _⟩
          · rw [hb] at f1; cases f1
          · have e := congrArg (fun z => z.testBit (del x i)) h
            simp only [R, tabw_bit, decide_eq_true f2, Bool.true_and, Nat.zero_testBit] at e
            rw [← g1] at e
            rw [e]; rfl
      · have : w.testBit x = false := Nat.testBit_lt_two_pow (Nat.lt_of_lt_of_le hw (Nat.pow_le_pow_right (by decide) (by omega)))
        simp [this]
  unfold veto
  by_cases h : R w n i 0 = 0
  · rw [beq_iff_eq.2 h, beq_iff_eq.2 (key.2 h)]
  · rw [beq_eq_false_iff_ne.2 h, beq_eq_false_iff_ne.2 fun e => h (key.1 e)]
theorem picks_step (p : Nat → Bool) (i : Nat) : picks p (i + 1) = cond (p i) (picks p i ++ [(i : Int)]) (picks p i) := rfl
theorem spec_Veto_n (N n w : Nat) (hN : 64 < N) (hn : n ≤ 5) (hw : w < 2 ^ 2 ^ n) (hg : game w n = true) (k : List Int → Option β) : spec_VetoPlayers N (n : Int) (w : Int) k = k (picks (veto w n) n) := by
  have hw' := w_small hn hw
  refine loop_st (fun F i => spec_VetoPlayers_l0 N F (i : Int) (n : Int) (w : Int) (picks (veto w n) i) fun e => k e) n _ (fun F i hi => ?_) (fun F => ?_) N 0 (by omega) (by omega)
  · simp only [spec_VetoPlayers_l0, spec_VetoPlayers_l0b]
    have hpl := picks_len (veto w n) i
    have ht : tabw (fun x => x.testBit i) (2 ^ n) < 2 ^ 63 := Nat.lt_of_lt_of_le (tabw_lt _ _) (Nat.pow_le_pow_right (by decide) (by have := size_le hn; omega))
    rw [spec_IsSimpleGame_n N n w hN hn hw, hg, cond_true, decide_eq_true (by omega), cond_true, l2Variable_eq N n i hN hn, bAnd w _ (by omega) ht, natq, veto_iff w n i hn hi hw, w64_succ i (by omega), picks_step]
    cases veto w n i with
    | false => rfl
    | true => rw [cond_true, gd_true (decide_eq_true (by simp; omega))]; rfl
  · simp only [spec_VetoPlayers_l0, spec_VetoPlayers_l0b]
    rw [spec_IsSimpleGame_n N n w hN hn hw, hg, cond_true, decide_eq_false (by omega), cond_false]
theorem impl_Veto_n (N n w : Nat) (hN : 64 < N) (hn : n ≤ 5) (hw : w < 2 ^ 2 ^ n) (hg : game w n = true) (k : List Int → Option β) : impl_VetoPlayers N (n : Int) (w : Int) k = k (picks (veto w n) n) := by
  have hw' := w_small hn hw
  unfold impl_VetoPlayers
  rw [impl_IsSimpleGame_n N n w hN hn hw, hg]
  simp only [Bool.not_true, cond_false]
  refine loop_st (fun F i => impl_VetoPlayers_l0 N F (n : Int) (i : Int) (n : Int) (w : Int) (picks (veto w n) i) fun e => k e) n _ (fun F i hi => ?_) (fun F => ?_) N 0 (by omega) (by omega)
  · simp only [impl_VetoPlayers_l0, impl_VetoPlayers_l0b]
    have hpl := picks_len (veto w n) i
    have e0 := fun k => impl_restr_eq (β := β) N hN n w i 0 hn hi hw' (by decide) k
    simp only [Int.natCast_zero] at e0
    rw [decide_eq_true (by omega), cond_true, e0, w64_succ i (by omega), picks_step]
    have e : (((tabw (fun x => w.testBit (ins x i 0)) (2 ^ (n - 1)) : Nat) : Int) == 0) = veto w n i := natq _ 0
    rw [e]
    cases veto w n i with
    | false => rfl
    | true => rw [cond_true, gd_true (decide_eq_true (by simp; omega))]; rfl
  · simp only [impl_VetoPlayers_l0, impl_VetoPlayers_l0b]
    rw [decide_eq_false (by omega), cond_false]
theorem spec_Dummy_n (N n w : Nat) (hN : 64 < N) (hn : n ≤ 5) (hw : w < 2 ^ 2 ^ n) (hg : game w n = true) (k : List Int → Option β) : spec_DummyPlayers N (n : Int) (w : Int) k = k (picks (fun i => !dep w n i) n) := by
  have hw' := w_small hn hw
  refine loop_st (fun F i => spec_DummyPlayers_l0 N F (i : Int) (n : Int) (w : Int) (picks (fun i => !dep w n i) i) fun e => k e) n _ (fun F i hi => ?_) (fun F => ?_) N 0 (by omega) (by omega)
  · simp only [spec_DummyPlayers_l0, spec_DummyPlayers_l0b]
    have hpl := picks_len (fun i => !dep w n i) i
    rw [spec_IsSimpleGame_n N n w hN hn hw, hg, cond_true, decide_eq_true (by omega), cond_true, spec_l3Depends_eq N hN n w i hn hi hw', w64_succ i (by omega), picks_step]
    cases dep w n i with
    | true => rfl
    | false => simp only [Bool.not_false, cond_true]; rw [gd_true (decide_eq_true (by simp; omega))]; rfl
  · simp only [spec_DummyPlayers_l0, spec_DummyPlayers_l0b]
    rw [spec_IsSimpleGame_n N n w hN hn hw, hg, cond_true, decide_eq_false (by omega), cond_false]
theorem impl_Dummy_n (N n w : Nat) (hN : 64 < N) (hn : n ≤ 5) (hw : w < 2 ^ 2 ^ n) (hg : game w n = true) (k : List Int → Option β) : impl_DummyPlayers N (n : Int) (w : Int) k = k (picks (fun i => !dep w n i) n) := by
  have hw' := w_small hn hw
  unfold impl_DummyPlayers
  rw [impl_IsSimpleGame_n N n w hN hn hw, hg]
  simp only [Bool.not_true, cond_false]
  refine loop_st (fun F i => impl_DummyPlayers_l0 N F (n : Int) (i : Int) (n : Int) (w : Int) (picks (fun i => !dep w n i) i) fun e => k e) n _ (fun F i hi => ?_) (fun F => ?_) N 0 (by omega) (by omega)
  · simp only [impl_DummyPlayers_l0, impl_DummyPlayers_l0b]
    have hpl := picks_len (fun i => !dep w n i) i
    rw [decide_eq_true (by omega), cond_true, impl_deps_eq N hN n w i hn hi hw', w64_succ i (by omega), picks_step]
    cases dep w n i with
    | true => rfl
    | false => simp only [Bool.not_false, cond_true]; rw [gd_true (decide_eq_true (by simp; omega))]; rfl
  · simp only [impl_DummyPlayers_l0, impl_DummyPlayers_l0b]
    rw [decide_eq_false (by omega), cond_false]

/-! ### Proper games -/
def prop1 (w n x : Nat) : Bool := !(w.testBit x && w.testBit (2 ^ n - 1 - x))
theorem mirror : ∀ n, n ≤ 5 → ∀ x, x < 2 ^ n → x ^^^ (2 ^ n - 1) = 2 ^ n - 1 - x := by decide +kernel
theorem spec_Proper_n (N n w : Nat) (hN : 64 < N) (hn : n ≤ 5) (hw : w < 2 ^ 2 ^ n) (hg : game w n = true) (k : Bool → Option β) : spec_IsProperGame N (n : Int) (w : Int) k = k (allTo (prop1 w n) (2 ^ n)) := by
  have hw' := w_small hn hw
  have hs := size_le hn
  have hp := two_pos n
  have hz : (0 : Int) ≤ ((2 ^ n : Nat) : Int) := Int.natCast_nonneg _
  unfold spec_IsProperGame
  have := loop_all (fun F x => spec_IsProperGame_l0 N F (x : Int) (n : Int) (w : Int) (fun e => k e) (fun e0 e1 => spec_IsSimpleGame N e0 e1 fun r6 => k r6)) (prop1 w n) (2 ^ n) (k false) (k true) (fun F x hx => ?_) (fun F => ?_) N (by omega)
  · refine this.trans ?_
    cases allTo (prop1 w n) (2 ^ n) <;> rfl
  · simp only [spec_IsProperGame_l0, spec_IsProperGame_l0b]
    rw [spec_IsSimpleGame_n N n w hN hn hw, hg, cond_true, gd_true (decide_eq_true (by omega)), shl_one n (by omega), decide_eq_true (by omega), cond_true, gd_true (decide_eq_true (by omega)), bit_w w x (by omega), bw_eq1, w64_succ x (by omega)]
    rw [show w64 (w64 (((2 ^ n : Nat) : Int) - 1) - (x : Int)) = ((2 ^ n - 1 - x : Nat) : Int) by rw [w64_id (x := ((2 ^ n : Nat) : Int) - 1) (by omega) (by omega), w64_id (by omega) (by omega)]; omega]
    rw [gd_true (decide_eq_true (by omega)), gd_true (decide_eq_true (Int.natCast_nonneg _)), bit_w w _ (by omega), bw_eq1]
    unfold prop1
    cases w.testBit x <;> cases w.testBit (2 ^ n - 1 - x) <;> rfl
  · simp only [spec_IsProperGame_l0, spec_IsProperGame_l0b]
    rw [spec_IsSimpleGame_n N n w hN hn hw, hg, cond_true, gd_true (decide_eq_true (by omega)), shl_one n (by omega), decide_eq_false (by omega), cond_false, spec_IsSimpleGame_n N n w hN hn hw, hg]
theorem shift_eq (N n w s : Nat) (hN : 64 < N) (hn : n ≤ 5) (hw : w < 4294967296) (hs : s < 64) (k : Int → Int → Option β) : impl_Table_shift N (n : Int) (w : Int) (s : Int) k = k n (tabw (fun x => w.testBit (x ^^^ s)) (2 ^ n) : Int) := by
  have h2 := size_le hn
  unfold impl_Table_shift
  rw [makeTable_eq N hN n hn _ (fun x => w.testBit (x ^^^ s)) fun x k hx => ?_]
  unfold impl_Table_shift_1
  rw [bXor x s (by omega) (by omega), impl_Table_at_eq N w _ _ hw, bw_eq1]
theorem impl_Proper_n (N n w : Nat) (hN : 64 < N) (hn : n ≤ 5) (hw : w < 2 ^ 2 ^ n) (hg : game w n = true) (k : Bool → Option β) : impl_IsProperGame N (n : Int) (w : Int) k = k (allTo (prop1 w n) (2 ^ n)) := by
  have hw' := w_small hn hw
  have hs := size_le hn
  have hp := two_pos n
  unfold impl_IsProperGame
  rw [impl_IsSimpleGame_n N n w hN hn hw, hg]
  simp only [Bool.not_true, cond_false]
  have ht : tabw (fun x => w.testBit (x ^^^ (2 ^ n - 1))) (2 ^ n) < 2 ^ 63 := Nat.lt_of_lt_of_le (tabw_lt _ _) (Nat.pow_le_pow_right (by decide) (by omega))
  rw [impl_Table_size_eq N n _ hn, show w64 (((2 ^ n : Nat) : Int) - 1) = ((2 ^ n - 1 : Nat) : Int) by rw [w64_id (by omega) (by omega)]; omega, shift_eq N n w _ hN hn hw' (by omega), bAnd w _ (by omega) ht]
  congr 1
  have e : (((w &&& tabw (fun x => w.testBit (x ^^^ (2 ^ n - 1))) (2 ^ n) : Nat) : Int) == 0) = ((w &&& tabw (fun x => w.testBit (x ^^^ (2 ^ n - 1))) (2 ^ n)) == 0) := natq _ 0
  rw [e]
  have key : w &&& tabw (fun x => w.testBit (x ^^^ (2 ^ n - 1))) (2 ^ n) = 0 ↔ allTo (prop1 w n) (2 ^ n) = true := by
    constructor
    · intro h
      refine allTo_of fun x hx => ?_
      have e := congrArg (fun z => z.testBit x) h
      simp only [Nat.testBit_and, tabw_bit, decide_eq_true hx, Bool.true_and, Nat.zero_testBit, mirror n hn x hx] at e
      unfold prop1
      rw [e]; rfl
    · intro h
      apply Nat.eq_of_testBit_eq
      intro x
      rw [Nat.testBit_and, tabw_bit, Nat.zero_testBit]
      by_cases hx : x < 2 ^ n
      · have := allTo_spec h x hx
        rw [decide_eq_true hx, Bool.true_and, mirror n hn x hx]
        unfold prop1 at this
        revert this
        cases w.testBit x <;> cases w.testBit (2 ^ n - 1 - x) <;> simp
      · simp [hx]
  cases hA : allTo (prop1 w n) (2 ^ n) with
  | true => exact beq_iff_eq.2 (key.2 hA)
  | false => exact beq_eq_false_iff_ne.2 fun e => by rw [key.1 e] at hA; cases hA
end Go.Proofs.YtfdggelojmofmaaDoor
