/- Plain laws of the texts: inputs that are drawn: each draw ends, with something. -/
import Derived.Test.YtdkjnadhgdneaaaP11
namespace Go.Proofs.Ytdkjnadhgdneaaa
open Go.Rv

variable {β : Type}
theorem and_mask (x : Int) (m : Nat) (hm : m < 9223372036854775808) : ∃ r : Nat, bits .and .i64 x (m : Int) = r ∧ r ≤ m := by
  refine ⟨((BitVec.ofInt 64 x) &&& (BitVec.ofInt 64 (m : Int))).toNat, ?_, ?_⟩
  · have h : ((BitVec.ofInt 64 x) &&& (BitVec.ofInt 64 (m : Int))).toNat ≤ m := by
      rw [BitVec.toNat_and, BitVec.ofInt_natCast, BitVec.toNat_ofNat, Nat.mod_eq_of_lt (by omega : m < 2 ^ 64)]
      exact Nat.and_le_right
    have h63 : (2 : Int) ^ 63 = 9223372036854775808 := by decide
    have key : ∀ r : Nat, r ≤ m → IntKind.i64.wrap (r : Int) = r := fun r hr => wrap_small _ (by omega) (by omega)
    exact key _ h
  · rw [BitVec.toNat_and, BitVec.ofInt_natCast, BitVec.toNat_ofNat, Nat.mod_eq_of_lt (by omega : m < 2 ^ 64)]
    exact Nat.and_le_right

theorem bits_top (op : BinOp) (x y : Int) : bits op .i64 x y < 9223372036854775808 := by
  show IntKind.i64.wrap _ < _
  rw [IntKind.wrap_i64]
  omega

theorem l1Byte_ends (N : Nat) (b : List Int) (i h : Int) (h0 : 0 ≤ i) (hb : b.length ≤ 9223372036854775807) :
    ∃ (r : Nat) (i' h' : Int), r ≤ 255 ∧ 0 ≤ i' ∧ ∀ k0 : Int → List Int → Int → Int → Option β, spec_l1Byte_g0 N b i h k0 = k0 r b i' h' := by
  unfold spec_l1Byte_g0
  by_cases hi : i < (b.length : Int)
  · obtain ⟨r, h1, h2⟩ := and_mask (w64 ((bits .and .i64 (bits .xor .i64 (shrI .i64 (w64 ((w64 (h * 6364136223846793005)) + 1442695040888963407)) 33) (shrI .i64 (w64 ((w64 (h * 6364136223846793005)) + 1442695040888963407)) 45)) 255) + (w64 ((rd 0 b i))))) 255 (by decide)
    refine ⟨r, w64 (i + 1), w64 ((w64 (h * 6364136223846793005)) + 1442695040888963407), h2, ?_, fun k0 => ?_⟩
    · rw [w64_id] <;> omega
    · rw [decide_eq_true hi, cond_true, decide_eq_true h0, gd_true rfl, gd_true rfl, ← h1]
      rfl
  · obtain ⟨r, h1, h2⟩ := and_mask (bits .xor .i64 (shrI .i64 (w64 ((w64 (h * 6364136223846793005)) + 1442695040888963407)) 33) (shrI .i64 (w64 ((w64 (h * 6364136223846793005)) + 1442695040888963407)) 45)) 255 (by decide)
    refine ⟨r, i, w64 ((w64 (h * 6364136223846793005)) + 1442695040888963407), h2, h0, fun k0 => ?_⟩
    rw [decide_eq_false hi, cond_false, ← h1]
    rfl

theorem l1Below_ends (N : Nat) (n : Int) (b : List Int) (i h : Int) (hn : n ≤ 256) (h0 : 0 ≤ i) (hb : b.length ≤ 9223372036854775807) :
    ∃ (r : Nat) (i' h' : Int), (0 < n → (r : Int) < n) ∧ (n ≤ 0 → r = 0) ∧ 0 ≤ i' ∧ ∀ k0 : Int → List Int → Int → Int → Option β, spec_l1Below_g0 N n b i h k0 = k0 r b i' h' := by
  unfold spec_l1Below_g0
  by_cases hp : n ≤ 0
  · exact ⟨0, i, h, fun h => by omega, fun _ => rfl, h0, fun k0 => by rw [decide_eq_true hp, cond_true]; rfl⟩
  · obtain ⟨r, i', h', h1, h2, h3⟩ := l1Byte_ends (β := β) N b i h h0 hb
    obtain ⟨m, rfl⟩ := Int.eq_ofNat_of_zero_le (by omega : 0 ≤ n)
    have hm : 0 < m := by omega
    refine ⟨r % m, i', h', fun _ => by have := Nat.mod_lt r hm; omega, fun h => by omega, h2, fun k0 => ?_⟩
    rw [decide_eq_false hp, cond_false, decide_eq_true hn, cond_true, h3]
    have hne : ((m : Int) != 0) = true := by simp; omega
    rw [hne, gd_true rfl]
    have : remI (r : Int) (m : Int) = ((r % m : Nat) : Int) := by
      unfold remI
      rw [Int.natCast_emod]
      exact Int.tmod_eq_emod_of_nonneg (Int.natCast_nonneg r)
    rw [this]

theorem l1New_loop (N : Nat) (b : List Int) (hb : b.length ≤ 9223372036854775807) : ∀ (d F i : Nat) (h : Int), i + d = min b.length 4000 → d < F →
    ∃ h', ∀ k0 : List Int → Int → Option β, spec_l1New_l0 N F b h (i : Int) k0 = k0 b h' := by
  intro d
  induction d with
  | zero =>
    intro F i h hd hF
    obtain ⟨F, rfl⟩ : ∃ F', F = F' + 1 := ⟨F - 1, by omega⟩
    refine ⟨h, fun k0 => ?_⟩
    show spec_l1New_l0b N b h (i : Int) _ k0 = _
    unfold spec_l1New_l0b
    by_cases hi : (i : Int) < (b.length : Int)
    · rw [decide_eq_true hi, cond_true, decide_eq_false (by omega : ¬ (i : Int) < 4000), cond_false]
    · rw [decide_eq_false hi, cond_false]
  | succ d ih =>
    intro F i h hd hF
    obtain ⟨F, rfl⟩ : ∃ F', F = F' + 1 := ⟨F - 1, by omega⟩
    obtain ⟨h', h1⟩ := ih F (i + 1) (bits .and .i64 (w64 ((w64 ((w64 (h * 131)) + (w64 ((rd 0 b (i : Int)))))) + 7)) 1073741823) (by omega) (by omega)
    refine ⟨h', fun k0 => ?_⟩
    show spec_l1New_l0b N b h (i : Int) _ k0 = _
    unfold spec_l1New_l0b
    rw [decide_eq_true (by omega : (i : Int) < (b.length : Int)), cond_true, decide_eq_true (by omega : (i : Int) < 4000), cond_true, decide_eq_true (by omega : (0 : Int) ≤ (i : Int)), gd_true rfl, gd_true rfl, w64_succ i (by omega)]
    exact h1 k0
theorem l1New_ends (N : Nat) (hN : 4096 < N) (b : List Int) (hb : b.length ≤ 9223372036854775807) :
    ∃ h' : Int, ∀ k0 : List Int → Int → Int → Option β, spec_l1New_g0 N b k0 = k0 b 0 h' := by
  obtain ⟨h', h1⟩ := l1New_loop (β := β) N b hb (min b.length 4000) N 0 (w64 (10101 + (b.length : Int))) (by omega) (by omega)
  exact ⟨h', fun k0 => h1 _⟩

theorem l2Variable_loop (N n i : Nat) (hn : n ≤ 5) : ∀ (d F x : Nat) (v : Int), x + d = 2 ^ n → d < F →
    ∃ v' : Int, ∀ k0 : Int → Option β, spec_l2Variable_l0 N F (n : Int) (i : Int) v (x : Int) k0 = k0 v' := by
  have hs := size_le hn
  intro d
  induction d with
  | zero =>
    intro F x v hd hF
    obtain ⟨F, rfl⟩ : ∃ F', F = F' + 1 := ⟨F - 1, by omega⟩
    refine ⟨v, fun k0 => ?_⟩
    show spec_l2Variable_l0b N (n : Int) (i : Int) v (x : Int) _ k0 = _
    unfold spec_l2Variable_l0b
    rw [shl_one n (by omega), decide_eq_true (by omega : (0 : Int) ≤ (n : Int)), gd_true rfl, decide_eq_false (by omega : ¬ (x : Int) < ((2 ^ n : Nat) : Int)), cond_false]
  | succ d ih =>
    intro F x v hd hF
    obtain ⟨F, rfl⟩ : ∃ F', F = F' + 1 := ⟨F - 1, by omega⟩
    have step : ∀ k0 : Int → Option β, spec_l2Variable_l0 N (F + 1) (n : Int) (i : Int) v (x : Int) k0 =
        spec_l2Variable_l0 N F (n : Int) (i : Int) (cond (bits .and .i64 (shrI .i64 (x : Int) (i : Int)) 1 == 1) (bits .or .i64 v (shlI .i64 1 (x : Int))) v) ((x + 1 : Nat) : Int) k0 := fun k0 => by
      show spec_l2Variable_l0b N (n : Int) (i : Int) v (x : Int) _ k0 = _
      unfold spec_l2Variable_l0b
      rw [shl_one n (by omega), decide_eq_true (by omega : (0 : Int) ≤ (n : Int)), gd_true rfl, decide_eq_true (by omega : (x : Int) < ((2 ^ n : Nat) : Int)), cond_true, decide_eq_true (by omega : (0 : Int) ≤ (i : Int)), gd_true rfl, decide_eq_true (by omega : (0 : Int) ≤ (x : Int)), gd_true rfl, w64_succ x (by omega)]
      cases (bits .and .i64 (shrI .i64 (x : Int) (i : Int)) 1 == 1) <;> rfl
    obtain ⟨v', h1⟩ := ih F (x + 1) (cond (bits .and .i64 (shrI .i64 (x : Int) (i : Int)) 1 == 1) (bits .or .i64 v (shlI .i64 1 (x : Int))) v) (by omega) (by omega)
    exact ⟨v', fun k0 => (step k0).trans (h1 k0)⟩
theorem l2Variable_ends (N n i : Nat) (hN : 64 < N) (hn : n ≤ 5) : ∃ v : Int, ∀ k0 : Int → Option β, spec_l2Variable N (n : Int) (i : Int) k0 = k0 v := by
  have hs := size_le hn
  obtain ⟨v, h⟩ := l2Variable_loop (β := β) N n i hn (2 ^ n) N 0 0 (by omega) (by omega)
  exact ⟨v, fun k0 => h _⟩

theorem draw_l3 (N n : Nat) (hN : 64 < N) (hn : n ≤ 5) (b : List Int) (c4 c5 c6 c7 : Int) : ∀ (d F x : Nat) (v : Int), x + d = 2 ^ n → d < F →
    ∃ v' : Int, ∀ k0 : Int → Int → List Int → Int → Int → Int → Int → Option β, spec_l2Draw_l3 N F (n : Int) v (x : Int) b c4 c5 c6 c7 k0 = k0 (n : Int) v' b c4 c5 c6 c7 := by
  have hs := size_le hn
  intro d
  induction d with
  | zero =>
    intro F x v hd hF
    obtain ⟨F, rfl⟩ : ∃ F', F = F' + 1 := ⟨F - 1, by omega⟩
    refine ⟨v, fun k0 => ?_⟩
    show spec_l2Draw_l3b N (n : Int) v (x : Int) b c4 c5 c6 c7 _ k0 = _
    unfold spec_l2Draw_l3b
    rw [shl_one n (by omega), decide_eq_true (by omega : (0 : Int) ≤ (n : Int)), gd_true rfl, decide_eq_false (by omega : ¬ (x : Int) < ((2 ^ n : Nat) : Int)), cond_false]
  | succ d ih =>
    intro F x v hd hF
    obtain ⟨F, rfl⟩ : ∃ F', F = F' + 1 := ⟨F - 1, by omega⟩
    obtain ⟨v', h1⟩ := ih F (x + 1) (cond (decide ((w64 (2 * (ones x : Int))) > (n : Int))) (bits .or .i64 v (shlI .i64 1 (x : Int))) v) (by omega) (by omega)
    refine ⟨v', fun k0 => Eq.trans ?_ (h1 k0)⟩
    show spec_l2Draw_l3b N (n : Int) v (x : Int) b c4 c5 c6 c7 _ k0 = _
    unfold spec_l2Draw_l3b
    rw [shl_one n (by omega), decide_eq_true (by omega : (0 : Int) ≤ (n : Int)), gd_true rfl, decide_eq_true (by omega : (x : Int) < ((2 ^ n : Nat) : Int)), cond_true, spec_l2Count_eq N x hN (by omega), decide_eq_true (by omega : (0 : Int) ≤ (x : Int)), gd_true rfl, w64_succ x (by omega)]
    cases (decide ((w64 (2 * (ones x : Int))) > (n : Int))) <;> rfl
theorem draw_l5 (N n : Nat) (hN : 64 < N) (hn : n ≤ 5) (b : List Int) (c4 c5 c6 c7 : Int) : ∀ (d F x : Nat) (v : Int), x + d = 2 ^ n → d < F →
    ∃ v' : Int, ∀ k0 : Int → Int → List Int → Int → Int → Int → Int → Option β, spec_l2Draw_l5 N F (n : Int) v (x : Int) b c4 c5 c6 c7 k0 = k0 (n : Int) v' b c4 c5 c6 c7 := by
  have hs := size_le hn
  intro d
  induction d with
  | zero =>
    intro F x v hd hF
    obtain ⟨F, rfl⟩ : ∃ F', F = F' + 1 := ⟨F - 1, by omega⟩
    refine ⟨v, fun k0 => ?_⟩
    show spec_l2Draw_l5b N (n : Int) v (x : Int) b c4 c5 c6 c7 _ k0 = _
    unfold spec_l2Draw_l5b
    rw [shl_one n (by omega), decide_eq_true (by omega : (0 : Int) ≤ (n : Int)), gd_true rfl, decide_eq_false (by omega : ¬ (x : Int) < ((2 ^ n : Nat) : Int)), cond_false]
  | succ d ih =>
    intro F x v hd hF
    obtain ⟨F, rfl⟩ : ∃ F', F = F' + 1 := ⟨F - 1, by omega⟩
    obtain ⟨v', h1⟩ := ih F (x + 1) (cond (remI (ones x : Int) 2 == 1) (bits .or .i64 v (shlI .i64 1 (x : Int))) v) (by omega) (by omega)
    refine ⟨v', fun k0 => Eq.trans ?_ (h1 k0)⟩
    show spec_l2Draw_l5b N (n : Int) v (x : Int) b c4 c5 c6 c7 _ k0 = _
    unfold spec_l2Draw_l5b
    rw [shl_one n (by omega), decide_eq_true (by omega : (0 : Int) ≤ (n : Int)), gd_true rfl, decide_eq_true (by omega : (x : Int) < ((2 ^ n : Nat) : Int)), cond_true, spec_l2Count_eq N x hN (by omega), decide_eq_true (by omega : (0 : Int) ≤ (x : Int)), gd_true rfl, w64_succ x (by omega)]
    cases (remI (ones x : Int) 2 == 1) <;> rfl
theorem draw_l7 (N n : Nat) (hn : n ≤ 5) (y : Int) (b : List Int) (c4 c5 c6 c7 : Int) : ∀ (d F x : Nat) (v : Int), x + d = 2 ^ n → d < F →
    ∃ v' : Int, ∀ k0 : Int → Int → List Int → Int → Int → Int → Int → Option β, spec_l2Draw_l7 N F (n : Int) v y (x : Int) b c4 c5 c6 c7 k0 = k0 (n : Int) v' b c4 c5 c6 c7 := by
  have hs := size_le hn
  intro d
  induction d with
  | zero =>
    intro F x v hd hF
    obtain ⟨F, rfl⟩ : ∃ F', F = F' + 1 := ⟨F - 1, by omega⟩
    refine ⟨v, fun k0 => ?_⟩
    show spec_l2Draw_l7b N (n : Int) v y (x : Int) b c4 c5 c6 c7 _ k0 = _
    unfold spec_l2Draw_l7b
    rw [shl_one n (by omega), decide_eq_true (by omega : (0 : Int) ≤ (n : Int)), gd_true rfl, decide_eq_false (by omega : ¬ (x : Int) < ((2 ^ n : Nat) : Int)), cond_false]
  | succ d ih =>
    intro F x v hd hF
    obtain ⟨F, rfl⟩ : ∃ F', F = F' + 1 := ⟨F - 1, by omega⟩
    obtain ⟨v', h1⟩ := ih F (x + 1) (cond (bits .and .i64 (x : Int) y == y) (bits .or .i64 v (shlI .i64 1 (x : Int))) v) (by omega) (by omega)
    refine ⟨v', fun k0 => Eq.trans ?_ (h1 k0)⟩
    show spec_l2Draw_l7b N (n : Int) v y (x : Int) b c4 c5 c6 c7 _ k0 = _
    unfold spec_l2Draw_l7b
    rw [shl_one n (by omega), decide_eq_true (by omega : (0 : Int) ≤ (n : Int)), gd_true rfl, decide_eq_true (by omega : (x : Int) < ((2 ^ n : Nat) : Int)), cond_true, decide_eq_true (by omega : (0 : Int) ≤ (x : Int)), gd_true rfl, w64_succ x (by omega)]
    cases (bits .and .i64 (x : Int) y == y) <;> rfl
theorem draw_l1 (N n : Nat) (hn : n ≤ 5) (b : List Int) (hb : b.length ≤ 9223372036854775807) (c6 c7 : Int) : ∀ (d F x : Nat) (v i h : Int), 0 ≤ i → x + d = 2 ^ n → d < F →
    ∃ v' i' h' : Int, 0 ≤ i' ∧ ∀ k0 : Int → Int → List Int → Int → Int → Int → Int → Option β, spec_l2Draw_l1 N F (n : Int) v (x : Int) b i h c6 c7 k0 = k0 (n : Int) v' b i' h' c6 c7 := by
  have hs := size_le hn
  intro d
  induction d with
  | zero =>
    intro F x v i h h0 hd hF
    obtain ⟨F, rfl⟩ : ∃ F', F = F' + 1 := ⟨F - 1, by omega⟩
    refine ⟨v, i, h, h0, fun k0 => ?_⟩
    show spec_l2Draw_l1b N (n : Int) v (x : Int) b i h c6 c7 _ k0 = _
    unfold spec_l2Draw_l1b
    rw [shl_one n (by omega), decide_eq_true (by omega : (0 : Int) ≤ (n : Int)), gd_true rfl, decide_eq_false (by omega : ¬ (x : Int) < ((2 ^ n : Nat) : Int)), cond_false]
  | succ d ih =>
    intro F x v i h h0 hd hF
    obtain ⟨F, rfl⟩ : ∃ F', F = F' + 1 := ⟨F - 1, by omega⟩
    obtain ⟨r, i1, h1, -, -, g1, g2⟩ := l1Below_ends (β := β) N 2 b i h (by decide) h0 hb
    obtain ⟨v', i', h', g3, g4⟩ := ih F (x + 1) (bits .or .i64 v (shlI .i64 (r : Int) (x : Int))) i1 h1 g1 (by omega) (by omega)
    refine ⟨v', i', h', g3, fun k0 => Eq.trans ?_ (g4 k0)⟩
    show spec_l2Draw_l1b N (n : Int) v (x : Int) b i h c6 c7 _ k0 = _
    unfold spec_l2Draw_l1b
    rw [shl_one n (by omega), decide_eq_true (by omega : (0 : Int) ≤ (n : Int)), gd_true rfl, decide_eq_true (by omega : (x : Int) < ((2 ^ n : Nat) : Int)), cond_true, g2, decide_eq_true (by omega : (0 : Int) ≤ (x : Int)), gd_true rfl, w64_succ x (by omega)]

theorem l2Draw_ends (N n : Nat) (hN : 64 < N) (hn : n ≤ 5) (b : List Int) (i h : Int) (h0 : 0 ≤ i) (hb : b.length ≤ 9223372036854775807) :
    ∃ w i' h' : Int, w < 9223372036854775808 ∧ 0 ≤ i' ∧ ∀ k0 : Int → Int → List Int → Int → Int → Option β, spec_l2Draw_g0 N (n : Int) b i h k0 = k0 (n : Int) w b i' h' := by
  have hs := size_le hn
  unfold spec_l2Draw_g0
  obtain ⟨r, i1, h1, r1, -, p1, e1⟩ := l1Below_ends (β := β) N 6 b i h (by decide) h0 hb
  have fin : ∀ (v i2 h2 : Int), 0 ≤ i2 → ∃ w i' h' : Int, w < 9223372036854775808 ∧ 0 ≤ i' ∧ ∀ k0 : Int → Int → List Int → Int → Int → Option β,
      (cond ((n : Int) == 0) (spec_l2Full N (n : Int) fun r75 => k0 (n : Int) (bits .and .i64 (bits .and .i64 v 1) r75) b i2 h2) (spec_l2Full N (n : Int) fun r76 => k0 (n : Int) (bits .and .i64 v r76) b i2 h2)) = k0 (n : Int) w b i' h' := by
    intro v i2 h2 p2
    cases hz : ((n : Int) == 0) with
    | true => exact ⟨_, i2, h2, bits_top _ _ _, p2, fun k0 => by rw [cond_true, spec_l2Full_eq N n hn]⟩
    | false => exact ⟨_, i2, h2, bits_top _ _ _, p2, fun k0 => by rw [cond_false, spec_l2Full_eq N n hn]⟩
  simp only [e1]
  cases c0 : ((r : Int) == 0) with
  | true =>
    obtain ⟨r2, i2, h2, -, -, p2, e2⟩ := l1Below_ends (β := β) N (mxI 1 (n : Int)) b i1 h1 (by unfold mxI; split <;> omega) p1 hb
    obtain ⟨v, e3⟩ := l2Variable_ends (β := β) N n r2 hN hn
    obtain ⟨w, i', h', q1, q2, q3⟩ := fin v i2 h2 p2
    exact ⟨w, i', h', q1, q2, fun k0 => by rw [cond_true, e2, e3]; exact q3 k0⟩
  | false =>
    cases c1 : ((r : Int) == 1) with
    | true =>
      obtain ⟨v, e3⟩ := draw_l3 (β := β) N n hN hn b i1 h1 0 0 (2 ^ n) N 0 0 (by omega) (by omega)
      obtain ⟨w, i', h', q1, q2, q3⟩ := fin v i1 h1 p1
      exact ⟨w, i', h', q1, q2, fun k0 => by rw [cond_false, cond_true]; exact (e3 _).trans (q3 k0)⟩
    | false =>
      cases c2 : ((r : Int) == 2) with
      | true =>
        obtain ⟨v, e3⟩ := draw_l5 (β := β) N n hN hn b i1 h1 0 0 (2 ^ n) N 0 0 (by omega) (by omega)
        obtain ⟨w, i', h', q1, q2, q3⟩ := fin v i1 h1 p1
        exact ⟨w, i', h', q1, q2, fun k0 => by rw [cond_false, cond_false, cond_true]; exact (e3 _).trans (q3 k0)⟩
      | false =>
        cases c3 : ((r : Int) == 3) with
        | true =>
          obtain ⟨r2, i2, h2, -, -, p2, e2⟩ := l1Below_ends (β := β) N (shlI .i64 1 (n : Int)) b i1 h1 (by rw [shl_one n (by omega)]; omega) p1 hb
          obtain ⟨v, e3⟩ := draw_l7 (β := β) N n hn (r2 : Int) b i2 h2 0 0 (2 ^ n) N 0 0 (by omega) (by omega)
          obtain ⟨w, i', h', q1, q2, q3⟩ := fin v i2 h2 p2
          exact ⟨w, i', h', q1, q2, fun k0 => by rw [cond_false, cond_false, cond_false, cond_true, decide_eq_true (by omega : (0 : Int) ≤ (n : Int)), gd_true rfl, e2]; exact (e3 _).trans (q3 k0)⟩
        | false =>
          obtain ⟨v, i2, h2, p2, e3⟩ := draw_l1 (β := β) N n hn b hb 0 0 (2 ^ n) N 0 0 i1 h1 p1 (by omega) (by omega)
          obtain ⟨w, i', h', q1, q2, q3⟩ := fin v i2 h2 p2
          exact ⟨w, i', h', q1, q2, fun k0 => by rw [cond_false, cond_false, cond_false, cond_false]; exact (e3 _).trans (q3 k0)⟩

theorem l1PickInt_ends (N : Nat) (b : List Int) (i h : Int) (l : List Int) (hl : 0 < l.length) (hl2 : l.length ≤ 256) (h0 : 0 ≤ i) (hb : b.length ≤ 9223372036854775807) :
    ∃ r i' h' : Int, r ∈ l ∧ 0 ≤ i' ∧ ∀ k0 : Int → List Int → Int → Int → List Int → Option β, spec_l1PickInt_g0 N b i h l k0 = k0 r b i' h' l := by
  unfold spec_l1PickInt_g0
  obtain ⟨r, i1, h1, r1, -, p1, e1⟩ := l1Below_ends (β := β) N (l.length : Int) b i h (by omega) h0 hb
  have hr : r < l.length := by have := r1 (by omega); omega
  refine ⟨l[r], i1, h1, List.getElem_mem hr, p1, fun k0 => ?_⟩
  rw [e1, decide_eq_true (by omega : (0 : Int) ≤ (r : Int)), gd_true rfl, decide_eq_true (by omega : (r : Int) < (l.length : Int)), gd_true rfl, rd_nat 0 l r hr]

theorem l1Once_ends (N : Nat) (n : Int) (b : List Int) (i h : Int) (hn : n ≤ 256) (h0 : 0 ≤ i) (hb : b.length ≤ 9223372036854775807) :
    ∃ (r : Bool) (i' h' : Int), 0 ≤ i' ∧ ∀ k0 : Bool → List Int → Int → Int → Option β, spec_l1Once_g0 N n b i h k0 = k0 r b i' h' := by
  unfold spec_l1Once_g0
  obtain ⟨r, i1, h1, -, -, p1, e1⟩ := l1Below_ends (β := β) N n b i h hn h0 hb
  exact ⟨_, i1, h1, p1, fun k0 => e1 _⟩

theorem l2Any_ends (N : Nat) (hN : 64 < N) (b : List Int) (i h : Int) (h0 : 0 ≤ i) (hb : b.length ≤ 9223372036854775807) :
    ∃ n w i' h' : Int, w < 9223372036854775808 ∧ 0 ≤ i' ∧ ∀ k0 : Int → Int → List Int → Int → Int → Option β, spec_l2Any_g0 N b i h k0 = k0 n w b i' h' := by
  unfold spec_l2Any_g0
  obtain ⟨n, i1, h1, r1, -, p1, e1⟩ := l1Below_ends (β := β) N 5 b i h (by decide) h0 hb
  have hn : n ≤ 5 := by have := r1 (by decide); omega
  obtain ⟨w, i2, h2, hw, p2, e2⟩ := l2Draw_ends (β := β) N n hN hn b i1 h1 p1 hb
  obtain ⟨q, i3, h3, -, -, p3, e3⟩ := l1Below_ends (β := β) N 14 b i2 h2 (by decide) p2 hb
  simp only [e1, e2, e3]
  cases c0 : ((q : Int) == 0) with
  | true =>
    obtain ⟨r, i', h', -, q2, e4⟩ := l1PickInt_ends (β := β) N b i3 h3 (((((([] : List Int) ++ [(-1)]) ++ [6]) ++ [5]) ++ [0]) ++ [9223372036854775807]) (by decide) (by decide) p3 hb
    exact ⟨r, w, i', h', hw, q2, fun k0 => by rw [cond_true]; exact e4 _⟩
  | false =>
    cases c1 : ((q : Int) == 1) with
    | true =>
      obtain ⟨r, i', h', hr, q2, e4⟩ := l1PickInt_ends (β := β) N b i3 h3 (((((([] : List Int) ++ [(-1)]) ++ [0]) ++ [1]) ++ [65536]) ++ [9223372036854775807]) (by decide) (by decide) p3 hb
      refine ⟨n, r, i', h', ?_, q2, fun k0 => by rw [cond_false, cond_true]; exact e4 _⟩
      have : ∀ r ∈ (((((([] : List Int) ++ [(-1)]) ++ [0]) ++ [1]) ++ [65536]) ++ [9223372036854775807]), r < 9223372036854775808 := by decide
      exact this r hr
    | false => exact ⟨n, w, i3, h3, hw, p3, fun k0 => by rw [cond_false, cond_false]⟩
end Go.Proofs.Ytdkjnadhgdneaaa
