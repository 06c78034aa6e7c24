/- Plain laws of the texts: inputs that contradict; claims of weights. -/
import Derived.Test.YtfdggelojmofmaaP61
namespace Go.Proofs.Ytfdggelojmofmaa
open Go.Rv
set_option linter.unusedVariables false
variable {β : Type}
/-- The first that is found. -/
def look (p : Nat → Option (List Int)) : Nat → Nat → Option (List Int)
  | 0, _ => none
  | d + 1, i => match p i with
    | some r => some r
    | none => look p d (i + 1)
theorem look_loop (g : Nat → Nat → Option β) (p : Nat → Option (List Int)) (kf : List Int → Option β) (ke : Option β) (m : Nat)
    (hs : ∀ F i, i < m → g (F + 1) i = match p i with | some r => kf r | none => g F (i + 1)) (he : ∀ F, g (F + 1) m = ke) :
    ∀ (d F i : Nat), i + d = m → d < F → g F i = match look p d i with | some r => kf r | none => ke
  | 0, F, i, h, hF => by
    obtain ⟨G, rfl⟩ : ∃ G, F = G + 1 := ⟨F - 1, by omega⟩
    rw [show i = m by omega, he]
    rfl
  | d + 1, F, i, h, hF => by
    obtain ⟨G, rfl⟩ : ∃ G, F = G + 1 := ⟨F - 1, by omega⟩
    rw [hs G i (by omega)]
    simp only [look]
    cases p i with
    | some r => rfl
    | none => exact look_loop g p kf ke m hs he d G (i + 1) (by omega) (by omega)
theorem look_one (p : Nat → Option (List Int)) (x : Nat) (h : ∀ i, i ≠ x → p i = none) : ∀ d i, look p d i = if i ≤ x ∧ x < i + d then p x else none
  | 0, i => by rw [if_neg (by omega)]; rfl
  | d + 1, i => by
    simp only [look]
    by_cases hx : i = x
    · subst hx
      rw [if_pos (by omega)]
      cases hp : p i with
      | some r => rfl
      | none =>
        show look p d (i + 1) = none
        rw [look_one p i h d (i + 1), if_neg (by omega)]
    · rw [h i hx]
      show look p d (i + 1) = _
      rw [look_one p x h d (i + 1)]
      by_cases h2 : i ≤ x ∧ x < i + (d + 1)
      · rw [if_pos (by omega), if_pos h2]
      · rw [if_neg (by omega), if_neg h2]

/-- Four inputs. -/
def four (a b c d : Nat) : List Int := [(a : Int), b, c, d]
/-- Whether four inputs contradict. -/
def con4 (W a b c d : Nat) : Option (List Int) := if (decide (a &&& b = c &&& d) && decide (a ^^^ b = c ^^^ d)) && (!W.testBit c && !W.testBit d) then some (four a b c d) else none
def con3 (W a b c : Nat) : Option (List Int) := if c ≤ a ^^^ b ^^^ c then con4 W a b c (a ^^^ b ^^^ c) else none
def con2 (W n a b : Nat) : Option (List Int) := if W.testBit a && W.testBit b then look (con3 W a b) (2 ^ n) 0 else none
def con1 (W n a : Nat) : Option (List Int) := look (con2 W n a) (2 ^ n - a) a
def con0 (W n : Nat) : Option (List Int) := look (con1 W n) (2 ^ n) 0
theorem xor_to (a b c d : Nat) (h : a ^^^ b = c ^^^ d) : d = a ^^^ b ^^^ c := by
  rw [h, Nat.xor_comm c d, Nat.xor_assoc, Nat.xor_self, Nat.xor_zero]
theorem con4_look (W n a b c : Nat) (ha : a < 2 ^ n) (hb : b < 2 ^ n) (hc : c < 2 ^ n) : look (con4 W a b c) (2 ^ n - c) c = con3 W a b c := by
  have hd : a ^^^ b ^^^ c < 2 ^ n := Nat.xor_lt_two_pow (Nat.xor_lt_two_pow ha hb) hc
  rw [look_one _ (a ^^^ b ^^^ c) (fun i hi => ?_)]
  · unfold con3
    by_cases h : c ≤ a ^^^ b ^^^ c
    · rw [if_pos h, if_pos ⟨h, by omega⟩]
    · rw [if_neg h, if_neg (by omega)]
  · unfold con4
    rw [if_neg]
    intro h
    simp only [Bool.and_eq_true, decide_eq_true_eq] at h
    exact hi (xor_to _ _ _ _ h.1.2)

theorem and_one (a : Nat) : a &&& 1 = if a.testBit 0 then 1 else 0 := by
  rw [Nat.and_one_is_mod, Nat.testBit_zero]
  rcases Nat.mod_two_eq_zero_or_one a with h | h <;> rw [h] <;> rfl
theorem bits2 (W a b : Nat) (hW : W < 4294967296) : (bits .and .i64 (bits .and .i64 (shrI .i64 (W : Int) (a : Int)) (shrI .i64 (W : Int) (b : Int))) 1 == 0) = !(W.testBit a && W.testBit b) ∧
    (bits .and .i64 (bits .or .i64 (shrI .i64 (W : Int) (a : Int)) (shrI .i64 (W : Int) (b : Int))) 1 == 0) = (!W.testBit a && !W.testBit b) := by
  have h1 := Nat.div_le_self W (2 ^ a)
  have h2 := Nat.div_le_self W (2 ^ b)
  have h3 : W / 2 ^ a ||| W / 2 ^ b < 2 ^ 32 := Nat.or_lt_two_pow (by omega) (by omega)
  have e : ∀ i, (W / 2 ^ i).testBit 0 = W.testBit i := fun i => by rw [Nat.testBit_div_two_pow, Nat.zero_add]
  rw [shr_nat W a (by omega), shr_nat W b (by omega), bAnd _ _ (by omega) (by omega), bOr _ _ (by omega) (by omega), show (1 : Int) = ((1 : Nat) : Int) from rfl, bAnd _ _ (Nat.lt_of_le_of_lt Nat.and_le_left (by omega)) (by omega), bAnd _ _ (by omega) (by omega), and_one, and_one, Nat.testBit_and, Nat.testBit_or, e, e]
  cases W.testBit a <;> cases W.testBit b <;> exact ⟨rfl, rfl⟩
theorem and_dec (a b c d : Nat) (ha : a < 32) (hb : b < 32) (hc : c < 32) (hd : d < 32) : (bits .and .i64 (a : Int) (b : Int) == bits .and .i64 (c : Int) (d : Int)) = decide (a &&& b = c &&& d) ∧
    (bits .xor .i64 (a : Int) (b : Int) == bits .xor .i64 (c : Int) (d : Int)) = decide (a ^^^ b = c ^^^ d) := by
  rw [bAnd _ _ (by omega) (by omega), bAnd _ _ (by omega) (by omega), bXor _ _ (by omega) (by omega), bXor _ _ (by omega) (by omega)]
  constructor
  · rw [Bool.eq_iff_iff, beq_iff_eq, decide_eq_true_eq]; exact Int.ofNat_inj
  · rw [Bool.eq_iff_iff, beq_iff_eq, decide_eq_true_eq]; exact Int.ofNat_inj

theorem spec_con4 (N : Nat) (hN : 64 < N) (n W a b c : Nat) (hn : n ≤ 5) (hW : W < 4294967296) (ha : a < 2 ^ n) (hb : b < 2 ^ n) (hc : c < 2 ^ n) (k0 : Bool → List Int → Option β) (k1 : Int → Int → Int → Int → Int → Int → Option β) :
    spec_Contradiction_l6 N N ((2 ^ n : Nat) : Int) (a : Int) (b : Int) (c : Int) (c : Int) (n : Int) (W : Int) k0 k1 = match con3 W a b c with | some r => k0 true r | none => k1 ((2 ^ n : Nat) : Int) a b c n W := by
  have hs := size_le hn
  have hz : (0 : Int) ≤ ((2 ^ n : Nat) : Int) := Int.natCast_nonneg _
  rw [← con4_look W n a b c ha hb hc]
  refine look_loop (fun F d => spec_Contradiction_l6 N F ((2 ^ n : Nat) : Int) (a : Int) (b : Int) (c : Int) (d : Int) (n : Int) (W : Int) k0 k1) (con4 W a b c) (k0 true) _ (2 ^ n) (fun F d hd => ?_) (fun F => ?_) _ N c (by omega) (by omega)
  · simp only [spec_Contradiction_l6, spec_Contradiction_l6b]
    obtain ⟨e1, e2⟩ := and_dec a b c d (by omega) (by omega) (by omega) (by omega)
    rw [decide_eq_true (by omega), cond_true, e1, e2, gd_true (decide_eq_true (by omega)), gd_true (decide_eq_true (by omega)), (bits2 W c d hW).2, w64_succ d (by omega)]
    unfold con4
    cases decide (a &&& b = c &&& d) with
    | false => rfl
    | true =>
      cases decide (a ^^^ b = c ^^^ d) with
      | false => rfl
      | true =>
        cases (!W.testBit c && !W.testBit d) with
        | false => rfl
        | true => rfl
  · simp only [spec_Contradiction_l6, spec_Contradiction_l6b]
    rw [decide_eq_false (by omega), cond_false]

theorem spec_Contradiction_n (N : Nat) (hN : 64 < N) (n W : Nat) (hn : n ≤ 5) (hW : W < 2 ^ 2 ^ n) (k : List Int → Bool → Option β) :
    spec_Contradiction N (n : Int) (W : Int) k = match con0 W n with | some r => k r true | none => k [] false := by
  have hs := size_le hn
  have hz : (0 : Int) ≤ ((2 ^ n : Nat) : Int) := Int.natCast_nonneg _
  have hW' := two32 (by omega) hW
  unfold spec_Contradiction
  rw [spec_IsTable_eq, isTn (by omega) hW, Bool.not_true, cond_false, gd_true (decide_eq_true (by omega)), shl_one n (by omega)]
  refine look_loop (fun F a => spec_Contradiction_l0 N F ((2 ^ n : Nat) : Int) (a : Int) (n : Int) (W : Int) (fun e11_0 e11_1 => k e11_1 e11_0) (k [] false)) (con1 W n) (fun r => k r true) _ (2 ^ n) (fun F a ha => ?_) (fun F => ?_) _ N 0 (by omega) (by omega)
  · simp only [spec_Contradiction_l0, spec_Contradiction_l0b]
    rw [decide_eq_true (by omega), cond_true]
    refine look_loop (fun F b => spec_Contradiction_l2 N F ((2 ^ n : Nat) : Int) (a : Int) (b : Int) (n : Int) (W : Int) (fun e0 e1 => k e1 e0) _) (con2 W n a) (fun r => k r true) _ (2 ^ n) (fun G b hb => ?_) (fun G => ?_) (2 ^ n - a) N a (by omega) (by omega)
    · simp only [spec_Contradiction_l2, spec_Contradiction_l2b]
      rw [decide_eq_true (by omega), cond_true, gd_true (decide_eq_true (by omega)), gd_true (decide_eq_true (by omega)), (bits2 W a b hW').1, w64_succ b (by omega)]
      unfold con2
      cases W.testBit a && W.testBit b with
      | false => rfl
      | true =>
        rw [Bool.not_true, cond_false, if_pos rfl]
        refine look_loop (fun F c => spec_Contradiction_l4 N F ((2 ^ n : Nat) : Int) (a : Int) (b : Int) (c : Int) (n : Int) (W : Int) (fun e0 e1 => k e1 e0) _) (con3 W a b) (fun r => k r true) _ (2 ^ n) (fun G c hc => ?_) (fun G => ?_) (2 ^ n) N 0 (by omega) (by omega)
        · simp only [spec_Contradiction_l4, spec_Contradiction_l4b]
          rw [decide_eq_true (by omega), cond_true, spec_con4 N hN n W a b c hn hW' ha hb hc, w64_succ c (by omega)]
        · simp only [spec_Contradiction_l4, spec_Contradiction_l4b]
          rw [decide_eq_false (by omega), cond_false, w64_succ b (by omega)]
    · simp only [spec_Contradiction_l2, spec_Contradiction_l2b]
      rw [decide_eq_false (by omega), cond_false, w64_succ a (by omega)]
  · simp only [spec_Contradiction_l0, spec_Contradiction_l0b]
    rw [decide_eq_false (by omega), cond_false]

theorem impl_con3 (N : Nat) (n W a b c : Nat) (hn : n ≤ 5) (hW : W < 4294967296) (ha : a < 2 ^ n) (hb : b < 2 ^ n) (hc : c < 2 ^ n) (K : Option β) (k0 : Bool → List Int → Option β) :
    (cond (decide ((c : Int) ≤ (bits .xor .i64 (bits .xor .i64 (a : Int) (b : Int)) (c : Int))))
      (impl_Table_at N (n : Int) (W : Int) (c : Int) fun r10 => cond (r10 == 0)
        (impl_Table_at N (n : Int) (W : Int) (bits .xor .i64 (bits .xor .i64 (a : Int) (b : Int)) (c : Int)) fun r11 => cond (r11 == 0)
          (impl_isContradiction N (a : Int) (b : Int) (c : Int) (bits .xor .i64 (bits .xor .i64 (a : Int) (b : Int)) (c : Int)) fun r12 => cond r12
            (k0 true ((((([] : List Int) ++ [(a : Int)]) ++ [(b : Int)]) ++ [(c : Int)]) ++ [(bits .xor .i64 (bits .xor .i64 (a : Int) (b : Int)) (c : Int))])) K) K) K) K)
      = match con3 W a b c with | some r => k0 true r | none => K := by
  have hs := size_le hn
  have hd : a ^^^ b ^^^ c < 2 ^ n := Nat.xor_lt_two_pow (Nat.xor_lt_two_pow ha hb) hc
  have he : a ^^^ b < 2 ^ n := Nat.xor_lt_two_pow ha hb
  obtain ⟨e1, e2⟩ := and_dec a b c (a ^^^ b ^^^ c) (by omega) (by omega) (by omega) (by omega)
  rw [bXor a b (by omega) (by omega), bXor (a ^^^ b) c (by omega) (by omega)]
  unfold con3 impl_isContradiction
  rw [e1, e2]
  generalize a ^^^ b ^^^ c = d at hd
  rw [show decide ((c : Int) ≤ (d : Int)) = decide (c ≤ d) from decide_eq_decide.2 (by omega), impl_Table_at_eq N W c _ hW, impl_Table_at_eq N W d _ hW]
  unfold con4 bw four
  by_cases h : c ≤ d
  · rw [decide_eq_true h, cond_true, if_pos h]
    cases W.testBit c with
    | true => simp
    | false =>
      cases W.testBit d with
      | true => simp
      | false =>
        cases decide (a &&& b = c &&& d) with
        | false => rfl
        | true =>
          cases decide (a ^^^ b = c ^^^ d) with
          | false => rfl
          | true => rfl
  · rw [decide_eq_false h, cond_false, if_neg h]

theorem impl_Contradiction_n (N : Nat) (hN : 64 < N) (n W : Nat) (hn : n ≤ 5) (hW : W < 2 ^ 2 ^ n) (k : List Int → Bool → Option β) :
    impl_Contradiction N (n : Int) (W : Int) k = match con0 W n with | some r => k r true | none => k [] false := by
  have hs := size_le hn
  have hz : (0 : Int) ≤ ((2 ^ n : Nat) : Int) := Int.natCast_nonneg _
  have hW' := two32 (by omega) hW
  unfold impl_Contradiction
  rw [impl_IsTable_eq N _ _ (by omega), isTn (by omega) hW, Bool.not_true, cond_false, impl_Table_size_eq N n _ hn]
  refine look_loop (fun F a => impl_Contradiction_l0 N F ((2 ^ n : Nat) : Int) (a : Int) (n : Int) (W : Int) (fun e11_0 e11_1 => k e11_1 e11_0) (k [] false)) (con1 W n) (fun r => k r true) _ (2 ^ n) (fun F a ha => ?_) (fun F => ?_) _ N 0 (by omega) (by omega)
  · simp only [impl_Contradiction_l0, impl_Contradiction_l0b]
    rw [decide_eq_true (by omega), cond_true]
    refine look_loop (fun F b => impl_Contradiction_l2 N F (a : Int) (b : Int) ((2 ^ n : Nat) : Int) (a : Int) (n : Int) (W : Int) (fun e0 e1 => k e1 e0) _) (con2 W n a) (fun r => k r true) _ (2 ^ n) (fun G b hb => ?_) (fun G => ?_) (2 ^ n - a) N a (by omega) (by omega)
    · simp only [impl_Contradiction_l2, impl_Contradiction_l2b, impl_Table_size_eq N n _ hn, impl_Table_at_eq N W _ _ hW']
      rw [decide_eq_true (by omega), cond_true, w64_succ b (by omega)]
      unfold con2 bw
      cases W.testBit a with
      | false => rfl
      | true =>
        cases W.testBit b with
        | false => rfl
        | true =>
          rw [if_pos rfl, show (((1 : Nat) : Int) == 0) = false from rfl, cond_false, cond_false, Bool.and_self, if_pos rfl]
          refine look_loop (fun F c => impl_Contradiction_l4 N F (a : Int) (b : Int) ((2 ^ n : Nat) : Int) (a : Int) ((2 ^ n : Nat) : Int) (c : Int) (n : Int) (W : Int) (fun e0 e1 => k e1 e0) _) (con3 W a b) (fun r => k r true) _ (2 ^ n) (fun G c hc => ?_) (fun G => ?_) (2 ^ n) N 0 (by omega) (by omega)
          · simp only [impl_Contradiction_l4, impl_Contradiction_l4b]
            rw [decide_eq_true (by omega), cond_true, w64_succ c (by omega)]
            exact impl_con3 N n W a b c hn hW' ha hb hc _ (fun e0 e1 => k e1 e0)
          · simp only [impl_Contradiction_l4, impl_Contradiction_l4b]
            rw [decide_eq_false (by omega), cond_false, w64_succ b (by omega)]
    · simp only [impl_Contradiction_l2, impl_Contradiction_l2b, impl_Table_size_eq N n _ hn]
      rw [decide_eq_false (by omega), cond_false, w64_succ a (by omega)]
  · simp only [impl_Contradiction_l0, impl_Contradiction_l0b]
    rw [decide_eq_false (by omega), cond_false]

theorem look_len (p : Nat → Option (List Int)) (h : ∀ i r, p i = some r → r.length = 4) : ∀ d i r, look p d i = some r → r.length = 4
  | 0, i, r, e => by cases e
  | d + 1, i, r, e => by
    simp only [look] at e
    cases hp : p i with
    | some r' => rw [hp] at e; cases e; exact h i _ hp
    | none => rw [hp] at e; exact look_len p h d _ r e
theorem con0_len (W n : Nat) (r : List Int) (h : con0 W n = some r) : r.length = 4 := by
  refine look_len _ (fun a r h => look_len _ (fun b r h => ?_) _ _ r h) _ _ r h
  unfold con2 at h
  split at h
  · refine look_len _ (fun c r h => ?_) _ _ r h
    unfold con3 at h
    split at h
    · unfold con4 at h
      split at h
      · cases h; rfl
      · cases h
    · cases h
  · cases h

theorem law_ClaimOfThreshold (N : Nat) (hN : 1048576 < N) (a0 a1 : Int) (h0 : -9223372036854775808 ≤ a0 ∧ a0 ≤ 9223372036854775807) (h1 : -9223372036854775808 ≤ a1 ∧ a1 ≤ 9223372036854775807) (k : Bool → Option β) :
    laws_FnExactClaimOfThreshold N a0 a1 k = k true := by
  have e0 : ([] : List Int).length ≤ 1048576 := by simp
  have hc : ∀ n : Nat, decide (((1 + n : Nat) : Int) < 0) = false := fun n => decide_eq_false (by omega)
  unfold laws_FnExactClaimOfThreshold laws_toTable spec_ClaimOfThreshold impl_ClaimOfThreshold
  simp only [impl_isSmall_eq N a0 a1 4 (by omega)]
  cases ht : isT a0 a1 with
  | false =>
    have hs : smallT a0 a1 4 = false := by unfold smallT; rw [ht]; rfl
    unfold spec_WeightsFor spec_Contradiction
    simp only [spec_IsTable_eq, ht, hs, Bool.not_false, cond_true, cond_false]
    simp only [laws_eqClaim_same N _ _ _ _ _ _ _ e0 hN, laws_markClaim_eq N _ _ _ _ _ _ _ e0 hN, laws_heldClaim_eq N _ _ _ _ _ _ _ e0 hN, hc, beq_self_eq_true, Bool.not_true, cond_false, bne_self_eq_false]
  | true =>
    obtain ⟨n, W, rfl, rfl, hn, hW, _⟩ := isT_nat ht
    by_cases h4 : n ≤ 4
    · have hs : smallT (n : Int) (W : Int) 4 = true := by unfold smallT; rw [ht, decide_eq_true (by omega)]; rfl
      have h5 : decide ((n : Int) > 4) = false := decide_eq_false (by omega)
      simp only [hs, Bool.not_true, cond_false, spec_WeightsFor_n N hN n W h4 hW, impl_WeightsFor_n N hN n W h4 hW, spec_Contradiction_n N (by omega) n W hn hW, impl_Contradiction_n N (by omega) n W hn hW, h5]
      have hl := (bst_ok W n h4 (7 ^ n)).1
      cases (bst_ W n (7 ^ n)).2.2 with
      | true =>
        have e1 : (bst_ W n (7 ^ n)).1.length ≤ 1048576 := by omega
        simp only [laws_eqClaim_same N _ _ _ _ _ _ _ e1 hN, laws_markClaim_eq N _ _ _ _ _ _ _ e1 hN, laws_heldClaim_eq N _ _ _ _ _ _ _ e1 hN, hc, beq_self_eq_true, Bool.not_true, Bool.not_false, cond_true, cond_false, bne_self_eq_false]
      | false =>
        cases hr : con0 W n with
        | none => simp only [laws_eqClaim_same N _ _ _ _ _ _ _ e0 hN, laws_markClaim_eq N _ _ _ _ _ _ _ e0 hN, laws_heldClaim_eq N _ _ _ _ _ _ _ e0 hN, hc, beq_self_eq_true, Bool.not_true, Bool.not_false, cond_true, cond_false, bne_self_eq_false]
        | some r =>
          have e1 : r.length ≤ 1048576 := by rw [con0_len W n r hr]; decide
          simp only [laws_eqClaim_same N _ _ _ _ _ _ _ e1 hN, laws_markClaim_eq N _ _ _ _ _ _ _ e1 hN, laws_heldClaim_eq N _ _ _ _ _ _ _ e1 hN, hc, beq_self_eq_true, Bool.not_true, cond_false, bne_self_eq_false]
    · have hs : smallT (n : Int) (W : Int) 4 = false := by unfold smallT; rw [ht, decide_eq_false (by omega)]; rfl
      have h5 : decide ((n : Int) > 4) = true := decide_eq_true (by omega)
      unfold spec_WeightsFor
      simp only [spec_IsTable_eq, ht, hs, Bool.not_false, Bool.not_true, cond_true, cond_false, h5, spec_Contradiction_n N (by omega) n W hn hW]
      cases hr : con0 W n with
      | none => simp only [laws_eqClaim_same N _ _ _ _ _ _ _ e0 hN, laws_markClaim_eq N _ _ _ _ _ _ _ e0 hN, laws_heldClaim_eq N _ _ _ _ _ _ _ e0 hN, hc, beq_self_eq_true, Bool.not_true, cond_false, bne_self_eq_false]
      | some r => simp only [laws_eqClaim_same N _ _ _ _ _ _ _ e0 hN, laws_markClaim_eq N _ _ _ _ _ _ _ e0 hN, laws_heldClaim_eq N _ _ _ _ _ _ _ e0 hN, hc, beq_self_eq_true, Bool.not_true, cond_false, bne_self_eq_false]
end Go.Proofs.Ytfdggelojmofmaa
