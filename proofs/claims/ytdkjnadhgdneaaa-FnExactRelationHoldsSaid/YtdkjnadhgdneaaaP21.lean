/- Plain laws of the texts: MeasureOf, MaximumOf, RelationHolds. -/
import Derived.Test.YtdkjnadhgdneaaaP20
namespace Go.Proofs.Ytdkjnadhgdneaaa
open Go.Rv
set_option linter.unusedVariables false
variable {β : Type}
theorem mxI_comm0 (a : Int) : mxI a 0 = mxI 0 a := by unfold mxI; split <;> split <;> omega
/-- A measure by its name. -/
def msr (s : ByteArray) (w n : Nat) : Int :=
  cond (s.toList == (strOf [115, 101, 110, 115, 105, 116, 105, 118, 105, 116, 121]).toList) (sensOf w n : Int)
  (cond (s.toList == (strOf [98, 108, 111, 99, 107, 115]).toList) (bsOf w n : Int)
  (cond (s.toList == (strOf [99, 101, 114, 116, 105, 102, 105, 99, 97, 116, 101]).toList) (mxI (certOf w n false : Int) (certOf w n true : Int))
  (cond (s.toList == (strOf [100, 101, 112, 116, 104]).toList) (depth w n : Int)
  (cond (s.toList == (strOf [100, 101, 103, 114, 101, 101]).toList) (mxI 0 (deg w n))
  (cond (s.toList == (strOf [100, 101, 103, 114, 101, 101, 50]).toList) (mxI 0 (dg (anf w n).testBit (2 ^ n)))
  (cond (s.toList == (strOf [111, 110, 101, 115]).toList) (ones w : Int)
  (cond (s.toList == (strOf [105, 110, 102, 108, 117, 101, 110, 99, 101]).toList) (total w n : Int) (-1))))))))
theorem spec_cert0 (N : Nat) (hN : 64 < N) (n w : Nat) (hn : n ≤ 5) (hw : w < 2 ^ 2 ^ n) (k : Int → Option β) : spec_CertificateOf N (n : Int) (w : Int) 0 k = k (certOf w n false : Int) := spec_CertificateOf_eq N hN n w hn hw false k
theorem spec_cert1 (N : Nat) (hN : 64 < N) (n w : Nat) (hn : n ≤ 5) (hw : w < 2 ^ 2 ^ n) (k : Int → Option β) : spec_CertificateOf N (n : Int) (w : Int) 1 k = k (certOf w n true : Int) := spec_CertificateOf_eq N hN n w hn hw true k
theorem impl_cert0 (N : Nat) (hN : 64 < N) (n w : Nat) (hn : n ≤ 5) (hw : w < 2 ^ 2 ^ n) (k : Int → Option β) : impl_CertificateOf N (n : Int) (w : Int) 0 k = k (certOf w n false : Int) := impl_CertificateOf_eq N hN n w hn hw false k
theorem impl_cert1 (N : Nat) (hN : 64 < N) (n w : Nat) (hn : n ≤ 5) (hw : w < 2 ^ 2 ^ n) (k : Int → Option β) : impl_CertificateOf N (n : Int) (w : Int) 1 k = k (certOf w n true : Int) := impl_CertificateOf_eq N hN n w hn hw true k
theorem step {γ : Type} {k : Int → γ} {c : Bool} {A B : γ} {a b : Int} (h1 : A = k a) (h2 : B = k b) : cond c A B = k (cond c a b) := by cases c; exact h2; exact h1
theorem spec_MeasureOf_small (N : Nat) (hN : 64 < N) (s : ByteArray) (n w : Nat) (hn : n ≤ 4) (hw : w < 2 ^ 2 ^ n) (k : Int → Option β) : spec_MeasureOf N s (n : Int) (w : Int) k = k (msr s w n) := by
  have h5 : n ≤ 5 := by omega
  unfold spec_MeasureOf msr
  rw [spec_IsTable_eq, isT_of h5 hw, Bool.not_true, cond_false, decide_eq_false (by omega : ¬ (n : Int) > 4), cond_false]
  exact step (spec_SensitivityOf_eq N hN n w h5 hw k) (step (spec_BlockSensitivityOf_eq N hN n w hn hw k) (step (by rw [spec_cert0 N hN n w h5 hw, spec_cert1 N hN n w h5 hw]) (step (spec_LeastDepth_eq N hN n w hn hw k) (step (spec_RealDegree_eq N hN n w h5 hw fun r => k (mxI 0 r)) (step (spec_DegreeMod2_eq N hN n w h5 hw fun r => k (mxI 0 r)) (step (spec_CountOnes_eq N hN n w h5 hw k) (step (spec_TotalInfluence_eq N hN n w h5 hw k) rfl)))))))
theorem impl_measure_eq (N : Nat) (hN : 64 < N) (s : ByteArray) (n w : Nat) (hn : n ≤ 4) (hw : w < 2 ^ 2 ^ n) (k : Int → Option β) : impl_measure N s (n : Int) (w : Int) k = k (msr s w n) := by
  have h5 : n ≤ 5 := by omega
  unfold impl_measure msr
  exact step (impl_SensitivityOf_eq N hN n w h5 hw k) (step (impl_BlockSensitivityOf_eq N hN n w hn hw k) (step (by rw [impl_cert0 N hN n w h5 hw, impl_cert1 N hN n w h5 hw]) (step (impl_LeastDepth_eq N hN n w hn hw k) (step ((impl_RealDegree_eq N hN n w h5 hw fun r => k (mxI r 0)).trans (by rw [mxI_comm0])) (step ((impl_DegreeMod2_eq N hN n w h5 hw fun r => k (mxI r 0)).trans (by rw [mxI_comm0])) (step (impl_CountOnes_eq N hN n w h5 hw k) (step (impl_TotalInfluence_eq N hN n w h5 hw k) rfl)))))))

theorem small_nat {a0 a1 : Int} (h : smallT a0 a1 4 = true) : ∃ n w : Nat, a0 = n ∧ a1 = w ∧ n ≤ 4 ∧ w < 2 ^ 2 ^ n := by
  unfold smallT at h
  simp only [Bool.and_eq_true, decide_eq_true_eq] at h
  obtain ⟨n, w, rfl, rfl, hn, hw, _⟩ := isT_nat h.1
  exact ⟨n, w, rfl, rfl, by omega, hw⟩
def measure (s : ByteArray) (a0 a1 : Int) : Int := if smallT a0 a1 4 then msr s a1.toNat a0.toNat else -1
theorem spec_MeasureOf_eq (N : Nat) (hN : 64 < N) (s : ByteArray) (a0 a1 : Int) (k : Int → Option β) : spec_MeasureOf N s a0 a1 k = k (measure s a0 a1) := by
  unfold measure
  by_cases h : smallT a0 a1 4 = true
  · rw [if_pos h]
    obtain ⟨n, w, rfl, rfl, hn, hw⟩ := small_nat h
    exact spec_MeasureOf_small N hN s n w hn hw k
  · rw [if_neg h]
    unfold spec_MeasureOf
    rw [spec_IsTable_eq]
    unfold smallT at h
    cases hT : isT a0 a1 with
    | false => rfl
    | true =>
      rw [hT, Bool.true_and, decide_eq_true_eq] at h
      rw [Bool.not_true, cond_false, decide_eq_true (by omega : a0 > 4), cond_true]
theorem impl_MeasureOf_eq (N : Nat) (hN : 64 < N) (s : ByteArray) (a0 a1 : Int) (h1 : a1 < 9223372036854775808) (k : Int → Option β) : impl_MeasureOf N s a0 a1 k = k (measure s a0 a1) := by
  unfold measure impl_MeasureOf
  rw [impl_isSmall_eq N a0 a1 4 h1]
  by_cases h : smallT a0 a1 4 = true
  · rw [if_pos h, h, Bool.not_true, cond_false]
    obtain ⟨n, w, rfl, rfl, hn, hw⟩ := small_nat h
    rw [impl_measure_eq N hN s n w hn hw]
    rfl
  · rw [if_neg h, Bool.eq_false_iff.2 h]
    rfl
theorem law_MeasureOf (N : Nat) (hN : 1048576 < N) (s : ByteArray) (a0 a1 : Int) (hs : (s.size : Int) ≤ 9223372036854775807) (h0 : -9223372036854775808 ≤ a0 ∧ a0 ≤ 9223372036854775807) (h1 : -9223372036854775808 ≤ a1 ∧ a1 ≤ 9223372036854775807) (k : Bool → Option β) :
    laws_FnExactMeasureOf N s a0 a1 k = k true := by
  unfold laws_FnExactMeasureOf laws_toTable
  simp only [spec_MeasureOf_eq N (by omega : 64 < N), impl_MeasureOf_eq N (by omega : 64 < N) s a0 a1 (by omega), bne_self_eq_false, cond_false]
  cases decide ((s.size : Int) > 1048576) <;> rfl

/-! ### MaximumOf -/
def best (f : Nat → Int) : Nat → Int
  | 0 => -1
  | m + 1 => mxI (best f m) (f m)
theorem spec_MaximumOf_eq (N : Nat) (hN : 1048576 < N) (s : ByteArray) (n : Nat) (hn : n ≤ 3) (k : Int → Option β) : spec_MaximumOf N s (n : Int) k = k (best (fun w => msr s w n) (2 ^ 2 ^ n)) := by
  have hp := pow_small hn
  have hpos := Nat.two_pow_pos (2 ^ n)
  unfold spec_MaximumOf
  rw [spec_l1In_eq, decide_eq_true (by omega : (0 : Int) ≤ (n : Int)), decide_eq_true (by omega : (n : Int) ≤ 3)]
  simp only [Bool.and_self, Bool.not_true, cond_false]
  have key : ∀ (F w : Nat), 2 ^ 2 ^ n - w < F → w ≤ 2 ^ 2 ^ n → spec_MaximumOf_l0 N F s (n : Int) (best (fun w => msr s w n) w) (w : Int) k = k (best (fun w => msr s w n) (2 ^ 2 ^ n)) := by
    intro F
    induction F with
    | zero => intro x h; omega
    | succ F ih =>
      intro w hF hw
      simp only [spec_MaximumOf_l0, spec_MaximumOf_l0b]
      rw [spec_l2Full_eq N n (by omega)]
      by_cases hlt : w < 2 ^ 2 ^ n
      · rw [decide_eq_true (by omega : (w : Int) ≤ ((2 ^ 2 ^ n - 1 : Nat) : Int)), cond_true, spec_MeasureOf_small N (by omega) s n w (by omega) hlt, w64_succ w (by omega)]
        exact ih (w + 1) (by omega) (by omega)
      · rw [decide_eq_false (by omega : ¬ (w : Int) ≤ ((2 ^ 2 ^ n - 1 : Nat) : Int)), cond_false, show w = 2 ^ 2 ^ n by omega]
  exact key N 0 (by omega) (Nat.zero_le _)
theorem impl_MaximumOf_eq (N : Nat) (hN : 1048576 < N) (s : ByteArray) (n : Nat) (hn : n ≤ 3) (k : Int → Option β) : impl_MaximumOf N s (n : Int) k = k (best (fun w => msr s w n) (2 ^ 2 ^ n)) := by
  have hp := pow_small hn
  have hs := size_le (by omega : n ≤ 5)
  have hpos := Nat.two_pow_pos (2 ^ n)
  unfold impl_MaximumOf impl_allTables_g0
  rw [decide_eq_false (by omega : ¬ (n : Int) < 0), cond_false, decide_eq_false (by omega : ¬ (n : Int) > 3), cond_false, gd_true (decide_eq_true (by omega : (0 : Int) ≤ (n : Int))), shl_u64 n (by omega), gd_true (decide_eq_true (Int.natCast_nonneg _)), shl_one (2 ^ n) (by omega)]
  have key : ∀ (K : Int → ByteArray → Option β) (F w : Nat), 2 ^ 2 ^ n - w < F → w ≤ 2 ^ 2 ^ n → impl_allTables_l0 N F (n : Int) ((2 ^ 2 ^ n : Nat) : Int) (w : Int) (best (fun w => msr s w n) w) s K = K (best (fun w => msr s w n) (2 ^ 2 ^ n)) s := by
    intro K F
    induction F with
    | zero => intro x h; omega
    | succ F ih =>
      intro w hF hw
      simp only [impl_allTables_l0, impl_allTables_l0b, impl_MaximumOf_1_g0]
      by_cases hlt : w < 2 ^ 2 ^ n
      · rw [decide_eq_true (by omega : (w : Int) < ((2 ^ 2 ^ n : Nat) : Int)), cond_true, impl_measure_eq N (by omega) s n w (by omega) hlt, w64_succ w (by omega)]
        exact ih (w + 1) (by omega) (by omega)
      · rw [decide_eq_false (by omega : ¬ (w : Int) < ((2 ^ 2 ^ n : Nat) : Int)), cond_false, show w = 2 ^ 2 ^ n by omega]
  exact key (fun e _ => k e) N 0 (by omega) (Nat.zero_le _)
theorem law_MaximumOf (N : Nat) (hN : 1048576 < N) (s : ByteArray) (a0 : Int) (hs : (s.size : Int) ≤ 9223372036854775807) (h0 : -9223372036854775808 ≤ a0 ∧ a0 ≤ 9223372036854775807) (k : Bool → Option β) :
    laws_FnExactMaximumOf N s a0 k = k true := by
  unfold laws_FnExactMaximumOf
  have fin : ∀ K : Option β, cond (decide ((s.size : Int) > 1048576)) K K = K := fun K => by cases decide ((s.size : Int) > 1048576) <;> rfl
  by_cases hr : 0 ≤ a0 ∧ a0 ≤ 3
  · obtain ⟨n, rfl⟩ := Int.eq_ofNat_of_zero_le hr.1
    simp only [spec_MaximumOf_eq N hN s n (by omega), impl_MaximumOf_eq N hN s n (by omega), bne_self_eq_false, cond_false]
    exact fin _
  · have e1 : ∀ K : Int → Option β, spec_MaximumOf N s a0 K = K (-1) := fun K => by
      unfold spec_MaximumOf
      rw [spec_l1In_eq]
      have : (decide ((0 : Int) ≤ a0) && decide (a0 ≤ 3)) = false := by
        rw [Bool.eq_false_iff]
        simp only [ne_eq, Bool.and_eq_true, decide_eq_true_eq]
        exact hr
      rw [this]
      rfl
    have e2 : ∀ K : Int → Option β, impl_MaximumOf N s a0 K = K (-1) := fun K => by
      unfold impl_MaximumOf
      by_cases h : a0 < 0
      · rw [decide_eq_true h]; rfl
      · rw [decide_eq_false h, cond_false, decide_eq_true (by omega : a0 > 3)]; rfl
    simp only [e1, e2, bne_self_eq_false, cond_false]
    exact fin _

/-! ### RelationHolds -/
theorem spread_small : ∀ x : Nat, x < 16 → ∀ i : Nat, i < 5 → ∀ b : Nat, b < 2 → bits .or .i64 (bits .or .i64 (shlI .i64 (w64 ((x : Int) - bits .and .i64 (x : Int) (w64 (shlI .i64 1 (i : Int) - 1)))) 1) (shlI .i64 (b : Int) (i : Int))) (bits .and .i64 (x : Int) (w64 (shlI .i64 1 (i : Int) - 1))) = (ins x i b : Int) := by decide +kernel
theorem impl_restrict_eq (N : Nat) (hN : 64 < N) (n w i b : Nat) (hn : n ≤ 5) (hi : i < n) (hw : w < 4294967296) (hb : b < 2) (k : Int → Int → Option β) :
    impl_Table_restrict N (n : Int) (w : Int) (i : Int) (b : Int) k = k ((n - 1 : Nat) : Int) (tabw (fun x => w.testBit (ins x i b)) (2 ^ (n - 1)) : Int) := by
  unfold impl_Table_restrict
  have hs : 2 ^ (n - 1) ≤ 16 := Nat.le_trans (Nat.pow_le_pow_right (by decide) (by omega : n - 1 ≤ 4)) (by decide)
  rw [show (n : Int) - 1 = ((n - 1 : Nat) : Int) by omega, w64_nat _ (by omega), makeTable_eq N hN (n - 1) (by omega) _ (fun x => w.testBit (ins x i b)) fun x k hx => ?_]
  unfold impl_Table_restrict_1 impl_spread impl_Table_at
  rw [gd_true (decide_eq_true (by omega : (0 : Int) ≤ (i : Int))), gd_true (decide_eq_true (by omega : (0 : Int) ≤ (i : Int))), spread_small x (by omega) i (by omega) b hb]
  show gd (decide ((0 : Int) ≤ ((ins x i b : Nat) : Int))) (k (bits .and .i64 (shrI .i64 (w : Int) ((ins x i b : Nat) : Int)) 1 == 1)) = _
  rw [gd_true (decide_eq_true (Int.natCast_nonneg _)), bit_at w _ (by omega), bit_eq_one]
theorem impl_depends_eq (N : Nat) (hN : 64 < N) (n w i : Nat) (hn : n ≤ 5) (hi : i < n) (hw : w < 4294967296) (k : Bool → Option β) : impl_Table_depends N (n : Int) (w : Int) (i : Int) k = k (dep w n i) := by
  unfold impl_Table_depends
  have e0 := fun k => impl_restrict_eq (β := β) N hN n w i 0 hn hi hw (by decide) k
  have e1 := fun k => impl_restrict_eq (β := β) N hN n w i 1 hn hi hw (by decide) k
  simp only [Int.natCast_zero] at e0
  have e1 : ∀ k : Int → Int → Option β, impl_Table_restrict N (n : Int) (w : Int) (i : Int) 1 k = k ((n - 1 : Nat) : Int) (tabw (fun x => w.testBit (ins x i 1)) (2 ^ (n - 1)) : Int) := e1
  simp only [e0, e1]
  congr 1
  unfold dep
  rw [beq_self_eq_true, Bool.true_and, bne]
  congr 1
  rw [Bool.eq_iff_iff, beq_iff_eq, beq_iff_eq]
  omega
theorem impl_VariablesOf_eq (N : Nat) (hN : 64 < N) (n w : Nat) (hn : n ≤ 5) (hw : w < 2 ^ 2 ^ n) (k : List Int → Option β) : impl_VariablesOf N (n : Int) (w : Int) k = k (vars w n n) := by
  have hw' := two32 hn hw
  unfold impl_VariablesOf
  rw [impl_IsTable_eq N _ _ (by omega), isT_of hn hw, Bool.not_true, cond_false]
  have key : ∀ (F i : Nat), n - i < F → i ≤ n → impl_VariablesOf_l0 N F (n : Int) (i : Int) (n : Int) (w : Int) (vars w n i) k = k (vars w n n) := by
    intro F
    induction F with
    | zero => intro i hF; omega
    | succ F ih =>
      intro i hF hi
      simp only [impl_VariablesOf_l0, impl_VariablesOf_l0b]
      by_cases hlt : i < n
      · rw [decide_eq_true (by omega : (i : Int) < (n : Int))]
        simp only [cond_true, impl_depends_eq N hN n w i hn hlt hw']
        have h1 := ih (i + 1) (by omega) (by omega)
        rw [vars_succ] at h1
        have hl := vars_len w n i
        rw [w64_succ i (by omega), gd_true (decide_eq_true (by simp; omega))]
        cases hd : dep w n i with
        | true => rw [hd, if_pos rfl] at h1; exact h1
        | false => rw [hd, if_neg (by decide)] at h1; exact h1
      · rw [decide_eq_false (by omega : ¬ (i : Int) < (n : Int)), cond_false, show i = n by omega]
  exact key N 0 (by omega) (Nat.zero_le _)

/-- Two texts that end with the same. -/
def Ends (f g : (Bool → Option β) → Option β) : Prop := ∃ v : Bool, (∀ K, f K = K v) ∧ ∀ K, g K = K v
theorem Ends.leaf (v : Bool) : Ends (β := β) (fun K => K v) (fun K => K v) := ⟨v, fun _ => rfl, fun _ => rfl⟩
theorem Ends.cond {c : Bool} {f g f' g' : (Bool → Option β) → Option β} (h : Ends f g) (h' : Ends f' g') : Ends (fun K => cond c (f K) (f' K)) (fun K => cond c (g K) (g' K)) := by
  cases c
  · exact h'
  · exact h
theorem msr_sens (w n : Nat) : msr (strOf [115, 101, 110, 115, 105, 116, 105, 118, 105, 116, 121]) w n = (sensOf w n : Int) := by
  unfold msr
  rw [beq_self_eq_true, cond_true]
theorem law_RelationHolds (N : Nat) (hN : 1048576 < N) (s : ByteArray) (a0 a1 : Int) (hs : (s.size : Int) ≤ 9223372036854775807) (h0 : -9223372036854775808 ≤ a0 ∧ a0 ≤ 9223372036854775807) (h1 : -9223372036854775808 ≤ a1 ∧ a1 ≤ 9223372036854775807) (k : Bool → Option β) :
    laws_FnExactRelationHolds N s a0 a1 k = k true := by
  unfold laws_FnExactRelationHolds laws_toTable
  have fin : ∀ K : Option β, cond (decide ((s.size : Int) > 1048576)) K K = K := fun K => by cases decide ((s.size : Int) > 1048576) <;> rfl
  have both : ∃ v : Bool, (∀ K : Bool → Option β, spec_RelationHolds N s a0 a1 K = K v) ∧ (∀ K : Bool → Option β, impl_RelationHolds N s a0 a1 K = K v) := by
    unfold spec_RelationHolds impl_RelationHolds impl_RelationHolds_1
    simp only [spec_MeasureOf_eq N (by omega : 64 < N), impl_isSmall_eq N a0 a1 4 (by omega)]
    by_cases h : smallT a0 a1 4 = true
    · have hm : ∀ s, measure s a0 a1 = msr s a1.toNat a0.toNat := fun s => by unfold measure; rw [if_pos h]
      simp only [hm, h]
      obtain ⟨n, w, rfl, rfl, hn, hw⟩ := small_nat h
      simp only [Int.toNat_natCast, impl_measure_eq N (by omega : 64 < N) _ n w hn hw, impl_cert0 N (by omega : 64 < N) n w (by omega) hw, impl_cert1 N (by omega : 64 < N) n w (by omega) hw, spec_cert0 N (by omega : 64 < N) n w (by omega) hw, spec_cert1 N (by omega : 64 < N) n w (by omega) hw, spec_VariablesOf_eq N (by omega : 64 < N) n w (by omega) hw, impl_VariablesOf_eq N (by omega : 64 < N) n w (by omega) hw, msr_sens]
      have hsz := size4 hn
      have hse := sensOf_le w n
      have hmul : sensOf w n * 2 ^ n ≤ 4 * 16 := Nat.mul_le_mul (by omega) hsz
      have hsh : shlI .i64 (sensOf w n : Int) (n : Int) = ((sensOf w n * 2 ^ n : Nat) : Int) := shl_nat _ n (by omega) (by omega)
      have hmu : w64 ((sensOf w n : Int) * ((2 ^ n : Nat) : Int)) = ((sensOf w n * 2 ^ n : Nat) : Int) := by
        rw [← Int.natCast_mul, w64_nat _ (by omega)]
      simp only [impl_Table_size, gd_true (decide_eq_true (by omega : (0 : Int) ≤ (n : Int))), shl_one n (by omega), hsh, hmu, decide_eq_false (by omega : ¬ (sensOf w n : Int) < 0), Bool.not_true, cond_false]
      have hgt : decide ((sensOf w n : Int) > 0) = decide ((sensOf w n : Int) ≥ 1) := by
        rw [Bool.eq_iff_iff, decide_eq_true_eq, decide_eq_true_eq]; omega
      simp only [hgt]
      show Ends (fun K => _) (fun K => _)
      repeat' first | exact Ends.leaf _ | apply Ends.cond
    · have hm : ∀ s, measure s a0 a1 = -1 := fun s => by unfold measure; rw [if_neg h]
      simp only [hm, Bool.eq_false_iff.2 h]
      exact ⟨false, fun K => rfl, fun K => rfl⟩
  obtain ⟨v, e1, e2⟩ := both
  simp only [e1, e2, beq_self_eq_true, Bool.not_true, cond_false]
  exact fin _
end Go.Proofs.Ytdkjnadhgdneaaa
