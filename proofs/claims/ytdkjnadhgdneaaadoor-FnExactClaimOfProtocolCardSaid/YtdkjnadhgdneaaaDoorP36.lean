/- Plain laws of the texts: the laws of protocols. -/
import Derived.Test.YtdkjnadhgdneaaaDoorP35
namespace Go.Proofs.YtdkjnadhgdneaaaDoor
open Go.Rv
set_option linter.unusedVariables false
variable {β : Type}
/-- Tables with few variables on each side. -/
def fineT (a0 a1 a2 : Int) : Bool := isT a0 a1 && ((decide (0 ≤ a2) && decide (a2 ≤ 2)) && (decide (0 ≤ a0 - a2) && decide (a0 - a2 ≤ 2)))
theorem fineT_nat {a0 a1 a2 : Int} (h : fineT a0 a1 a2 = true) : ∃ n w k : Nat, a0 = n ∧ a1 = w ∧ a2 = k ∧ n ≤ 5 ∧ w < 2 ^ 2 ^ n ∧ w < 4294967296 ∧ k ≤ 2 ∧ k ≤ n ∧ n - k ≤ 2 := by
  unfold fineT at h
  simp only [Bool.and_eq_true, decide_eq_true_eq] at h
  obtain ⟨ht, ⟨h1, h2⟩, h3, h4⟩ := h
  obtain ⟨n, w, rfl, rfl, hn, hw, hw'⟩ := isT_nat ht
  obtain ⟨k, rfl⟩ := Int.eq_ofNat_of_zero_le h1
  exact ⟨n, w, k, rfl, rfl, rfl, hn, hw, hw', by omega, by omega, by omega⟩
theorem spec_l21Fine_eq (N : Nat) (a0 a1 a2 : Int) (h0 : -9223372036854775808 ≤ a0 ∧ a0 ≤ 9223372036854775807) (k : Bool → Option β) : spec_l21Fine N a0 a1 a2 k = k (fineT a0 a1 a2) := by
  unfold spec_l21Fine fineT
  simp only [spec_IsTable_eq, spec_l1In_eq]
  cases ht : isT a0 a1 with
  | false => rfl
  | true =>
    obtain ⟨n, w, rfl, rfl, hn, hw, hw'⟩ := isT_nat ht
    cases h1 : (decide (0 ≤ a2) && decide (a2 ≤ 2)) with
    | false => rfl
    | true =>
      simp only [Bool.and_eq_true, decide_eq_true_eq] at h1
      rw [w64_id (by omega) (by omega)]
      rfl
theorem impl_isSplit_eq (N : Nat) (a0 a1 a2 : Int) (h1 : a1 < 9223372036854775808) (k : Bool → Option β) : impl_isSplit N a0 a1 a2 k = k (isT a0 a1 && (decide (0 ≤ a2) && decide (a2 ≤ a0))) := by
  unfold impl_isSplit
  simp only [impl_IsTable_eq N a0 a1 h1]
  cases isT a0 a1 with
  | false => rfl
  | true =>
    by_cases h : 0 ≤ a2
    · rw [decide_eq_true (by omega : a2 ≥ 0)]; rfl
    · rw [decide_eq_false (by omega : ¬ a2 ≥ 0)]; rfl
/-- All rows, or columns. -/
def top (k : Nat) : Nat := 2 ^ 2 ^ k - 1
theorem top_ok : ∀ k, k ≤ 2 → top k < 2 ^ 2 ^ k ∧ top k ≠ 0 ∧ top k < 16 := by decide +kernel
theorem top_spec (k : Nat) (hk : k ≤ 2) : w64 (shlI .i64 1 ((2 ^ k : Nat) : Int) - 1) = (top k : Int) := by
  have h4 : 2 ^ k ≤ 4 := Nat.pow_le_pow_right (by decide) hk
  have hp : 2 ^ 2 ^ k ≤ 2 ^ 4 := Nat.pow_le_pow_right (by decide) h4
  have := Nat.two_pow_pos (2 ^ k)
  rw [shl_one _ (by omega), show ((2 ^ 2 ^ k : Nat) : Int) - 1 = ((2 ^ 2 ^ k - 1 : Nat) : Int) by omega, w64_nat _ (by omega)]
  rfl
theorem good_nil (mx : Nat → Nat → Bool) : GoodM mx ([] : Mp) := fun A B h => by cases h
theorem impl_talking_eq (N : Nat) (a0 a1 a2 : Int) (h0 : -9223372036854775808 ≤ a0 ∧ a0 ≤ 9223372036854775807) (h1 : a1 < 9223372036854775808) (h2 : -9223372036854775808 ≤ a2 ∧ a2 ≤ 9223372036854775807) (k0 : Int → Int → Option β) (k1 : Int → Int → Int → Int → Int → Mp → Option β) :
    impl_Table_talking_g0 N a0 a1 a2 k0 k1 = if fineT a0 a1 a2 then k1 (top a2.toNat : Int) (top (a0 - a2).toNat : Int) a0 a1 a2 [] else k0 0 0 := by
  unfold impl_Table_talking_g0
  rw [impl_isSplit_eq N a0 a1 a2 h1]
  cases hf : fineT a0 a1 a2 with
  | true =>
    obtain ⟨n, w, k, rfl, rfl, rfl, hn, hw, hw', hk, hkn, hq⟩ := fineT_nat hf
    have h4k : 2 ^ k ≤ 4 := Nat.pow_le_pow_right (by decide) hk
    have h4 : 2 ^ (n - k) ≤ 4 := Nat.pow_le_pow_right (by decide) hq
    rw [isT_of hn hw, decide_eq_true (by omega : (0 : Int) ≤ (k : Int)), decide_eq_true (by omega : (k : Int) ≤ (n : Int)), show ((n : Int) - (k : Int)) = ((n - k : Nat) : Int) by omega, w64_nat _ (by omega), decide_eq_false (by omega : ¬ (k : Int) > 2), decide_eq_false (by omega : ¬ ((n - k : Nat) : Int) > 2)]
    simp only [Bool.and_self, Bool.not_true, cond_false, if_true]
    rw [gd_true rfl, shl_u64 k (by omega), gd_true (decide_eq_true (Int.natCast_nonneg (2 ^ k))), gd_true (decide_eq_true (by omega : (0 : Int) ≤ ((n - k : Nat) : Int))), shl_u64 (n - k) (by omega), gd_true (decide_eq_true (Int.natCast_nonneg (2 ^ (n - k)))), top_spec k hk, top_spec (n - k) hq, Int.toNat_natCast, Int.toNat_natCast]
  | false =>
    unfold fineT at hf
    rw [if_neg (by decide)]
    cases ht : isT a0 a1 with
    | false => rfl
    | true =>
      obtain ⟨n, w, rfl, rfl, hn, hw, hw'⟩ := isT_nat ht
      rw [ht, Bool.true_and] at hf
      by_cases e1 : 0 ≤ a2
      · by_cases e2 : a2 ≤ (n : Int)
        · rw [decide_eq_true e1, decide_eq_true e2]
          simp only [Bool.and_self, Bool.not_true, cond_false]
          by_cases e3 : a2 > 2
          · rw [decide_eq_true e3]; rfl
          · rw [decide_eq_false e3, cond_false, w64_id (by omega) (by omega)]
            by_cases e4 : (n : Int) - a2 > 2
            · rw [decide_eq_true e4]; rfl
            · rw [decide_eq_true e1, decide_eq_true (by omega : a2 ≤ 2), decide_eq_true (by omega : 0 ≤ (n : Int) - a2), decide_eq_true (by omega : (n : Int) - a2 ≤ 2)] at hf
              cases hf
        · rw [decide_eq_false e2, Bool.and_false]; rfl
      · rw [decide_eq_false e1]; rfl

/-- The least number of bits of a table, and the first protocol with so few. -/
def bits21 (a0 a1 a2 : Int) : Nat := need (bothOn a1.toNat a0.toNat a2.toNat) (top a2.toNat) (top (a0 - a2).toNat)
def prot (N : Nat) (a0 a1 a2 : Int) : ByteArray := bs (bothOn a1.toNat a0.toNat a2.toNat) (isOne a1.toNat a0.toNat a2.toNat) N (top a2.toNat) (top (a0 - a2).toNat)

section
variable (N : Nat) (hN : 64 < N) (a0 a1 a2 : Int) (h0 : -9223372036854775808 ≤ a0 ∧ a0 ≤ 9223372036854775807) (h1 : -9223372036854775808 ≤ a1 ∧ a1 ≤ 9223372036854775807) (h2 : -9223372036854775808 ≤ a2 ∧ a2 ≤ 9223372036854775807)
include hN h0
theorem spec_LeastBits_eq (k : Int → Option β) : spec_LeastBits N a0 a1 a2 k = k (if fineT a0 a1 a2 then (bits21 a0 a1 a2 : Int) else -1) := by
  unfold spec_LeastBits
  rw [spec_l21Fine_eq N a0 a1 a2 h0]
  cases hf : fineT a0 a1 a2 with
  | false => rfl
  | true =>
    obtain ⟨n, w, k, rfl, rfl, rfl, hn, hw, hw', hk, hkn, hq⟩ := fineT_nat hf
    have h4k : 2 ^ k ≤ 4 := Nat.pow_le_pow_right (by decide) hk
    have h4 : 2 ^ (n - k) ≤ 4 := Nat.pow_le_pow_right (by decide) hq
    have t1 := top_ok k hk
    have t2 := top_ok (n - k) hq
    have hS := mixed_single w n k hk hkn hq
    have hle := need_le4 hS (top k) (top (n - k)) t1.2.2 t2.2.2
    unfold spec_MatrixOf
    simp only [spec_IsTable_eq, spec_l1In_eq]
    rw [isT_of hn hw, decide_eq_true (by omega : (0 : Int) ≤ (k : Int)), decide_eq_true (by omega : (k : Int) ≤ (n : Int))]
    simp only [Bool.and_self, Bool.not_true, cond_false, if_true]
    refine Eq.trans (mat_outer (β := β) N hN n w k hk hkn hq hw' _ (2 ^ k) 0 N (by omega) (by omega)) ?_
    have hl := rows_len w k (2 ^ (n - k)) (2 ^ k)
    simp only [hl]
    rw [show ((n : Int) - (k : Int)) = ((n - k : Nat) : Int) by omega, w64_nat _ (by omega), gd_true (decide_eq_true (Int.natCast_nonneg (2 ^ k))), gd_true (decide_eq_true (by omega : (0 : Int) ≤ ((n - k : Nat) : Int))), shl_u64 (n - k) (by omega), gd_true (decide_eq_true (Int.natCast_nonneg (2 ^ (n - k)))), top_spec k hk, top_spec (n - k) hq]
    unfold spec_l21Least
    refine Eq.trans (spec_least N n w k hN hk hkn hq N (top k) (top (n - k)) 4 (by omega) t1.2.2 t2.1 (by omega) _) ?_
    unfold bits21
    rw [show ((n : Int) - (k : Int)) = ((n - k : Nat) : Int) by omega]
    simp only [Int.toNat_natCast]
    rw [show min (need (bothOn w n k) (top k) (top (n - k))) (4 + 1) = need (bothOn w n k) (top k) (top (n - k)) by omega]
theorem spec_ProtocolOf_eq (k : ByteArray → Bool → Option β) : spec_ProtocolOf N a0 a1 a2 k = if fineT a0 a1 a2 then k (prot N a0 a1 a2) true else k ByteArray.empty false := by
  unfold spec_ProtocolOf
  rw [spec_l21Fine_eq N a0 a1 a2 h0]
  cases hf : fineT a0 a1 a2 with
  | false => rfl
  | true =>
    have hlb := fun K : Int → Option β => spec_LeastBits_eq (β := β) N hN a0 a1 a2 h0 K
    obtain ⟨n, w, k, rfl, rfl, rfl, hn, hw, hw', hk, hkn, hq⟩ := fineT_nat hf
    have h4k : 2 ^ k ≤ 4 := Nat.pow_le_pow_right (by decide) hk
    have h4 : 2 ^ (n - k) ≤ 4 := Nat.pow_le_pow_right (by decide) hq
    have t1 := top_ok k hk
    have t2 := top_ok (n - k) hq
    unfold spec_MatrixOf
    simp only [spec_IsTable_eq, spec_l1In_eq]
    rw [isT_of hn hw, decide_eq_true (by omega : (0 : Int) ≤ (k : Int)), decide_eq_true (by omega : (k : Int) ≤ (n : Int))]
    simp only [Bool.and_self, Bool.not_true, cond_false, if_true]
    refine Eq.trans (mat_outer (β := β) N hN n w k hk hkn hq hw' _ (2 ^ k) 0 N (by omega) (by omega)) ?_
    have hl := rows_len w k (2 ^ (n - k)) (2 ^ k)
    simp only [hl, hlb, hf, if_true]
    rw [show ((n : Int) - (k : Int)) = ((n - k : Nat) : Int) by omega, w64_nat _ (by omega), gd_true (decide_eq_true (Int.natCast_nonneg (2 ^ k))), gd_true (decide_eq_true (by omega : (0 : Int) ≤ ((n - k : Nat) : Int))), shl_u64 (n - k) (by omega), gd_true (decide_eq_true (Int.natCast_nonneg (2 ^ (n - k)))), top_spec k hk, top_spec (n - k) hq]
    unfold spec_l21Build bits21 prot
    rw [show ((n : Int) - (k : Int)) = ((n - k : Nat) : Int) by omega]
    simp only [Int.toNat_natCast]
    exact spec_build N n w k hN hk hkn hq N (top k) (top (n - k)) (by omega) t1.2.1 t2.2.1 t1.1 t2.1 _
include h1 h2
theorem impl_LeastBits_eq (k : Int → Option β) : impl_LeastBits N a0 a1 a2 k = k (if fineT a0 a1 a2 then (bits21 a0 a1 a2 : Int) else -1) := by
  unfold impl_LeastBits
  rw [impl_talking_eq N a0 a1 a2 h0 (by omega) h2]
  cases hf : fineT a0 a1 a2 with
  | false => rfl
  | true =>
    obtain ⟨n, w, k, rfl, rfl, rfl, hn, hw, hw', hk, hkn, hq⟩ := fineT_nat hf
    have t1 := top_ok k hk
    have t2 := top_ok (n - k) hq
    rw [if_pos rfl, if_pos rfl]
    unfold bits21 impl_talk_need_g0
    rw [show ((n : Int) - (k : Int)) = ((n - k : Nat) : Int) by omega]
    simp only [Int.toNat_natCast]
    obtain ⟨mp', _, _, _, _, he⟩ := impl_need N n w k hN hk hkn hq hw' N (top k) (top (n - k)) [] (by omega) t1.2.1 t2.2.1 t1.1 t2.1 (good_nil _)
    exact he _
theorem impl_ProtocolOf_eq (k : ByteArray → Bool → Option β) : impl_ProtocolOf N a0 a1 a2 k = if fineT a0 a1 a2 then k (prot N a0 a1 a2) true else k ByteArray.empty false := by
  unfold impl_ProtocolOf
  rw [impl_talking_eq N a0 a1 a2 h0 (by omega) h2]
  cases hf : fineT a0 a1 a2 with
  | false => rfl
  | true =>
    obtain ⟨n, w, k, rfl, rfl, rfl, hn, hw, hw', hk, hkn, hq⟩ := fineT_nat hf
    have t1 := top_ok k hk
    have t2 := top_ok (n - k) hq
    rw [if_pos rfl, if_pos rfl]
    unfold prot impl_talk_text_g0
    rw [show ((n : Int) - (k : Int)) = ((n - k : Nat) : Int) by omega]
    simp only [Int.toNat_natCast]
    obtain ⟨mp', _, _, he⟩ := impl_text N n w k hN hk hkn hq hw' N (top k) (top (n - k)) [] (by omega) t1.2.1 t2.2.1 t1.1 t2.1 (good_nil _)
    exact he _
end

theorem law_ProtocolOf (N : Nat) (hN : 1048576 < N) (a0 a1 a2 : Int) (h0 : -9223372036854775808 ≤ a0 ∧ a0 ≤ 9223372036854775807) (h1 : -9223372036854775808 ≤ a1 ∧ a1 ≤ 9223372036854775807) (h2 : -9223372036854775808 ≤ a2 ∧ a2 ≤ 9223372036854775807) (k : Bool → Option β) :
    laws_FnExactProtocolOf N a0 a1 a2 k = k true := by
  unfold laws_FnExactProtocolOf laws_toTable
  simp only [spec_ProtocolOf_eq N (by omega) a0 a1 a2 h0, impl_ProtocolOf_eq N (by omega) a0 a1 a2 h0 h1 h2]
  cases fineT a0 a1 a2 <;> simp

theorem mark_claim (N : Nat) (hN : 1048576 < N) (a0 a1 a2 a3 a4 : Int) (s : ByteArray) (k : Int → List Int → Option β) : laws_markClaim N a0 a1 a2 a3 a4 s [] 1 k = k 1 [] := by
  unfold laws_markClaim
  exact laws_markIntS_eq N [] 1 (by simp) (by omega) hN _
theorem held_claim (N : Nat) (hN : 1048576 < N) (a0 a1 a2 a3 a4 : Int) (s : ByteArray) (k : Int → Option β) : laws_heldClaim N a0 a1 a2 a3 a4 s [] 1 k = k 1 := by
  unfold laws_heldClaim
  exact laws_heldIntS_eq N 1 0 (by omega) (by omega) hN _
theorem law_ClaimOfProtocol (N : Nat) (hN : 1048576 < N) (a0 a1 a2 : Int) (h0 : -9223372036854775808 ≤ a0 ∧ a0 ≤ 9223372036854775807) (h1 : -9223372036854775808 ≤ a1 ∧ a1 ≤ 9223372036854775807) (h2 : -9223372036854775808 ≤ a2 ∧ a2 ≤ 9223372036854775807) (k : Bool → Option β) :
    laws_FnExactClaimOfProtocol N a0 a1 a2 k = k true := by
  have e0 : ([] : List Int).length ≤ 1048576 := by simp
  have hc : decide ((1 : Int) < 0) = false := rfl
  unfold laws_FnExactClaimOfProtocol laws_toTable spec_ClaimOfProtocol impl_ClaimOfProtocol
  simp only [spec_ProtocolOf_eq N (by omega) a0 a1 a2 h0, impl_ProtocolOf_eq N (by omega) a0 a1 a2 h0 h1 h2, spec_LeastBits_eq N (by omega) a0 a1 a2 h0, impl_LeastBits_eq N (by omega) a0 a1 a2 h0 h1 h2]
  cases fineT a0 a1 a2 with
  | true => simp only [if_true, laws_eqClaim_same N _ _ _ _ _ _ _ e0 hN, mark_claim N hN, held_claim N hN, hc, beq_self_eq_true, Bool.not_true, cond_false, bne_self_eq_false]
  | false => simp only [Bool.false_eq_true, if_false, laws_eqClaim_same N _ _ _ _ _ _ _ e0 hN, mark_claim N hN, held_claim N hN, hc, beq_self_eq_true, Bool.not_true, Bool.not_false, cond_true, cond_false, bne_self_eq_false]
end Go.Proofs.YtdkjnadhgdneaaaDoor
