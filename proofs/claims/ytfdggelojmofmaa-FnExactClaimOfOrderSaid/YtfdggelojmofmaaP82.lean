/- Plain laws of the texts: the claim of an order. -/
import Derived.Test.YtfdggelojmofmaaP70
namespace Go.Proofs.Ytfdggelojmofmaa
open Go.Rv
set_option linter.unusedVariables false
variable {β : Type}
theorem Order_both (N : Nat) (hN : 1048576 < N) (a0 a1 : Int) (h1 : -9223372036854775808 ≤ a1 ∧ a1 ≤ 9223372036854775807) :
    ∃ (l : List Int) (m : Int) (b : Bool), l.length ≤ 4 ∧ (∀ K : List Int → Int → Bool → Option β, spec_LeastOrder N a0 a1 K = K l m b) ∧ (∀ K : List Int → Int → Bool → Option β, impl_LeastOrder N a0 a1 K = K l m b) := by
  cases hg : (isT a0 a1 && decide (a0 ≤ 4)) with
  | false =>
    refine ⟨[], 0, false, by simp, fun K => ?_, fun K => ?_⟩
    · unfold spec_LeastOrder
      rw [spec_IsTable_eq]
      cases hT : isT a0 a1 with
      | false => rfl
      | true =>
        rw [hT, Bool.true_and] at hg
        have hg := of_decide_eq_false hg
        rw [Bool.not_true, cond_false, decide_eq_true (by omega), cond_true]
    · unfold impl_LeastOrder
      rw [impl_isSmall_eq N _ _ _ (by omega), smallT, hg]
      rfl
  | true =>
    simp only [Bool.and_eq_true, decide_eq_true_eq] at hg
    obtain ⟨n, W, rfl, rfl, hn, hW, _⟩ := isT_nat hg.1
    obtain ⟨p, dg, hp, _, l1, l2⟩ := least (β := β) N n W hN (by omega) hW
    have := hp.len
    exact ⟨li p, dg.length, true, by rw [li_len]; omega, l1, l2⟩

theorem law_ClaimOfOrder (N : Nat) (hN : 1048576 < N) (a0 a1 : Int) (h0 : -9223372036854775808 ≤ a0 ∧ a0 ≤ 9223372036854775807) (h1 : -9223372036854775808 ≤ a1 ∧ a1 ≤ 9223372036854775807) (k : Bool → Option β) :
    laws_FnExactClaimOfOrder N a0 a1 k = k true := by
  obtain ⟨l, m, b, hl, e1, e2⟩ := Order_both (β := β) N hN a0 a1 h1
  have hl' : l.length ≤ 1048576 := by omega
  have e0 : ([] : List Int).length ≤ 1048576 := by simp
  have hc : ∀ n : Nat, decide (((1 + n : Nat) : Int) < 0) = false := fun n => decide_eq_false (by omega)
  unfold laws_FnExactClaimOfOrder laws_toTable spec_ClaimOfOrder impl_ClaimOfOrder
  simp only [e1, e2]
  cases b with
  | true => simp only [laws_eqClaim_same N _ _ _ _ _ _ _ hl' hN, laws_markClaim_eq N _ _ _ _ _ _ _ hl' hN, laws_heldClaim_eq N _ _ _ _ _ _ _ hl' hN, hc, beq_self_eq_true, Bool.not_true, cond_false, bne_self_eq_false]
  | false => simp only [laws_eqClaim_same N _ _ _ _ _ _ _ e0 hN, laws_markClaim_eq N _ _ _ _ _ _ _ e0 hN, laws_heldClaim_eq N _ _ _ _ _ _ _ e0 hN, hc, beq_self_eq_true, Bool.not_true, Bool.not_false, cond_true, cond_false, bne_self_eq_false]
end Go.Proofs.Ytfdggelojmofmaa
