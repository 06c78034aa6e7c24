/- The program's ClaimWord returns what the reference's returns, for every number: the plain statement. -/
import Derived.Test.YtpiipfkopncbeaaPFnExactClaimWordx1
namespace Go.Proofs.Ytpiipfkopncbeaa.Pure
open Go.RowKit Go.Proofs.Ytpiipfkopncbeaa.PFnExactClaimWord Go.Proofs.YtpiipfkopncbeaaW.PrintWords Go.Proofs.YtpiipfkopncbeaaW.PrintLast

theorem FnExactClaimWord : laws_FnExactClaimWord.Pure := by
  intro a _
  by_cases h : 1 ≤ a ∧ a ≤ 7
  · have hh : a = 1 ∨ a = 2 ∨ a = 3 ∨ a = 4 ∨ a = 5 ∨ a = 6 ∨ a = 7 := by omega
    rcases hh with rfl | rfl | rfl | rfl | rfl | rfl | rfl <;> decide +kernel
  · have hs : spec_l1In.f a 1 7 = some false := by
      unfold spec_l1In.f
      by_cases h1 : a ≥ 1
      · rw [if_pos h1, decide_eq_false (by omega)]
      · rw [if_neg h1]
    unfold laws_FnExactClaimWord.f spec_ClaimWord.f impl_ClaimWord.f
    rw [hs, if_neg (by omega), if_neg (by omega), if_neg (by omega), if_neg (by omega), if_neg (by omega), if_neg (by omega), if_neg (by omega)]
    simp

end Go.Proofs.Ytpiipfkopncbeaa.Pure
