/- Plain laws of the texts: rows marked, and found marked. -/
import Derived.Test.YtfdggelojmofmaaDoorP4
namespace Go.Proofs.YtfdggelojmofmaaDoor
open Go.Rv
set_option linter.unusedVariables false
variable {β : Type}
/-- Numbers one after the other. -/
def marks (a n : Nat) : List Int := (List.range n).map fun i => ((a + i : Nat) : Int)
theorem marks_len (a n : Nat) : (marks a n).length = n := by simp [marks]
theorem marks_get (a n i : Nat) (h : i < n) : (marks a n)[i]? = some ((a + i : Nat) : Int) := by simp [marks, h]
end Go.Proofs.YtfdggelojmofmaaDoor
