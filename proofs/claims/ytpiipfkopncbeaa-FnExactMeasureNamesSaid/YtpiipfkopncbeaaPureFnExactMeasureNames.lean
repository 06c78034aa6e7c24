/- The program's MeasureNames returns what the reference's returns: the plain statement, by running both. -/
import Derived.Test.YtpiipfkopncbeaaPFnExactMeasureNamesx1
namespace Go.Proofs.Ytpiipfkopncbeaa.Pure
open Go.RowKit Go.Proofs.Ytpiipfkopncbeaa.PFnExactMeasureNames Go.Proofs.YtpiipfkopncbeaaW.PrintWords Go.Proofs.YtpiipfkopncbeaaW.PrintLast

theorem FnExactMeasureNames : laws_FnExactMeasureNames.Pure := by
  exact ⟨20, by kernel_rfl⟩

end Go.Proofs.Ytpiipfkopncbeaa.Pure
