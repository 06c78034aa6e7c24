/- The program's KindNames returns what the reference's returns: the plain statement, by running both. -/
import Derived.Test.YtpiipfkopncbeaaPFnExactKindNamesx1
namespace Go.Proofs.Ytpiipfkopncbeaa.Pure
open Go.RowKit Go.Proofs.Ytpiipfkopncbeaa.PFnExactKindNames Go.Proofs.YtpiipfkopncbeaaW.PrintWords Go.Proofs.YtpiipfkopncbeaaW.PrintLast

theorem FnExactKindNames : laws_FnExactKindNames.Pure := by
  exact ⟨20, by kernel_rfl⟩

end Go.Proofs.Ytpiipfkopncbeaa.Pure
