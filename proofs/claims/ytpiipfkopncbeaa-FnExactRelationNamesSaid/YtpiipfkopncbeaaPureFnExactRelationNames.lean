/- The program's RelationNames returns what the reference's returns: the plain statement, by running both. -/
import Derived.Test.YtpiipfkopncbeaaPFnExactRelationNamesx1
namespace Go.Proofs.Ytpiipfkopncbeaa.Pure
open Go.RowKit Go.Proofs.Ytpiipfkopncbeaa.PFnExactRelationNames Go.Proofs.YtpiipfkopncbeaaW.PrintWords Go.Proofs.YtpiipfkopncbeaaW.PrintLast

theorem FnExactRelationNames : laws_FnExactRelationNames.Pure := by
  exact ⟨20, by kernel_rfl⟩

end Go.Proofs.Ytpiipfkopncbeaa.Pure
