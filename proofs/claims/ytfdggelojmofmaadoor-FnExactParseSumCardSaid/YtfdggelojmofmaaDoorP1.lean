/- Plain laws of the texts: two claims are compared alike. -/
import Derived.Test.YtfdggelojmofmaaDoorP0
namespace Go.Proofs.YtfdggelojmofmaaDoor
open Go.Rv
variable {β : Type}

end Go.Proofs.YtfdggelojmofmaaDoor
