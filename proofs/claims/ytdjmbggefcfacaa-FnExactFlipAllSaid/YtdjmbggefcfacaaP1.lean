/- Plain laws of the texts: two claims are compared alike. -/
import Derived.Test.YtdjmbggefcfacaaP0
namespace Go.Proofs.Ytdjmbggefcfacaa
open Go.Rv
variable {β : Type}

end Go.Proofs.Ytdjmbggefcfacaa
