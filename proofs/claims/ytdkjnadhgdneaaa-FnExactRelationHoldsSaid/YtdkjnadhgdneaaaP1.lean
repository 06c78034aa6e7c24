/- Plain laws of the texts: two claims are compared alike. -/
import Derived.Test.YtdkjnadhgdneaaaP0
namespace Go.Proofs.Ytdkjnadhgdneaaa
open Go.Rv
variable {β : Type}

end Go.Proofs.Ytdkjnadhgdneaaa
