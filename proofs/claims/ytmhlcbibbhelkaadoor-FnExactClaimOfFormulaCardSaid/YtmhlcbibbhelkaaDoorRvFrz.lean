/- Functions whose rows, handed back, are told by their content for ever. -/
import Derived.Test.YtmhlcbibbhelkaaDoorRvUse
namespace Go.Rv
section
variable {I : World → Prop} {P : Program} {L : Lay} {β : Type}

end
end Go.Rv
