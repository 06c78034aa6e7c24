/- Functions whose row, told for ever, is handed back to be turned. -/
import Derived.Test.YtmhlcbibbhelkaaDoorRvFrz
namespace Go.Rv
section
variable {I : World → Prop} {P : Program} {L : Lay} {β : Type}

end
end Go.Rv
