-- PRINTED BY print.sh 35421559b90ae4d0a3588c463048766b98c2df88dd9212a6774a882060cdf62d: not written by this session
import Derived.Test.YtpiipfkopncbeaaProg
import Derived.Below
import Derived.Deep.Draws
import Derived.Deep.AppendLies
import Derived.Maps.AppendAt
import Derived.OwnWalk
import Derived.Laws.BytesArg
import Derived.Laws.MakeOwn
import Derived.Laws.OwnMore
import Derived.Deep.OwnRows
import Derived.Tactics
import Derived.Lib.ConvBytes
import Derived.Laws.Slices
import Derived.WalkKit
import Derived.KernelRfl
import Derived.RowKit3
import Derived.Deep.LoopGhost
import Derived.Deep.QuietTactic
import Derived.BigQuiet
import Derived.WideLaws
import Derived.Deep.DeepCutAuto
import Derived.Deep.CutBlock
import Derived.Deep.RegionHeld3
import Derived.Laws.Rows
import Derived.Lib.AppendStr
import Derived.ArgAppend
import Derived.Laws.IdiomCopy
import Derived.OrdersHeld
import Derived.Laws.BitsLemmas
import Derived.RowKit
import Derived.Test.YtpiipfkopncbeaaWWords
import Derived.Test.YtpiipfkopncbeaaWLast
import Derived.Test.YtpiipfkopncbeaaWTab
import Derived.Test.YtpiipfkopncbeaaWFour
import Derived.Test.YtpiipfkopncbeaaWQPut
import Derived.Test.YtpiipfkopncbeaaWApart
import Derived.Test.YtpiipfkopncbeaaWArr
import Derived.Test.YtpiipfkopncbeaaWZeros
import Derived.Test.YtpiipfkopncbeaaWFoot
import Derived.Test.YtpiipfkopncbeaaWKept
import Derived.Test.YtpiipfkopncbeaaWShare
import Derived.Test.YtpiipfkopncbeaaWN
import Derived.Test.YtpiipfkopncbeaaWFootNe
import Derived.Test.YtpiipfkopncbeaaWAt
import Derived.Test.YtpiipfkopncbeaaWEqStruct
import Derived.Test.YtpiipfkopncbeaaWRepsOne
import Derived.Test.YtpiipfkopncbeaaWInv
import Derived.Test.YtpiipfkopncbeaaWInvWords
import Derived.Test.YtpiipfkopncbeaaWGuard
import Derived.Test.YtpiipfkopncbeaaWNEv
import Derived.Test.YtpiipfkopncbeaaWMore
namespace Go.Proofs.Ytpiipfkopncbeaa.PFnExactClaimWord
open Go.RowKit Go.Proofs.YtpiipfkopncbeaaW.PrintWords Go.Proofs.YtpiipfkopncbeaaW.PrintLast Go.Proofs.YtpiipfkopncbeaaW.PrintMore
attribute [local go_sem] max2_int min2_int max_two min_two max_three min_three max_four min_four   -- for this text's walks alone
set_option linter.unusedVariables false
set_option linter.unusedSimpArgs false



def errW : Option Int → Value
  | none => .nilIface
  | some c => .iface 0 (.int .i64 c)
theorem errW_none : errW none = .nilIface := rfl
theorem errW_some (c : Int) : errW (some c) = .iface 0 (.int .i64 c) := rfl

theorem info9 : (Try.prog.info? 9).map (fun i => (i.zero, i.size, i.bytes)) = some (some (.string ⟨#[]⟩), 1, 16) := by kernel_rfl
-- the values' own types

end Go.Proofs.Ytpiipfkopncbeaa.PFnExactClaimWord
