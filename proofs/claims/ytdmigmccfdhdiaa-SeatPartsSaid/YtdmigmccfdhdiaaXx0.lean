/- The Go functions that a law reaches as plain Lean functions, and the proof that each call answers as they do: written by xprint.py, a program of this session over print.py of the kit, with hooks and contracts of its own. -/
import Derived.Test.YtdmigmccfdhdiaaProg
import Derived.Below
import Derived.Deep.Draws
import Derived.Deep.AppendLies
import Derived.Maps.AppendAt
import Derived.OwnWalk
import Derived.Laws.BytesArg
import Derived.Laws.MakeOwn
import Derived.Laws.OwnMore
import Derived.Deep.OwnRows
import Derived.Tactics
import Derived.Lib.ConvBytes
import Derived.Laws.Slices
import Derived.WalkKit
import Derived.KernelRfl
import Derived.RowKit3
import Derived.Deep.LoopGhost
import Derived.Deep.QuietTactic
import Derived.BigQuiet
import Derived.WideLaws
import Derived.Deep.DeepCutAuto
import Derived.Deep.CutBlock
import Derived.Deep.RegionHeld3
import Derived.Laws.Rows
import Derived.Lib.AppendStr
import Derived.ArgAppend
import Derived.Laws.IdiomCopy
import Derived.OrdersHeld
import Derived.Laws.BitsLemmas
import Derived.RowKit
import Derived.Laws.Externs
import Derived.Lib.Bytealg
import Derived.Test.YtdmigmccfdhdiaaWWords
import Derived.Test.YtdmigmccfdhdiaaWLast
import Derived.Test.YtdmigmccfdhdiaaWTab
import Derived.Test.YtdmigmccfdhdiaaWFour
import Derived.Test.YtdmigmccfdhdiaaWQPut
import Derived.Test.YtdmigmccfdhdiaaWApart
import Derived.Test.YtdmigmccfdhdiaaWArr
import Derived.Test.YtdmigmccfdhdiaaWZeros
import Derived.Test.YtdmigmccfdhdiaaWFoot
import Derived.Test.YtdmigmccfdhdiaaWKept
import Derived.Test.YtdmigmccfdhdiaaWShare
import Derived.Test.YtdmigmccfdhdiaaWN
import Derived.Test.YtdmigmccfdhdiaaWFootNe
import Derived.Test.YtdmigmccfdhdiaaWAt
import Derived.Test.YtdmigmccfdhdiaaWEqStruct
import Derived.Test.YtdmigmccfdhdiaaWRepsOne
import Derived.Test.YtdmigmccfdhdiaaWInv
import Derived.Test.YtdmigmccfdhdiaaWInvWords
import Derived.Test.YtdmigmccfdhdiaaWGuard
import Derived.Test.YtdmigmccfdhdiaaWNEv
import Derived.Test.YtdmigmccfdhdiaaWMore
namespace Go.Proofs.Ytdmigmccfdhdiaa.X
open Go.RowKit Go.Proofs.YtdmigmccfdhdiaaW.PrintWords Go.Proofs.YtdmigmccfdhdiaaW.PrintLast Go.Proofs.YtdmigmccfdhdiaaW.PrintMore
attribute [local go_sem] max2_int min2_int max_two min_two max_three min_three max_four min_four   -- for this text's walks alone
set_option linter.unusedVariables false
set_option linter.unusedSimpArgs false



def errW : Option Int → Value
  | none => .nilIface
  | some c => .iface 0 (.int .i64 c)
theorem errW_none : errW none = .nilIface := rfl
theorem errW_some (c : Int) : errW (some c) = .iface 0 (.int .i64 c) := rfl

-- the values' own types

end Go.Proofs.Ytdmigmccfdhdiaa.X
