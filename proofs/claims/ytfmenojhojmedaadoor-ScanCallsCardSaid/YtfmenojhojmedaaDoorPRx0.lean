-- Written by a program of this session (gprint.py, a turned print with given contracts).
import Derived.Test.YtfmenojhojmedaaDoorProg
import Derived.Below
import Derived.Deep.Draws
import Derived.Deep.AppendLies
import Derived.Maps.AppendAt
import Derived.OwnWalk
import Derived.Laws.BytesArg
import Derived.Laws.MakeOwn
import Derived.Laws.OwnMore
import Derived.Deep.OwnRows
import Derived.Tactics
import Derived.Lib.ConvBytes
import Derived.Laws.Slices
import Derived.WalkKit
import Derived.KernelRfl
import Derived.RowKit3
import Derived.Deep.LoopGhost
import Derived.Deep.QuietTactic
import Derived.BigQuiet
import Derived.WideLaws
import Derived.Deep.DeepCutAuto
import Derived.Deep.CutBlock
import Derived.Deep.RegionHeld3
import Derived.Laws.Rows
import Derived.Lib.AppendStr
import Derived.ArgAppend
import Derived.Laws.IdiomCopy
import Derived.OrdersHeld
import Derived.Laws.BitsLemmas
import Derived.RowKit
import Derived.Test.YtfmenojhojmedaaDoorG0
import Derived.Test.YtfmenojhojmedaaDoorWWords
import Derived.Test.YtfmenojhojmedaaDoorWLast
import Derived.Test.YtfmenojhojmedaaDoorWTab
import Derived.Test.YtfmenojhojmedaaDoorWFour
import Derived.Test.YtfmenojhojmedaaDoorWQPut
import Derived.Test.YtfmenojhojmedaaDoorWApart
import Derived.Test.YtfmenojhojmedaaDoorWArr
import Derived.Test.YtfmenojhojmedaaDoorWZeros
import Derived.Test.YtfmenojhojmedaaDoorWFoot
import Derived.Test.YtfmenojhojmedaaDoorWKept
import Derived.Test.YtfmenojhojmedaaDoorWShare
import Derived.Test.YtfmenojhojmedaaDoorWN
import Derived.Test.YtfmenojhojmedaaDoorWFootNe
import Derived.Test.YtfmenojhojmedaaDoorWAt
import Derived.Test.YtfmenojhojmedaaDoorWEqStruct
import Derived.Test.YtfmenojhojmedaaDoorWRepsOne
import Derived.Test.YtfmenojhojmedaaDoorWInv
import Derived.Test.YtfmenojhojmedaaDoorWInvWords
import Derived.Test.YtfmenojhojmedaaDoorWGuard
import Derived.Test.YtfmenojhojmedaaDoorWNEv
import Derived.Test.YtfmenojhojmedaaDoorWMore
namespace Go.Proofs.YtfmenojhojmedaaDoor.PR
open Go.RowKit Go.Proofs.YtfmenojhojmedaaDoorW.PrintWords Go.Proofs.YtfmenojhojmedaaDoorW.PrintLast Go.Proofs.YtfmenojhojmedaaDoorW.PrintMore Go.Proofs.YtfmenojhojmedaaDoorG Go.Proofs.YtfmenojhojmedaaDoorX
attribute [local go_sem] max2_int min2_int max_two min_two max_three min_three max_four min_four   -- for this text's walks alone
set_option linter.unusedVariables false
set_option linter.unusedSimpArgs false



def errW : Option Int → Value
  | none => .nilIface
  | some c => .iface 0 (.int .i64 c)
theorem errW_none : errW none = .nilIface := rfl
theorem errW_some (c : Int) : errW (some c) = .iface 0 (.int .i64 c) := rfl

-- the values' own types

end Go.Proofs.YtfmenojhojmedaaDoor.PR
