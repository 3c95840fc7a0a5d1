-- Written by a program of this session (gprint.py, a turned print with given contracts).
import Derived.Test.YtfgbimcjcplegaaProg
import Derived.Below
import Derived.Deep.Draws
import Derived.Deep.AppendLies
import Derived.Maps.AppendAt
import Derived.OwnWalk
import Derived.Laws.BytesArg
import Derived.Laws.MakeOwn
import Derived.Laws.OwnMore
import Derived.Deep.OwnRows
import Derived.Tactics
import Derived.Lib.ConvBytes
import Derived.Laws.Slices
import Derived.WalkKit
import Derived.KernelRfl
import Derived.RowKit3
import Derived.Deep.LoopGhost
import Derived.Deep.QuietTactic
import Derived.BigQuiet
import Derived.WideLaws
import Derived.Deep.DeepCutAuto
import Derived.Deep.CutBlock
import Derived.Deep.RegionHeld3
import Derived.Laws.Rows
import Derived.Lib.AppendStr
import Derived.ArgAppend
import Derived.Laws.IdiomCopy
import Derived.OrdersHeld
import Derived.Laws.BitsLemmas
import Derived.RowKit
import Derived.Test.YtfgbimcjcplegaaGa
import Derived.Test.YtfgbimcjcplegaaGb
import Derived.Test.YtfgbimcjcplegaaWWords
import Derived.Test.YtfgbimcjcplegaaWLast
import Derived.Test.YtfgbimcjcplegaaWTab
import Derived.Test.YtfgbimcjcplegaaWFour
import Derived.Test.YtfgbimcjcplegaaWQPut
import Derived.Test.YtfgbimcjcplegaaWApart
import Derived.Test.YtfgbimcjcplegaaWArr
import Derived.Test.YtfgbimcjcplegaaWZeros
import Derived.Test.YtfgbimcjcplegaaWFoot
import Derived.Test.YtfgbimcjcplegaaWKept
import Derived.Test.YtfgbimcjcplegaaWShare
import Derived.Test.YtfgbimcjcplegaaWN
import Derived.Test.YtfgbimcjcplegaaWFootNe
import Derived.Test.YtfgbimcjcplegaaWAt
import Derived.Test.YtfgbimcjcplegaaWEqStruct
import Derived.Test.YtfgbimcjcplegaaWRepsOne
import Derived.Test.YtfgbimcjcplegaaWInv
import Derived.Test.YtfgbimcjcplegaaWInvWords
import Derived.Test.YtfgbimcjcplegaaWGuard
import Derived.Test.YtfgbimcjcplegaaWNEv
import Derived.Test.YtfgbimcjcplegaaWMore
namespace Go.Proofs.Ytfgbimcjcplegaa.PB
open Go.RowKit Go.Proofs.YtfgbimcjcplegaaW.PrintWords Go.Proofs.YtfgbimcjcplegaaW.PrintLast Go.Proofs.YtfgbimcjcplegaaW.PrintMore Go.Proofs.YtfgbimcjcplegaaG Go.Proofs.YtfgbimcjcplegaaX
attribute [local go_sem] max2_int min2_int max_two min_two max_three min_three max_four min_four   -- for this text's walks alone
set_option linter.unusedVariables false
set_option linter.unusedSimpArgs false



def errW : Option Int → Value
  | none => .nilIface
  | some c => .iface 0 (.int .i64 c)
theorem errW_none : errW none = .nilIface := rfl
theorem errW_some (c : Int) : errW (some c) = .iface 0 (.int .i64 c) := rfl

theorem info5 : (Try.prog.info? 5).map (fun i => (i.zero, i.size, i.bytes)) = some (some (.int .u8 0), 1, 1) := by kernel_rfl
-- the values' own types

end Go.Proofs.Ytfgbimcjcplegaa.PB
