-- Written by a program of this session (gprint.py, a turned print with given contracts).
import Derived.Test.YtfgbimcjcplegaaDoorProg
import Derived.Below
import Derived.Deep.Draws
import Derived.Deep.AppendLies
import Derived.Maps.AppendAt
import Derived.OwnWalk
import Derived.Laws.BytesArg
import Derived.Laws.MakeOwn
import Derived.Laws.OwnMore
import Derived.Deep.OwnRows
import Derived.Tactics
import Derived.Lib.ConvBytes
import Derived.Laws.Slices
import Derived.WalkKit
import Derived.KernelRfl
import Derived.RowKit3
import Derived.Deep.LoopGhost
import Derived.Deep.QuietTactic
import Derived.BigQuiet
import Derived.WideLaws
import Derived.Deep.DeepCutAuto
import Derived.Deep.CutBlock
import Derived.Deep.RegionHeld3
import Derived.Laws.Rows
import Derived.Lib.AppendStr
import Derived.ArgAppend
import Derived.Laws.IdiomCopy
import Derived.OrdersHeld
import Derived.Laws.BitsLemmas
import Derived.RowKit
import Derived.Test.YtfgbimcjcplegaaDoorGa
import Derived.Test.YtfgbimcjcplegaaDoorGm
import Derived.Test.YtfgbimcjcplegaaDoorGc
import Derived.Test.YtfgbimcjcplegaaDoorGd
import Derived.Test.YtfgbimcjcplegaaDoorRm
import Derived.Test.YtfgbimcjcplegaaDoorPRx
import Derived.Test.YtfgbimcjcplegaaDoorWWords
import Derived.Test.YtfgbimcjcplegaaDoorWLast
import Derived.Test.YtfgbimcjcplegaaDoorWTab
import Derived.Test.YtfgbimcjcplegaaDoorWFour
import Derived.Test.YtfgbimcjcplegaaDoorWQPut
import Derived.Test.YtfgbimcjcplegaaDoorWApart
import Derived.Test.YtfgbimcjcplegaaDoorWArr
import Derived.Test.YtfgbimcjcplegaaDoorWZeros
import Derived.Test.YtfgbimcjcplegaaDoorWFoot
import Derived.Test.YtfgbimcjcplegaaDoorWKept
import Derived.Test.YtfgbimcjcplegaaDoorWShare
import Derived.Test.YtfgbimcjcplegaaDoorWN
import Derived.Test.YtfgbimcjcplegaaDoorWFootNe
import Derived.Test.YtfgbimcjcplegaaDoorWAt
import Derived.Test.YtfgbimcjcplegaaDoorWEqStruct
import Derived.Test.YtfgbimcjcplegaaDoorWRepsOne
import Derived.Test.YtfgbimcjcplegaaDoorWInv
import Derived.Test.YtfgbimcjcplegaaDoorWInvWords
import Derived.Test.YtfgbimcjcplegaaDoorWGuard
import Derived.Test.YtfgbimcjcplegaaDoorWNEv
import Derived.Test.YtfgbimcjcplegaaDoorWMore
namespace Go.Proofs.YtfgbimcjcplegaaDoor.PF
open Go.RowKit Go.Proofs.YtfgbimcjcplegaaDoorW.PrintWords Go.Proofs.YtfgbimcjcplegaaDoorW.PrintLast Go.Proofs.YtfgbimcjcplegaaDoorW.PrintMore Go.Proofs.YtfgbimcjcplegaaDoorG Go.Proofs.YtfgbimcjcplegaaDoorX Go.Proofs.YtfgbimcjcplegaaDoor.PR
attribute [local go_sem] max2_int min2_int max_two min_two max_three min_three max_four min_four   -- for this text's walks alone
set_option linter.unusedVariables false
set_option linter.unusedSimpArgs false



def errW : Option Int → Value
  | none => .nilIface
  | some c => .iface 0 (.int .i64 c)
theorem errW_none : errW none = .nilIface := rfl
theorem errW_some (c : Int) : errW (some c) = .iface 0 (.int .i64 c) := rfl

theorem info5 : (Tryd.prog.info? 5).map (fun i => (i.zero, i.size, i.bytes)) = some (some (.int .u8 0), 1, 1) := by kernel_rfl
-- the values' own types

end Go.Proofs.YtfgbimcjcplegaaDoor.PF
