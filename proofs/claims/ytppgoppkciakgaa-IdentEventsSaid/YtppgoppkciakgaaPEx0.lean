-- Written by a program of this session (gprint.py, a turned print with given contracts).
import Derived.Test.YtppgoppkciakgaaProg
import Derived.Below
import Derived.Deep.Draws
import Derived.Deep.AppendLies
import Derived.Maps.AppendAt
import Derived.OwnWalk
import Derived.Laws.BytesArg
import Derived.Laws.MakeOwn
import Derived.Laws.OwnMore
import Derived.Deep.OwnRows
import Derived.Tactics
import Derived.Lib.ConvBytes
import Derived.Laws.Slices
import Derived.WalkKit
import Derived.KernelRfl
import Derived.RowKit3
import Derived.Deep.LoopGhost
import Derived.Deep.QuietTactic
import Derived.BigQuiet
import Derived.WideLaws
import Derived.Deep.DeepCutAuto
import Derived.Deep.CutBlock
import Derived.Deep.RegionHeld3
import Derived.Laws.Rows
import Derived.Lib.AppendStr
import Derived.ArgAppend
import Derived.Laws.IdiomCopy
import Derived.OrdersHeld
import Derived.Laws.BitsLemmas
import Derived.RowKit
import Derived.Test.YtppgoppkciakgaaG
import Derived.Test.YtppgoppkciakgaaWWords
import Derived.Test.YtppgoppkciakgaaWLast
import Derived.Test.YtppgoppkciakgaaWTab
import Derived.Test.YtppgoppkciakgaaWFour
import Derived.Test.YtppgoppkciakgaaWQPut
import Derived.Test.YtppgoppkciakgaaWApart
import Derived.Test.YtppgoppkciakgaaWArr
import Derived.Test.YtppgoppkciakgaaWZeros
import Derived.Test.YtppgoppkciakgaaWFoot
import Derived.Test.YtppgoppkciakgaaWKept
import Derived.Test.YtppgoppkciakgaaWShare
import Derived.Test.YtppgoppkciakgaaWN
import Derived.Test.YtppgoppkciakgaaWFootNe
import Derived.Test.YtppgoppkciakgaaWAt
import Derived.Test.YtppgoppkciakgaaWEqStruct
import Derived.Test.YtppgoppkciakgaaWRepsOne
import Derived.Test.YtppgoppkciakgaaWInv
import Derived.Test.YtppgoppkciakgaaWInvWords
import Derived.Test.YtppgoppkciakgaaWGuard
import Derived.Test.YtppgoppkciakgaaWNEv
import Derived.Test.YtppgoppkciakgaaWMore
namespace Go.Proofs.Ytppgoppkciakgaa.PE
open Go.RowKit Go.Proofs.YtppgoppkciakgaaW.PrintWords Go.Proofs.YtppgoppkciakgaaW.PrintLast Go.Proofs.YtppgoppkciakgaaW.PrintMore Go.Proofs.YtppgoppkciakgaaG Go.Proofs.YtppgoppkciakgaaX
attribute [local go_sem] max2_int min2_int max_two min_two max_three min_three max_four min_four   -- for this text's walks alone
set_option linter.unusedVariables false
set_option linter.unusedSimpArgs false



def errW : Option Int → Value
  | none => .nilIface
  | some c => .iface 0 (.int .i64 c)
theorem errW_none : errW none = .nilIface := rfl
theorem errW_some (c : Int) : errW (some c) = .iface 0 (.int .i64 c) := rfl

theorem info5 : (Try.prog.info? 5).map (fun i => (i.zero, i.size, i.bytes)) = some (some (.int .u8 0), 1, 1) := by kernel_rfl
-- the values' own types

end Go.Proofs.Ytppgoppkciakgaa.PE
