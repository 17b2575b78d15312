-- laid by a program of this session (wip/tools) out of the translation; Lean checks it
import Derived.Test.YtkeddijlbnginaaProg
import Derived.Test.YtkeddijlbnginaaX
import Derived.Below
import Derived.Deep.Draws
import Derived.Deep.AppendLies
import Derived.Maps.AppendAt
import Derived.OwnWalk
import Derived.Laws.BytesArg
import Derived.Laws.MakeOwn
import Derived.Laws.OwnMore
import Derived.Deep.OwnRows
import Derived.Tactics
import Derived.Lib.ConvBytes
import Derived.Laws.Slices
import Derived.WalkKit
import Derived.KernelRfl
import Derived.RowKit3
import Derived.Deep.LoopGhost
import Derived.Deep.QuietTactic
import Derived.BigQuiet
import Derived.WideLaws
import Derived.Deep.DeepCutAuto
import Derived.Deep.CutBlock
import Derived.Deep.RegionHeld3
import Derived.Laws.Rows
import Derived.Lib.AppendStr
import Derived.ArgAppend
import Derived.Laws.IdiomCopy
import Derived.OrdersHeld
import Derived.Laws.BitsLemmas
import Derived.RowKit
import Derived.Test.YtkeddijlbnginaaWWords
import Derived.Test.YtkeddijlbnginaaWLast
import Derived.Test.YtkeddijlbnginaaWTab
import Derived.Test.YtkeddijlbnginaaWFour
import Derived.Test.YtkeddijlbnginaaWQPut
import Derived.Test.YtkeddijlbnginaaWApart
import Derived.Test.YtkeddijlbnginaaWArr
import Derived.Test.YtkeddijlbnginaaWZeros
import Derived.Test.YtkeddijlbnginaaWFoot
import Derived.Test.YtkeddijlbnginaaWKept
import Derived.Test.YtkeddijlbnginaaWShare
import Derived.Test.YtkeddijlbnginaaWN
import Derived.Test.YtkeddijlbnginaaWFootNe
import Derived.Test.YtkeddijlbnginaaWAt
import Derived.Test.YtkeddijlbnginaaWEqStruct
import Derived.Test.YtkeddijlbnginaaWRepsOne
import Derived.Test.YtkeddijlbnginaaWInv
import Derived.Test.YtkeddijlbnginaaWInvWords
import Derived.Test.YtkeddijlbnginaaWGuard
import Derived.Test.YtkeddijlbnginaaWNEv
import Derived.Test.YtkeddijlbnginaaWMore
namespace Go.Proofs.Ytkeddijlbnginaa.Q
open Go.RowKit Go.Proofs.YtkeddijlbnginaaW.PrintWords Go.Proofs.YtkeddijlbnginaaW.PrintLast Go.Proofs.YtkeddijlbnginaaW.PrintMore Go.Proofs.YtkeddijlbnginaaX
attribute [local go_sem] max2_int min2_int max_two min_two max_three min_three max_four min_four   -- for this text's walks alone
set_option linter.unusedVariables false
set_option linter.unusedSimpArgs false



def errW : Option Int → Value
  | none => .nilIface
  | some c => .iface 0 (.int .i64 c)
theorem errW_none : errW none = .nilIface := rfl
theorem errW_some (c : Int) : errW (some c) = .iface 0 (.int .i64 c) := rfl

theorem info3 : (Try.prog.info? 3).map (fun i => (i.zero, i.size, i.bytes)) = some (some (.int .i64 0), 1, 8) := by kernel_rfl
theorem info5 : (Try.prog.info? 5).map (fun i => (i.zero, i.size, i.bytes)) = some (some (.int .u8 0), 1, 1) := by kernel_rfl
-- the values' own types

end Go.Proofs.Ytkeddijlbnginaa.Q
