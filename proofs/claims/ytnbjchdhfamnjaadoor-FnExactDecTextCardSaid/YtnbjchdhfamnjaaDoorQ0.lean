-- laid by a program of this session (wip/tools) out of the translation; Lean checks it
import Derived.Test.YtnbjchdhfamnjaaDoorProg
import Derived.Test.YtnbjchdhfamnjaaDoorX
import Derived.Below
import Derived.Deep.Draws
import Derived.Deep.AppendLies
import Derived.Maps.AppendAt
import Derived.OwnWalk
import Derived.Laws.BytesArg
import Derived.Laws.MakeOwn
import Derived.Laws.OwnMore
import Derived.Deep.OwnRows
import Derived.Tactics
import Derived.Lib.ConvBytes
import Derived.Laws.Slices
import Derived.WalkKit
import Derived.KernelRfl
import Derived.RowKit3
import Derived.Deep.LoopGhost
import Derived.Deep.QuietTactic
import Derived.BigQuiet
import Derived.WideLaws
import Derived.Deep.DeepCutAuto
import Derived.Deep.CutBlock
import Derived.Deep.RegionHeld3
import Derived.Laws.Rows
import Derived.Lib.AppendStr
import Derived.ArgAppend
import Derived.Laws.IdiomCopy
import Derived.OrdersHeld
import Derived.Laws.BitsLemmas
import Derived.RowKit
import Derived.Test.YtnbjchdhfamnjaaDoorWWords
import Derived.Test.YtnbjchdhfamnjaaDoorWLast
import Derived.Test.YtnbjchdhfamnjaaDoorWTab
import Derived.Test.YtnbjchdhfamnjaaDoorWFour
import Derived.Test.YtnbjchdhfamnjaaDoorWQPut
import Derived.Test.YtnbjchdhfamnjaaDoorWApart
import Derived.Test.YtnbjchdhfamnjaaDoorWArr
import Derived.Test.YtnbjchdhfamnjaaDoorWZeros
import Derived.Test.YtnbjchdhfamnjaaDoorWFoot
import Derived.Test.YtnbjchdhfamnjaaDoorWKept
import Derived.Test.YtnbjchdhfamnjaaDoorWShare
import Derived.Test.YtnbjchdhfamnjaaDoorWN
import Derived.Test.YtnbjchdhfamnjaaDoorWFootNe
import Derived.Test.YtnbjchdhfamnjaaDoorWAt
import Derived.Test.YtnbjchdhfamnjaaDoorWEqStruct
import Derived.Test.YtnbjchdhfamnjaaDoorWRepsOne
import Derived.Test.YtnbjchdhfamnjaaDoorWInv
import Derived.Test.YtnbjchdhfamnjaaDoorWInvWords
import Derived.Test.YtnbjchdhfamnjaaDoorWGuard
import Derived.Test.YtnbjchdhfamnjaaDoorWNEv
import Derived.Test.YtnbjchdhfamnjaaDoorWMore
namespace Go.Proofs.YtnbjchdhfamnjaaDoor.Q
open Go.RowKit Go.Proofs.YtnbjchdhfamnjaaDoorW.PrintWords Go.Proofs.YtnbjchdhfamnjaaDoorW.PrintLast Go.Proofs.YtnbjchdhfamnjaaDoorW.PrintMore Go.Proofs.YtnbjchdhfamnjaaDoorX
attribute [local go_sem] max2_int min2_int max_two min_two max_three min_three max_four min_four   -- for this text's walks alone
set_option linter.unusedVariables false
set_option linter.unusedSimpArgs false



def errW : Option Int → Value
  | none => .nilIface
  | some c => .iface 0 (.int .i64 c)
theorem errW_none : errW none = .nilIface := rfl
theorem errW_some (c : Int) : errW (some c) = .iface 0 (.int .i64 c) := rfl

theorem info5 : (Tryd.prog.info? 5).map (fun i => (i.zero, i.size, i.bytes)) = some (some (.int .u8 0), 1, 1) := by kernel_rfl
-- the values' own types

end Go.Proofs.YtnbjchdhfamnjaaDoor.Q
