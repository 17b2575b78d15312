-- laid by a program of this session (wip/tools) out of the translation; Lean checks it
import Derived.Test.YtcgdelmlcjjhoaaProg
import Derived.Test.YtcgdelmlcjjhoaaX
import Derived.Below
import Derived.Deep.Draws
import Derived.Deep.AppendLies
import Derived.Maps.AppendAt
import Derived.OwnWalk
import Derived.Laws.BytesArg
import Derived.Laws.MakeOwn
import Derived.Laws.OwnMore
import Derived.Deep.OwnRows
import Derived.Tactics
import Derived.Lib.ConvBytes
import Derived.Laws.Slices
import Derived.WalkKit
import Derived.KernelRfl
import Derived.RowKit3
import Derived.Deep.LoopGhost
import Derived.Deep.QuietTactic
import Derived.BigQuiet
import Derived.WideLaws
import Derived.Deep.DeepCutAuto
import Derived.Deep.CutBlock
import Derived.Deep.RegionHeld3
import Derived.Laws.Rows
import Derived.Lib.AppendStr
import Derived.ArgAppend
import Derived.Laws.IdiomCopy
import Derived.OrdersHeld
import Derived.Laws.BitsLemmas
import Derived.RowKit
import Derived.Test.YtcgdelmlcjjhoaaWWords
import Derived.Test.YtcgdelmlcjjhoaaWLast
import Derived.Test.YtcgdelmlcjjhoaaWTab
import Derived.Test.YtcgdelmlcjjhoaaWFour
import Derived.Test.YtcgdelmlcjjhoaaWQPut
import Derived.Test.YtcgdelmlcjjhoaaWApart
import Derived.Test.YtcgdelmlcjjhoaaWArr
import Derived.Test.YtcgdelmlcjjhoaaWZeros
import Derived.Test.YtcgdelmlcjjhoaaWFoot
import Derived.Test.YtcgdelmlcjjhoaaWKept
import Derived.Test.YtcgdelmlcjjhoaaWShare
import Derived.Test.YtcgdelmlcjjhoaaWN
import Derived.Test.YtcgdelmlcjjhoaaWFootNe
import Derived.Test.YtcgdelmlcjjhoaaWAt
import Derived.Test.YtcgdelmlcjjhoaaWEqStruct
import Derived.Test.YtcgdelmlcjjhoaaWRepsOne
import Derived.Test.YtcgdelmlcjjhoaaWInv
import Derived.Test.YtcgdelmlcjjhoaaWInvWords
import Derived.Test.YtcgdelmlcjjhoaaWGuard
import Derived.Test.YtcgdelmlcjjhoaaWNEv
import Derived.Test.YtcgdelmlcjjhoaaWMore
namespace Go.Proofs.Ytcgdelmlcjjhoaa.Q
open Go.RowKit Go.Proofs.YtcgdelmlcjjhoaaW.PrintWords Go.Proofs.YtcgdelmlcjjhoaaW.PrintLast Go.Proofs.YtcgdelmlcjjhoaaW.PrintMore Go.Proofs.YtcgdelmlcjjhoaaX
attribute [local go_sem] max2_int min2_int max_two min_two max_three min_three max_four min_four   -- for this text's walks alone
set_option linter.unusedVariables false
set_option linter.unusedSimpArgs false



def errW : Option Int → Value
  | none => .nilIface
  | some c => .iface 0 (.int .i64 c)
theorem errW_none : errW none = .nilIface := rfl
theorem errW_some (c : Int) : errW (some c) = .iface 0 (.int .i64 c) := rfl

theorem info5 : (Try.prog.info? 5).map (fun i => (i.zero, i.size, i.bytes)) = some (some (.int .u8 0), 1, 1) := by kernel_rfl
-- the values' own types

end Go.Proofs.Ytcgdelmlcjjhoaa.Q
