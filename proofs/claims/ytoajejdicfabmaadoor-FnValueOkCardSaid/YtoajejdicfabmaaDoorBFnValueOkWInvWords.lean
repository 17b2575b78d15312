-- laid by a program of this session (wip/tools) out of the words' text that the kit's program laid: only what this claim uses; Lean checks it
import Derived.Test.YtoajejdicfabmaaDoorBFnValueOkWInv
import Derived.Test.YtoajejdicfabmaaDoorBFnValueOkWFootNe
namespace Go.Proofs.YtoajejdicfabmaaDoorW.PrintWords
open Go.RowKit
end Go.Proofs.YtoajejdicfabmaaDoorW.PrintWords
namespace Go.Proofs.YtoajejdicfabmaaDoorW.PrintLast
section
variable {ops : Array Oper} {a : Act} {o og : Oper} {g : Nat} {t : Tmp} {u : Bool}
end
end Go.Proofs.YtoajejdicfabmaaDoorW.PrintLast
