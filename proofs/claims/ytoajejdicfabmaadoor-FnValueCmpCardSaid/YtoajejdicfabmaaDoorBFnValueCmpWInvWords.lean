-- the words that this claim uses, laid by a program of this session (wip/tools); Lean checks it
import Derived.Test.YtoajejdicfabmaaDoorBFnValueCmpWInv
import Derived.Test.YtoajejdicfabmaaDoorBFnValueCmpWFootNe
namespace Go.Proofs.YtoajejdicfabmaaDoorW.PrintWords
open Go.RowKit
end Go.Proofs.YtoajejdicfabmaaDoorW.PrintWords
namespace Go.Proofs.YtoajejdicfabmaaDoorW.PrintLast
section
variable {ops : Array Oper} {a : Act} {o og : Oper} {g : Nat} {t : Tmp} {u : Bool}
end
end Go.Proofs.YtoajejdicfabmaaDoorW.PrintLast
