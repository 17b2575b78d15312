-- laid by a program of this session (wip/tools) out of the words' text that the kit's program laid: only what this claim uses; Lean checks it
import Derived.Test.YtlmdhmfhopgekaaDoorBFnExactJsonPutWInv
import Derived.Test.YtlmdhmfhopgekaaDoorBFnExactJsonPutWFootNe
namespace Go.Proofs.YtlmdhmfhopgekaaDoorW.PrintWords
open Go.RowKit
end Go.Proofs.YtlmdhmfhopgekaaDoorW.PrintWords
namespace Go.Proofs.YtlmdhmfhopgekaaDoorW.PrintLast
section
variable {ops : Array Oper} {a : Act} {o og : Oper} {g : Nat} {t : Tmp} {u : Bool}
end
end Go.Proofs.YtlmdhmfhopgekaaDoorW.PrintLast
