-- laid by a program of this session (wip/tools) out of the words' text that the kit's program laid: only what this claim uses; Lean checks it
import Derived.Test.YtihepjjjdjemfaaDoorBFnExactJsonWideWInv
import Derived.Test.YtihepjjjdjemfaaDoorBFnExactJsonWideWFootNe
namespace Go.Proofs.YtihepjjjdjemfaaDoorW.PrintWords
open Go.RowKit
end Go.Proofs.YtihepjjjdjemfaaDoorW.PrintWords
namespace Go.Proofs.YtihepjjjdjemfaaDoorW.PrintLast
section
variable {ops : Array Oper} {a : Act} {o og : Oper} {g : Nat} {t : Tmp} {u : Bool}
end
end Go.Proofs.YtihepjjjdjemfaaDoorW.PrintLast
