-- laid by a program of this session (wip/tools) out of the words' text that the kit's program laid: only what this claim uses; Lean checks it
import Derived.Test.YthaceblepbkjjaaDoorBFnExactIniPutWInv
import Derived.Test.YthaceblepbkjjaaDoorBFnExactIniPutWFootNe
namespace Go.Proofs.YthaceblepbkjjaaDoorW.PrintWords
open Go.RowKit
end Go.Proofs.YthaceblepbkjjaaDoorW.PrintWords
namespace Go.Proofs.YthaceblepbkjjaaDoorW.PrintLast
section
variable {ops : Array Oper} {a : Act} {o og : Oper} {g : Nat} {t : Tmp} {u : Bool}
end
end Go.Proofs.YthaceblepbkjjaaDoorW.PrintLast
