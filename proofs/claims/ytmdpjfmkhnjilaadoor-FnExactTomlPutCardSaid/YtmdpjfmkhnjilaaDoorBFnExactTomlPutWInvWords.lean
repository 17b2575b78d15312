-- laid by a program of this session (wip/tools) out of the words' text that the kit's program laid: only what this claim uses; Lean checks it
import Derived.Test.YtmdpjfmkhnjilaaDoorBFnExactTomlPutWInv
import Derived.Test.YtmdpjfmkhnjilaaDoorBFnExactTomlPutWFootNe
namespace Go.Proofs.YtmdpjfmkhnjilaaDoorW.PrintWords
open Go.RowKit
end Go.Proofs.YtmdpjfmkhnjilaaDoorW.PrintWords
namespace Go.Proofs.YtmdpjfmkhnjilaaDoorW.PrintLast
section
variable {ops : Array Oper} {a : Act} {o og : Oper} {g : Nat} {t : Tmp} {u : Bool}
end
end Go.Proofs.YtmdpjfmkhnjilaaDoorW.PrintLast
