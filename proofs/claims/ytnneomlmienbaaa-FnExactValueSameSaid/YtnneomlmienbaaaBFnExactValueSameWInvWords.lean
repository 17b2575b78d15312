-- laid by a program of this session (wip/tools) out of the words' text that the kit's program laid: only what this claim uses; Lean checks it
import Derived.Test.YtnneomlmienbaaaBFnExactValueSameWInv
import Derived.Test.YtnneomlmienbaaaBFnExactValueSameWFootNe
namespace Go.Proofs.YtnneomlmienbaaaW.PrintWords
open Go.RowKit
end Go.Proofs.YtnneomlmienbaaaW.PrintWords
namespace Go.Proofs.YtnneomlmienbaaaW.PrintLast
section
variable {ops : Array Oper} {a : Act} {o og : Oper} {g : Nat} {t : Tmp} {u : Bool}
end
end Go.Proofs.YtnneomlmienbaaaW.PrintLast
