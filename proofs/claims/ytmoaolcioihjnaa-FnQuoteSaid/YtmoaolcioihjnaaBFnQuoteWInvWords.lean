-- laid by a program of this session (wip/tools) out of the words' text that the kit's program laid: only what this claim uses; Lean checks it
import Derived.Test.YtmoaolcioihjnaaBFnQuoteWInv
import Derived.Test.YtmoaolcioihjnaaBFnQuoteWFootNe
namespace Go.Proofs.YtmoaolcioihjnaaW.PrintWords
open Go.RowKit
end Go.Proofs.YtmoaolcioihjnaaW.PrintWords
namespace Go.Proofs.YtmoaolcioihjnaaW.PrintLast
section
variable {ops : Array Oper} {a : Act} {o og : Oper} {g : Nat} {t : Tmp} {u : Bool}
end
end Go.Proofs.YtmoaolcioihjnaaW.PrintLast
