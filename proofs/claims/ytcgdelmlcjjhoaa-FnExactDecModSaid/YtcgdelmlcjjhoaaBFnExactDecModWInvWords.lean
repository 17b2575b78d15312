-- laid by a program of this session (wip/tools) out of the words' text that the kit's program laid: only what this claim uses; Lean checks it
import Derived.Test.YtcgdelmlcjjhoaaBFnExactDecModWInv
import Derived.Test.YtcgdelmlcjjhoaaBFnExactDecModWFootNe
namespace Go.Proofs.YtcgdelmlcjjhoaaW.PrintWords
open Go.RowKit
end Go.Proofs.YtcgdelmlcjjhoaaW.PrintWords
namespace Go.Proofs.YtcgdelmlcjjhoaaW.PrintLast
section
variable {ops : Array Oper} {a : Act} {o og : Oper} {g : Nat} {t : Tmp} {u : Bool}
end
end Go.Proofs.YtcgdelmlcjjhoaaW.PrintLast
