-- laid by a program of this session (wip/tools) out of the words' text that the kit's program laid: only what this claim uses; Lean checks it
import Derived.Test.YtcgdelmlcjjhoaaBFnExactDecModWWords
namespace Go.Proofs.YtcgdelmlcjjhoaaW.PrintWords
open Go.RowKit
section
variable {P : Program} {ops : Array Oper} {rest : List Oper} {o : Oper} {a : Act} {Q : Exit → Act → World → Prop} {W : World}
end
end Go.Proofs.YtcgdelmlcjjhoaaW.PrintWords
