-- laid by a program of this session (wip/tools) out of the words' text that the kit's program laid: only what this claim uses; Lean checks it
import Derived.Test.YtmoaolcioihjnaaBFnQuoteWLast
import Derived.Test.YtmoaolcioihjnaaBFnQuoteWMore
namespace Go.Proofs.YtmoaolcioihjnaaX
set_option linter.unusedVariables false
set_option linter.unusedSimpArgs false
open Go.RowKit Go.Proofs.YtmoaolcioihjnaaW.PrintWords Go.Proofs.YtmoaolcioihjnaaW.PrintLast
section
variable {P : Program} {ops : Array Oper} {Q : Exit → Act → World → Prop}
end
end Go.Proofs.YtmoaolcioihjnaaX
