import Derived.Test.YtcgdelmlcjjhoaaBFnExactDecModDp
import Derived.Test.YtcgdelmlcjjhoaaBFnExactDecModq4
namespace Go.Proofs.Ytcgdelmlcjjhoaa.Dp
set_option linter.unusedVariables false
set_option linter.unusedSimpArgs false
open Go.RowKit Go.Proofs.Ytcgdelmlcjjhoaa.Q Go.Proofs.Ytcgdelmlcjjhoaa.Th Go.Proofs.YtcgdelmlcjjhoaaW.PrintWords Go.Proofs.YtcgdelmlcjjhoaaW.PrintLast
theorem eqdec (a b : Int) : laws_eqDec.f a b a b = some true := by simp [laws_eqDec.f]
end Go.Proofs.Ytcgdelmlcjjhoaa.Dp
