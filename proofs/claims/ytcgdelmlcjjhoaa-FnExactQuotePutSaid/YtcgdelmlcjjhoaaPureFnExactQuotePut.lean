/-
  FnExactQuotePut: the plain law: what the functions compute makes the statement's bool true, whatever the arguments (within the sizes that the row says).
-/
import Derived.Test.YtcgdelmlcjjhoaaQ5
import Derived.Test.YtcgdelmlcjjhoaaQp
namespace Go.Proofs.Ytcgdelmlcjjhoaa.Dp
set_option linter.unusedVariables false
set_option linter.unusedSimpArgs false
open Go.RowKit Go.Proofs.Ytcgdelmlcjjhoaa.Q Go.Proofs.Ytcgdelmlcjjhoaa.Th Go.Proofs.YtcgdelmlcjjhoaaW.PrintWords Go.Proofs.YtcgdelmlcjjhoaaW.PrintLast
theorem FnExactQuotePut : laws_FnExactQuotePut.Pure := by
  intro a _
  refine ⟨1048577, ?_⟩
  unfold laws_FnExactQuotePut.f
  by_cases h : (a.size : Int) > 1048576
  · rw [if_pos h]
  · rw [if_neg h, Qp.spec_put 1048577 a (by omega) (by omega), Qp.impl_put 1048577 a (by omega) (by omega), Option.bind_some, Option.bind_some, if_pos rfl]
end Go.Proofs.Ytcgdelmlcjjhoaa.Dp
namespace Go.Proofs.Ytcgdelmlcjjhoaa.Pure
theorem FnExactQuotePut : Go.Proofs.Ytcgdelmlcjjhoaa.Q.laws_FnExactQuotePut.Pure := Go.Proofs.Ytcgdelmlcjjhoaa.Dp.FnExactQuotePut
end Go.Proofs.Ytcgdelmlcjjhoaa.Pure
