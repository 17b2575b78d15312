/-
  FnExactQuoteGet: the plain law: what the functions compute makes the statement's bool true, whatever the arguments (within the sizes that the row says).
-/
import Derived.Test.YtcgdelmlcjjhoaaQ8
import Derived.Test.YtcgdelmlcjjhoaaQg
namespace Go.Proofs.Ytcgdelmlcjjhoaa.Dp
set_option linter.unusedVariables false
set_option linter.unusedSimpArgs false
open Go.RowKit Go.Proofs.Ytcgdelmlcjjhoaa.Q Go.Proofs.Ytcgdelmlcjjhoaa.Evs Go.Proofs.YtcgdelmlcjjhoaaW.PrintWords Go.Proofs.YtcgdelmlcjjhoaaW.PrintLast
theorem FnExactQuoteGet : laws_FnExactQuoteGet.Pure := by
  intro a _
  refine Evn.at ?_
  by_cases h : (a.size : Int) > 1048576
  · exact Evn.of (fun k => by rw [laws_FnExactQuoteGet.f, if_pos h]) (Evn.pure _)
  · obtain ⟨r, hr, hr'⟩ := Qg.get_ev a (by omega)
    refine Evn.of (fun k => by rw [laws_FnExactQuoteGet.f, if_neg h]) (Evn.bind hr (Evn.bind hr' (Evn.ite_pos rfl (Evn.ite_neg ?_ (Evn.pure _)))))
    cases r.2 <;> decide
end Go.Proofs.Ytcgdelmlcjjhoaa.Dp
namespace Go.Proofs.Ytcgdelmlcjjhoaa.Pure
theorem FnExactQuoteGet : Go.Proofs.Ytcgdelmlcjjhoaa.Q.laws_FnExactQuoteGet.Pure := Go.Proofs.Ytcgdelmlcjjhoaa.Dp.FnExactQuoteGet
end Go.Proofs.Ytcgdelmlcjjhoaa.Pure
