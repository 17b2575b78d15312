-- laid by a program of this session (wip/tools) out of the translation; Lean checks it
import Derived.Test.YtcgdelmlcjjhoaaQ0
import Derived.Test.YtcgdelmlcjjhoaaSstringsIndexByte
namespace Go.Proofs.Ytcgdelmlcjjhoaa.Q
open Go.RowKit Go.Proofs.YtcgdelmlcjjhoaaW.PrintWords Go.Proofs.YtcgdelmlcjjhoaaW.PrintLast Go.Proofs.YtcgdelmlcjjhoaaW.PrintMore Go.Proofs.YtcgdelmlcjjhoaaX
attribute [local go_sem] max2_int min2_int max_two min_two max_three min_three max_four min_four   -- for this text's walks alone
set_option linter.unusedVariables false
set_option linter.unusedSimpArgs false

/-! ### strings_IndexByte: function 54 -/
def strings_IndexByte.f (a0 : ByteArray) (a1 : Int) : Option (Int) := some (Lib.indexByte a0.data.toList a1.toNat.toUInt8)
theorem strings_IndexByte.calls (a0 : ByteArray) (a1 : Int) (r : Int) (w : World) (h : strings_IndexByte.f a0 a1 = some r) :
    Calls Try.prog 54 #[.string a0, .int .u8 a1] w fun e w' => e = .returned (.int .i64 r) ∧ Drawn0 w w' := by
  have h2 := Option.some.inj h
  subst h2
  refine (Try.strings_IndexByte a0 a1 w).mono ?_
  rintro e w' ⟨rfl, rfl⟩
  exact ⟨rfl, Drawn0.refl _⟩

end Go.Proofs.Ytcgdelmlcjjhoaa.Q
