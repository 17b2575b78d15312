-- laid by a program of this session (wip/tools) out of the translation; Lean checks it
import Derived.Test.YtekkdhkcdjoooaaDoorQ0
import Derived.Test.YtekkdhkcdjoooaaDoorSstringsCutPrefix
namespace Go.Proofs.YtekkdhkcdjoooaaDoor.Q
open Go.RowKit Go.Proofs.YtekkdhkcdjoooaaDoorW.PrintWords Go.Proofs.YtekkdhkcdjoooaaDoorW.PrintLast Go.Proofs.YtekkdhkcdjoooaaDoorW.PrintMore Go.Proofs.YtekkdhkcdjoooaaDoorX
attribute [local go_sem] max2_int min2_int max_two min_two max_three min_three max_four min_four   -- for this text's walks alone
set_option linter.unusedVariables false
set_option linter.unusedSimpArgs false

/-! ### strings_CutPrefix: function 9 -/
def strings_CutPrefix.f (a0 : ByteArray) (a1 : ByteArray) : Option (ByteArray × Bool) := some ((⟨(Lib.trimPrefix a0.data.toList a1.data.toList).toArray⟩, Lib.hasPrefix a0.data.toList a1.data.toList))
theorem strings_CutPrefix.calls (a0 : ByteArray) (a1 : ByteArray) (r1 : ByteArray) (r2 : Bool) (w : World) (h : strings_CutPrefix.f a0 a1 = some (r1, r2)) :
    Calls Tryd.prog 9 #[.string a0, .string a1] w fun e w' => e = .returned (.tuple #[.string r1, .bool r2]) ∧ Drawn0 w w' := by
  have h2 := Option.some.inj h
  cases h2
  refine (Tryd.strings_CutPrefix a0 a1 w).mono ?_
  rintro e w' ⟨rfl, rfl⟩
  exact ⟨rfl, Drawn0.refl _⟩

end Go.Proofs.YtekkdhkcdjoooaaDoor.Q
