-- laid by a program of this session (wip/tools) out of the translation; Lean checks it
import Derived.Test.YtekkdhkcdjoooaaDoorQ0
import Derived.Test.YtekkdhkcdjoooaaDoorSh
import Derived.Lib.AppendIntMem
import Derived.Lib.AtoiErrMem
namespace Go.Proofs.YtekkdhkcdjoooaaDoor.Q
open Go.RowKit Go.Proofs.YtekkdhkcdjoooaaDoorW.PrintWords Go.Proofs.YtekkdhkcdjoooaaDoorW.PrintLast Go.Proofs.YtekkdhkcdjoooaaDoorW.PrintMore Go.Proofs.YtekkdhkcdjoooaaDoorX
attribute [local go_sem] max2_int min2_int max_two min_two max_three min_three max_four min_four   -- for this text's walks alone
set_option linter.unusedVariables false
set_option linter.unusedSimpArgs false

/-! ### strconv_Atoi: function 12 -/
def strconv_Atoi.f (a0 : ByteArray) : Option (Int × Option Int) := if a0.size ≤ 18 ∧ (Lib.atoi a0.data.toList).isSome = true then some (((Lib.atoi a0.data.toList).getD 0, none)) else none
set_option maxRecDepth 10000 in
theorem strconv_Atoi.calls (a0 : ByteArray) (r1 : Int) (r2 : Option Int) (w : World) (h : strconv_Atoi.f a0 = some (r1, r2)) :
    Calls Tryd.prog 12 #[.string a0] w fun e w' => e = .returned (.tuple #[.int .i64 r1, errW r2]) ∧ Below w.heap.size w w' := by
  unfold strconv_Atoi.f at h
  split at h
  · rename_i hh
    have h2 := Option.some.inj h
    simp only [Prod.mk.injEq] at h2
    obtain ⟨rfl, rfl⟩ := h2
    refine (Tryd.strconv_Atoi a0 ((Lib.atoi a0.data.toList).getD 0) hh.1 (some_getD hh.2) w).mono ?_
    rintro e w' ⟨rfl, t, rfl⟩
    exact ⟨rfl, Lib.bytesWorld_below _ _ _⟩
  · cases h

end Go.Proofs.YtekkdhkcdjoooaaDoor.Q
