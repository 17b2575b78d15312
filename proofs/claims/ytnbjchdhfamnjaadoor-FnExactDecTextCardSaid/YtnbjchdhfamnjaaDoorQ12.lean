-- laid by a program of this session (wip/tools) out of the translation; Lean checks it
import Derived.Test.YtnbjchdhfamnjaaDoorQ0
import Derived.Test.YtnbjchdhfamnjaaDoorSh
import Derived.Lib.AppendIntMem
namespace Go.Proofs.YtnbjchdhfamnjaaDoor.Q
open Go.RowKit Go.Proofs.YtnbjchdhfamnjaaDoorW.PrintWords Go.Proofs.YtnbjchdhfamnjaaDoorW.PrintLast Go.Proofs.YtnbjchdhfamnjaaDoorW.PrintMore Go.Proofs.YtnbjchdhfamnjaaDoorX
attribute [local go_sem] max2_int min2_int max_two min_two max_three min_three max_four min_four   -- for this text's walks alone
set_option linter.unusedVariables false
set_option linter.unusedSimpArgs false

/-! ### strings_Repeat: function 12 -/
def strings_Repeat.f (a0 : ByteArray) (a1 : Int) : Option (ByteArray) := if 0 ≤ a1 ∧ a1 ≤ 9223372036854775807 ∧ a0.size * a1.toNat ≤ 140737488355328 then some (⟨(Lib.repeatL a0.data.toList a1.toNat).toArray⟩) else none
theorem strings_Repeat.calls (a0 : ByteArray) (a1 : Int) (r : ByteArray) (w : World) (h : strings_Repeat.f a0 a1 = some r) :
    Calls Tryd.prog 12 #[.string a0, .int .i64 a1] w fun e w' => e = .returned (.string r) ∧ Below w.heap.size w w' := by
  unfold strings_Repeat.f at h
  split at h
  · rename_i hh
    have h2 := Option.some.inj h
    subst h2
    obtain ⟨c, rfl⟩ := Int.eq_ofNat_of_zero_le hh.1
    simp only [Int.toNat_natCast] at hh ⊢
    refine (Tryd.strings_Repeat a0 c w (by omega) hh.2.2).mono ?_
    rintro e w' ⟨rfl, hb⟩
    exact ⟨rfl, hb⟩
  · cases h

end Go.Proofs.YtnbjchdhfamnjaaDoor.Q
