-- laid by a program of this session (wip/tools) out of the translation; Lean checks it
import Derived.Test.YtekkdhkcdjoooaaDoorQ0
import Derived.Test.YtekkdhkcdjoooaaDoorSh
import Derived.Lib.AppendIntMem
import Derived.Lib.AtoiErrMem
namespace Go.Proofs.YtekkdhkcdjoooaaDoor.Q
open Go.RowKit Go.Proofs.YtekkdhkcdjoooaaDoorW.PrintWords Go.Proofs.YtekkdhkcdjoooaaDoorW.PrintLast Go.Proofs.YtekkdhkcdjoooaaDoorW.PrintMore Go.Proofs.YtekkdhkcdjoooaaDoorX
attribute [local go_sem] max2_int min2_int max_two min_two max_three min_three max_four min_four   -- for this text's walks alone
set_option linter.unusedVariables false
set_option linter.unusedSimpArgs false

/-! ### strings_Cut: function 10 -/
def strings_Cut.f (a0 : ByteArray) (a1 : ByteArray) (l2 : List Int) : Option (ByteArray × ByteArray × Bool) := if a0.size < 4294967281 then some ((⟨(Lib.cut a0.data.toList a1.data.toList).1.toArray⟩, ⟨(Lib.cut a0.data.toList a1.data.toList).2.1.toArray⟩, (Lib.cut a0.data.toList a1.data.toList).2.2)) else none
theorem strings_Cut.calls (a0 : ByteArray) (a1 : ByteArray) (A2 : Option Addr) (c2 : Nat) (l2 : List Int) (r1 : ByteArray) (r2 : ByteArray) (r3 : Bool) (w : World) (hr2 : Kd.C (Kd.int .i64) w A2 l2.length l2) (hc2 : l2.length ≤ c2) (hg2 : A2 = some ⟨0, 0, none⟩ ∧ ∃ m_, l2 = [m_]) (h : strings_Cut.f a0 a1 l2 = some (r1, r2, r3)) :
    Calls Tryd.prog 10 #[.string a0, .string a1] w fun e w' => e = .returned (.tuple #[.string r1, .string r2, .bool r3]) ∧ Below w.heap.size w w' := by
  obtain ⟨rfl, m_, rfl⟩ := hg2
  unfold strings_Cut.f at h
  split at h
  · rename_i hh
    have h2 := Option.some.inj h
    simp only [Prod.mk.injEq] at h2
    obtain ⟨rfl, rfl, rfl⟩ := h2
    refine (Tryd.strings_Cut a0 a1 m_ w hh (cell_of hr2)).mono ?_
    rintro e w' ⟨rfl, k, rfl⟩
    exact ⟨rfl, ⟨rfl, rfl, rfl, Nat.le_refl _, fun _ _ => rfl⟩⟩
  · cases h

end Go.Proofs.YtekkdhkcdjoooaaDoor.Q
