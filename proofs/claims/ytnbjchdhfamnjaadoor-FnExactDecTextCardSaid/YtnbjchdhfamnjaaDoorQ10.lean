-- laid by a program of this session (wip/tools) out of the translation; Lean checks it
import Derived.Test.YtnbjchdhfamnjaaDoorQ0
import Derived.Test.YtnbjchdhfamnjaaDoorSh
import Derived.Lib.AppendIntMem
namespace Go.Proofs.YtnbjchdhfamnjaaDoor.Q
open Go.RowKit Go.Proofs.YtnbjchdhfamnjaaDoorW.PrintWords Go.Proofs.YtnbjchdhfamnjaaDoorW.PrintLast Go.Proofs.YtnbjchdhfamnjaaDoorW.PrintMore Go.Proofs.YtnbjchdhfamnjaaDoorX
attribute [local go_sem] max2_int min2_int max_two min_two max_three min_three max_four min_four   -- for this text's walks alone
set_option linter.unusedVariables false
set_option linter.unusedSimpArgs false

/-! ### strconv_Itoa: function 10 -/
noncomputable abbrev kPow := kTab Tryd.prog "internal/strconv.uint64pow10" .u64 Lib.pow10Tab
def strconv_Itoa.f (a0 : Int) (l1 : List Int) : Option (ByteArray) := if -9223372036854775808 ≤ a0 ∧ a0 ≤ 9223372036854775807 then some (⟨(Lib.itoa a0).toArray⟩) else none
theorem strconv_Itoa.calls (a0 : Int) (A1 : Option Addr) (c1 : Nat) (l1 : List Int) (r : ByteArray) (w : World) (hr1 : Kd.C kPow w A1 l1.length l1) (hc1 : l1.length ≤ c1) (hg1 : A1 = some ⟨0, 0, none⟩ ∧ l1 = [1]) (h : strconv_Itoa.f a0 l1 = some r) :
    Calls Tryd.prog 10 #[.int .i64 a0] w fun e w' => e = .returned (.string r) ∧ Below w.heap.size w w' := by
  obtain ⟨_, rfl⟩ := hg1
  unfold strconv_Itoa.f at h
  split at h
  · rename_i hh
    have h2 := Option.some.inj h
    subst h2
    refine (Tryd.strconv_Itoa a0 hh.1 hh.2 w (tab_of hr1)).mono ?_
    rintro e w' ⟨rfl, k, os, rfl⟩
    exact ⟨rfl, Lib.below_grow _ _ (Nat.le_refl _) _ _⟩
  · cases h

end Go.Proofs.YtnbjchdhfamnjaaDoor.Q
