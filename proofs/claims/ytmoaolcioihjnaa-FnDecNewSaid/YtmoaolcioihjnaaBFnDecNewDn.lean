import Derived.Test.YtmoaolcioihjnaaBFnDecNewDp
import Derived.Test.YtmoaolcioihjnaaBFnDecNewq2
namespace Go.Proofs.Ytmoaolcioihjnaa.Dp
set_option linter.unusedVariables false
set_option linter.unusedSimpArgs false
open Go.RowKit Go.Proofs.Ytmoaolcioihjnaa.Q Go.Proofs.Ytmoaolcioihjnaa.Th Go.Proofs.YtmoaolcioihjnaaW.PrintWords Go.Proofs.YtmoaolcioihjnaaW.PrintLast

/-- DecNew of both: false outside of its bounds, else the form -/
def NewAns (m e : Int) (r : Int × Int × Bool) : Prop :=
  if -100000000000000000 ≤ m ∧ m ≤ 100000000000000000 ∧ -32 ≤ e ∧ e ≤ 32 then Ans (val m e) r else r = (0, 0, false)
theorem NewAns.uniq {m e : Int} {r s : Int × Int × Bool} (h : NewAns m e r) (k : NewAns m e s) : r = s := by
  unfold NewAns at h k
  split at h
  · rename_i c; rw [if_pos c] at k; exact h.uniq k
  · rename_i c; rw [if_neg c] at k; rw [h, k]
theorem NewAns.inn {m e : Int} {r : Int × Int × Bool} (h : -100000000000000000 ≤ m ∧ m ≤ 100000000000000000 ∧ -32 ≤ e ∧ e ≤ 32) (k : Ans (val m e) r) : NewAns m e r := by unfold NewAns; rw [if_pos h]; exact k
theorem NewAns.out {m e : Int} (h : ¬ (-100000000000000000 ≤ m ∧ m ≤ 100000000000000000 ∧ -32 ≤ e ∧ e ≤ 32)) : NewAns m e (0, 0, false) := by unfold NewAns; rw [if_neg h]
theorem spec_dnew (k : Nat) (hk : 20 ≤ k) (m e : Int) : ∃ r, spec_DecNew.f k m e = some r ∧ NewAns m e r := by
  unfold spec_DecNew.f
  rw [is_big, Option.bind_some]
  by_cases h : 100000000000000000 < m ∨ m < -100000000000000000
  · rw [if_pos (decide_eq_true h)]; exact ⟨_, rfl, .out (by omega)⟩
  · rw [if_neg (fun z => h (of_decide_eq_true z)), in_range, Option.bind_some]
    by_cases h2 : -32 ≤ e ∧ e ≤ 32
    · rw [if_pos (decide_eq_true h2)]
      obtain ⟨r, hr, ha⟩ := spec_new k m e hk (by omega) (by omega) (by omega) (by omega)
      rw [hr]; exact ⟨_, rfl, .inn (by omega) ha⟩
    · rw [if_neg (fun z => h2 (of_decide_eq_true z))]; exact ⟨_, rfl, .out (by omega)⟩
theorem impl_dnew (k : Nat) (hk : 20 ≤ k) (m e : Int) : ∃ r, impl_DecNew.f k m e = some r ∧ NewAns m e r := by
  unfold impl_DecNew.f
  by_cases h1 : m < -100000000000000000
  · rw [if_pos h1]; exact ⟨_, rfl, .out (by omega)⟩
  rw [if_neg h1]
  by_cases h2 : m > 100000000000000000
  · rw [if_pos h2]; exact ⟨_, rfl, .out (by omega)⟩
  rw [if_neg h2]
  by_cases h3 : e < -32
  · rw [if_pos h3]; exact ⟨_, rfl, .out (by omega)⟩
  rw [if_neg h3]
  by_cases h4 : e > 32
  · rw [if_pos h4]; exact ⟨_, rfl, .out (by omega)⟩
  rw [if_neg h4]
  obtain ⟨r, hr, ha⟩ := impl_forms k m e hk (by omega) (by omega) (by omega) (by omega)
  rw [hr]; exact ⟨_, rfl, .inn (by omega) ha⟩

end Go.Proofs.Ytmoaolcioihjnaa.Dp
