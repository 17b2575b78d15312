/-
  FnDecCmp: the plain law: what the functions compute makes the statement's bool true, whatever the arguments (within the sizes that the row says).
-/
import Derived.Test.YtmoaolcioihjnaaBFnDecCmpq3
import Derived.Test.YtmoaolcioihjnaaBFnDecCmpDr
import Derived.Test.YtmoaolcioihjnaaBFnDecCmpDq
namespace Go.Proofs.Ytmoaolcioihjnaa.Dp
set_option linter.unusedVariables false
set_option linter.unusedSimpArgs false
open Go.RowKit Go.Proofs.Ytmoaolcioihjnaa.Q Go.Proofs.Ytmoaolcioihjnaa.Th Go.Proofs.YtmoaolcioihjnaaW.PrintWords Go.Proofs.YtmoaolcioihjnaaW.PrintLast
theorem ord_range (x y : Int) : -1 ≤ ord x y ∧ ord x y ≤ 1 := by unfold ord; (repeat' split) <;> omega
theorem sign_val {m e v : Int} (h : val m e = v) : (m < 0 ↔ v < 0) ∧ (0 < m ↔ 0 < v) := by
  have := @val_pos m e
  rw [h] at this
  exact ⟨this.2.symm, this.1.symm⟩
theorem FnDecCmp : laws_FnDecCmp.Pure := by
  intro l _ _ hw
  refine ⟨1001, ?_⟩
  unfold laws_FnDecCmp.f
  by_cases hlen : (l.length : Int) > 1048576
  · rw [if_pos hlen]
  rw [if_neg hlen]
  obtain ⟨a, b, c, d, hd, ha, hc⟩ := draw2 1001 (by decide) l (bytes_of hw)
  unfold spec_DrawDecCmp.f
  rw [hd, Option.bind_some, Option.bind_some]
  dsimp only
  by_cases h : Ok a b ∧ Ok c d
  · have r := ord_range (val a b) (val c d)
    rw [impl_cmp 1001 (by decide) h.1 h.2, spec_cmp 1001 (by decide) h.1 h.2, impl_cmp 1001 (by decide) h.2 h.1, ord_swap (val a b) (val c d), Option.bind_some, Option.bind_some, if_pos rfl, Option.bind_some, if_pos (by rw [wrap64_id (by omega) (by omega)]), spec_ok, Option.bind_some, if_pos (decide_eq_true h.1), spec_ok, Option.bind_some, decide_eq_true h.2, laws_FnDecCmp.j0, if_neg (by decide)]
    obtain ⟨⟨s1, s2, s3⟩, hs, hS⟩ := impl_sub 1000 (by decide) h.1 h.2
    rw [hs, Option.bind_some]
    have heq : ((ord (val a b) (val c d) == 0) == (a == c && (b == d))) = true := by
      by_cases he : a = c ∧ b = d
      · obtain ⟨rfl, rfl⟩ := he
        simp [ord]
      · have hne : val a b ≠ val c d := fun z => he (ok_inj h.1 h.2 z)
        have h1 : ord (val a b) (val c d) ≠ 0 := by unfold ord; (repeat' split) <;> omega
        have h2 : (a == c && (b == d)) = false := by
          rw [Bool.eq_false_iff]; intro z; simp at z; exact he z
        rw [h2, beq_false_of_ne h1]; rfl
    rw [if_pos heq]
    cases s3 with
    | false => rfl
    | true =>
      obtain ⟨hO, hv⟩ := hS.ok
      have hsg := sign_val hv
      rw [if_pos rfl]
      have e1 : (decide (s1 < 0) == decide (ord (val a b) (val c d) < 0)) = true := by
        rw [beq_iff_eq, decide_eq_decide, hsg.1]; unfold ord; (repeat' split) <;> omega
      have e2 : (decide (s1 > 0) == decide (ord (val a b) (val c d) > 0)) = true := by
        rw [beq_iff_eq, decide_eq_decide, show s1 > 0 ↔ 0 < s1 from Iff.rfl, hsg.2]; unfold ord; (repeat' split) <;> omega
      rw [if_pos e1, e2]
  · have h' : ¬ (Ok c d ∧ Ok a b) := fun z => h ⟨z.2, z.1⟩
    have hz : wrap64 (-0) = 0 := by simp [wrap64]
    have hj : laws_FnDecCmp.j0 1001 0 true a b c d = some true := by
      rw [laws_FnDecCmp.j0, if_pos rfl, spec_cmp_no 1000 h, Option.bind_some, if_pos rfl, impl_cmp_no 1000 (by decide) h', Option.bind_some, hz]; rfl
    rw [impl_cmp_no 1001 (by decide) h, spec_cmp_no 1001 h, impl_cmp_no 1001 (by decide) h', Option.bind_some, Option.bind_some, if_pos rfl, Option.bind_some, hz, if_pos rfl, spec_ok, Option.bind_some]
    by_cases h1 : Ok a b
    · have h2 : ¬ Ok c d := fun z => h ⟨h1, z⟩
      rw [if_pos (decide_eq_true h1), spec_ok, Option.bind_some, decide_eq_false h2]; exact hj
    · rw [if_neg (fun z => h1 (of_decide_eq_true z))]; exact hj
end Go.Proofs.Ytmoaolcioihjnaa.Dp
namespace Go.Proofs.Ytmoaolcioihjnaa.Pure
theorem FnDecCmp : Go.Proofs.Ytmoaolcioihjnaa.Q.laws_FnDecCmp.Pure := Go.Proofs.Ytmoaolcioihjnaa.Dp.FnDecCmp
end Go.Proofs.Ytmoaolcioihjnaa.Pure
