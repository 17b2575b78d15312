/-
  FnDecOrder: the plain law: what the functions compute makes the statement's bool true, whatever the arguments (within the sizes that the row says).
-/
import Derived.Test.YtmoaolcioihjnaaBFnDecOrderq4
import Derived.Test.YtmoaolcioihjnaaBFnDecOrderDr
import Derived.Test.YtmoaolcioihjnaaBFnDecOrderDq
namespace Go.Proofs.Ytmoaolcioihjnaa.Dp
set_option linter.unusedVariables false
set_option linter.unusedSimpArgs false
open Go.RowKit Go.Proofs.Ytmoaolcioihjnaa.Q Go.Proofs.Ytmoaolcioihjnaa.Th Go.Proofs.YtmoaolcioihjnaaW.PrintWords Go.Proofs.YtmoaolcioihjnaaW.PrintLast
theorem FnDecOrder : laws_FnDecOrder.Pure := by
  intro l m _ _ hw _ _ hw2
  refine ⟨1003, ?_⟩
  unfold laws_FnDecOrder.f
  by_cases hlen : (l.length : Int) > 1048576
  · rw [if_pos hlen, laws_FnDecOrder.j0, if_pos rfl]
  rw [if_neg hlen, laws_FnDecOrder.j0]
  by_cases hlen2 : (m.length : Int) > 1048576
  · rw [if_pos (decide_eq_true hlen2)]
  rw [if_neg (fun z => hlen2 (of_decide_eq_true z))]
  obtain ⟨a, b, c, d, hd, ha, hc⟩ := draw2 1002 (by decide) l (bytes_of hw)
  obtain ⟨e, f, g, j, hd2, he, hg⟩ := draw2 1002 (by decide) m (bytes_of hw2)
  unfold spec_DrawDecCmp.f
  rw [hd, Option.bind_some, Option.bind_some, hd2, Option.bind_some, Option.bind_some]
  dsimp only
  by_cases h : Ok a b ∧ Ok c d
  · rw [impl_cmp 1002 (by decide) h.1 h.2, spec_cmp 1002 (by decide) h.1 h.2, Option.bind_some, Option.bind_some, if_pos rfl, spec_ok, Option.bind_some, if_pos (decide_eq_true h.1), spec_ok, Option.bind_some, if_pos (decide_eq_true h.2), spec_ok, Option.bind_some, laws_FnDecOrder.j1]
    by_cases h3 : Ok e f
    · rw [decide_eq_true h3, if_neg (by decide), impl_cmp 1001 (by decide) h.2 h3, impl_cmp 1001 (by decide) h.1 h3, Option.bind_some, Option.bind_some]
      obtain ⟨⟨x1, x2, x3⟩, hx, hX⟩ := impl_add 1000 (by decide) h.1 h3
      obtain ⟨⟨y1, y2, y3⟩, hy, hY⟩ := impl_add 1000 (by decide) h.2 h3
      have hj2 : laws_FnDecOrder.j2 1001 (ord (val a b) (val c d)) false a b c d e f = some true := by
        rw [laws_FnDecOrder.j2, if_neg (by decide), hx, Option.bind_some, hy, Option.bind_some]
        cases x3 with
        | false => rfl
        | true =>
          cases y3 with
          | false => rfl
          | true =>
            obtain ⟨o1, v1⟩ := hX.ok
            obtain ⟨o2, v2⟩ := hY.ok
            dsimp only
            rw [if_pos rfl, if_pos rfl, impl_cmp 1000 (by decide) o1 o2, Option.bind_some, v1, v2]
            congr 1
            rw [beq_iff_eq]
            unfold ord
            (repeat' split) <;> omega
      rw [hj2]
      by_cases c1 : ord (val a b) (val c d) ≤ 0
      · rw [if_pos c1]
        by_cases c2 : ord (val c d) (val e f) ≤ 0
        · rw [if_pos c2, decide_eq_false (by unfold ord at *; (repeat' split at c1) <;> (repeat' split at c2) <;> (repeat' split) <;> omega), hj2]
        · rw [if_neg c2]
      · rw [if_neg c1]
    · rw [decide_eq_false h3, if_pos (by rfl), spec_cmp 1001 (by decide) h.1 h.2, Option.bind_some]
      simp
  · rw [impl_cmp_no 1002 (by decide) h, spec_cmp_no 1002 h, Option.bind_some, Option.bind_some, if_pos rfl, spec_ok, Option.bind_some]
    have hz : laws_FnDecOrder.j1 1002 0 true a b c d e f = some true := by
      rw [laws_FnDecOrder.j1, if_pos rfl, spec_cmp_no 1001 h]; rfl
    by_cases h1 : Ok a b
    · have h2 : ¬ Ok c d := fun z => h ⟨h1, z⟩
      rw [if_pos (decide_eq_true h1), spec_ok, Option.bind_some, if_neg (fun z => h2 (of_decide_eq_true z)), hz]
    · rw [if_neg (fun z => h1 (of_decide_eq_true z)), hz]
end Go.Proofs.Ytmoaolcioihjnaa.Dp
namespace Go.Proofs.Ytmoaolcioihjnaa.Pure
theorem FnDecOrder : Go.Proofs.Ytmoaolcioihjnaa.Q.laws_FnDecOrder.Pure := Go.Proofs.Ytmoaolcioihjnaa.Dp.FnDecOrder
end Go.Proofs.Ytmoaolcioihjnaa.Pure
