/-
  FnDecSub: the plain law: what the functions compute makes the statement's bool true, whatever the arguments (within the sizes that the row says).
-/
import Derived.Test.YtmoaolcioihjnaaQ7
import Derived.Test.YtmoaolcioihjnaaDr
namespace Go.Proofs.Ytmoaolcioihjnaa.Dp
set_option linter.unusedVariables false
set_option linter.unusedSimpArgs false
open Go.RowKit Go.Proofs.Ytmoaolcioihjnaa.Q Go.Proofs.Ytmoaolcioihjnaa.Th Go.Proofs.YtmoaolcioihjnaaW.PrintWords Go.Proofs.YtmoaolcioihjnaaW.PrintLast
theorem FnDecSub : laws_FnDecSub.Pure := by
  intro l _ _ hw
  refine ⟨1001, ?_⟩
  unfold laws_FnDecSub.f
  by_cases hlen : (l.length : Int) > 1048576
  · rw [if_pos hlen]
  rw [if_neg hlen]
  obtain ⟨a, b, c, d, hd, ha, hc⟩ := draw2 1001 (by decide) l (bytes_of hw)
  unfold spec_DrawDecSub.f
  rw [hd, Option.bind_some, Option.bind_some]
  dsimp only
  by_cases h : Ok a b ∧ Ok c d
  · obtain ⟨⟨r1, r2, r3⟩, hr, hA⟩ := impl_sub 1001 (by decide) h.1 h.2
    obtain ⟨t, ht, hC⟩ := spec_sub 1001 (by decide) h.1 h.2
    obtain rfl := hA.uniq hC
    rw [hr, ht]
    cases r3 with
    | false => simp [laws_FnDecSub.j0]
    | true =>
      obtain ⟨hO, hv⟩ := hA.ok
      have lo := ok_low hO
      obtain ⟨u, hu, hU⟩ := impl_sub 1000 (by decide) h.2 h.1
      obtain ⟨v, hv2, hV⟩ := impl_sub 1000 (by decide) h.1 h.1
      obtain rfl := hU.uniq (.yes (a := -r1) (b := r2) (ok_neg hO) (by rw [val_neg]; omega))
      obtain rfl := hV.uniq (.yes (a := 0) (b := 0) (.inl ⟨rfl, rfl⟩) (by rw [val_zero]; omega))
      simp [laws_FnDecSub.j0, hu, hv2, wrap_neg lo.2.2.1 lo.2.2.2]
  · rw [impl_sub_no _ (by decide) (by omega) (by omega) h, spec_sub_no _ (by decide) h]
    simp [laws_FnDecSub.j0]
end Go.Proofs.Ytmoaolcioihjnaa.Dp
namespace Go.Proofs.Ytmoaolcioihjnaa.Pure
theorem FnDecSub : Go.Proofs.Ytmoaolcioihjnaa.Q.laws_FnDecSub.Pure := Go.Proofs.Ytmoaolcioihjnaa.Dp.FnDecSub
end Go.Proofs.Ytmoaolcioihjnaa.Pure
