/-
  FnDecAdd: the plain law: what the functions compute makes the statement's bool true, whatever the arguments (within the sizes that the row says).
-/
import Derived.Test.YtmoaolcioihjnaaQ5
import Derived.Test.YtmoaolcioihjnaaDr
namespace Go.Proofs.Ytmoaolcioihjnaa.Dp
set_option linter.unusedVariables false
set_option linter.unusedSimpArgs false
open Go.RowKit Go.Proofs.Ytmoaolcioihjnaa.Q Go.Proofs.Ytmoaolcioihjnaa.Th Go.Proofs.YtmoaolcioihjnaaW.PrintWords Go.Proofs.YtmoaolcioihjnaaW.PrintLast
theorem FnDecAdd : laws_FnDecAdd.Pure := by
  intro l _ _ hw
  refine ⟨1001, ?_⟩
  unfold laws_FnDecAdd.f
  by_cases hlen : (l.length : Int) > 1048576
  · rw [if_pos hlen]
  rw [if_neg hlen]
  obtain ⟨a, b, c, d, hd, ha, hc⟩ := draw2 1001 (by decide) l (bytes_of hw)
  rw [hd, Option.bind_some]
  dsimp only
  by_cases h : Ok a b ∧ Ok c d
  · obtain ⟨⟨r1, r2, r3⟩, hr, hA⟩ := impl_add 1001 (by decide) h.1 h.2
    obtain ⟨s, hs, hB⟩ := impl_add 1001 (by decide) h.2 h.1
    obtain ⟨t, ht, hC⟩ := spec_add 1001 (by decide) h.1 h.2
    rw [Int.add_comm] at hB
    obtain rfl := hA.uniq hB
    obtain rfl := hA.uniq hC
    rw [hr, hs, ht, impl_ok, spec_ok]
    cases r3 with
    | false => simp [laws_FnDecAdd.j0]
    | true =>
      obtain ⟨hO, hv⟩ := hA.ok
      obtain ⟨u, hu, hU⟩ := impl_sub 1000 (by decide) hO h.2
      obtain ⟨v, hv2, hV⟩ := impl_add 1000 (by decide) (bM := 0) (bE := 0) h.1 (.inl ⟨rfl, rfl⟩)
      rw [hv, Int.add_sub_cancel] at hU
      obtain rfl := hU.uniq (.yes h.1 rfl)
      rw [val_zero, Int.add_zero] at hV
      obtain rfl := hV.uniq (.yes h.1 rfl)
      simp [laws_FnDecAdd.j0, hu, hv2, impl_ok, hO]
  · rw [impl_add_no _ (by decide) h, impl_add_no _ (by decide) (fun z => h ⟨z.2, z.1⟩), spec_add_no _ h, impl_ok, spec_ok]
    simp [laws_FnDecAdd.j0]
end Go.Proofs.Ytmoaolcioihjnaa.Dp
namespace Go.Proofs.Ytmoaolcioihjnaa.Pure
theorem FnDecAdd : Go.Proofs.Ytmoaolcioihjnaa.Q.laws_FnDecAdd.Pure := Go.Proofs.Ytmoaolcioihjnaa.Dp.FnDecAdd
end Go.Proofs.Ytmoaolcioihjnaa.Pure
