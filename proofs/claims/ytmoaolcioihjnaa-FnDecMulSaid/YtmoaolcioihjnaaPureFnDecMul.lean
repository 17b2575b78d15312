/-
  FnDecMul: the plain law: what the functions compute makes the statement's bool true, whatever the arguments (within the sizes that the row says).
-/
import Derived.Test.YtmoaolcioihjnaaQ4
import Derived.Test.YtmoaolcioihjnaaDr
namespace Go.Proofs.Ytmoaolcioihjnaa.Dp
set_option linter.unusedVariables false
set_option linter.unusedSimpArgs false
open Go.RowKit Go.Proofs.Ytmoaolcioihjnaa.Q Go.Proofs.Ytmoaolcioihjnaa.Th Go.Proofs.YtmoaolcioihjnaaW.PrintWords Go.Proofs.YtmoaolcioihjnaaW.PrintLast
theorem FnDecMul : laws_FnDecMul.Pure := by
  intro l _ _ hw
  refine ⟨1001, ?_⟩
  unfold laws_FnDecMul.f
  by_cases hlen : (l.length : Int) > 1048576
  · rw [if_pos hlen]
  rw [if_neg hlen]
  obtain ⟨a, b, c, d, hd, ha, hc⟩ := draw2 1001 (by decide) l (bytes_of hw)
  unfold spec_DrawDecMul.f
  rw [hd, Option.bind_some, Option.bind_some]
  dsimp only
  by_cases h : Ok a b ∧ Ok c d
  · obtain ⟨r, hr, hA⟩ := impl_mul 1001 (by decide) h.1 h.2
    obtain ⟨s, hs, hB⟩ := impl_mul 1001 (by decide) h.2 h.1
    obtain ⟨t, ht, hC⟩ := spec_mul 1001 (by decide) h.1 h.2
    rw [Int.mul_comm, Int.add_comm] at hB
    obtain rfl := hA.uniq hB
    obtain rfl := hA.uniq hC
    obtain ⟨u, hu, hU⟩ := impl_mul 1000 (by decide) (bM := 1) (bE := 0) h.1 (by unfold Ok; omega)
    obtain ⟨v, hv, hV⟩ := impl_mul 1000 (by decide) (bM := 0) (bE := 0) h.1 (by unfold Ok; omega)
    rw [Int.mul_one, Int.add_zero] at hU
    obtain rfl := hU.uniq (.yes h.1 rfl)
    rw [Int.mul_zero, val_zero] at hV
    obtain rfl := hV.uniq (.yes (.inl ⟨rfl, rfl⟩) (val_zero 0))
    rw [hr, hs, ht, spec_ok, decide_eq_true h.1]
    simp [laws_FnDecMul.j0, hu, hv]
  · rw [impl_mul_no _ h, impl_mul_no _ (fun z => h ⟨z.2, z.1⟩), spec_mul_no _ h, spec_ok]
    by_cases h1 : Ok a b
    · have h2 : ¬ Ok c d := fun z => h ⟨h1, z⟩
      obtain ⟨u, hu, hU⟩ := impl_mul 1000 (by decide) (bM := 1) (bE := 0) h1 (by unfold Ok; omega)
      obtain ⟨v, hv, hV⟩ := impl_mul 1000 (by decide) (bM := 0) (bE := 0) h1 (by unfold Ok; omega)
      rw [Int.mul_one, Int.add_zero] at hU
      obtain rfl := hU.uniq (.yes h1 rfl)
      rw [Int.mul_zero, val_zero] at hV
      obtain rfl := hV.uniq (.yes (.inl ⟨rfl, rfl⟩) (val_zero 0))
      rw [decide_eq_true h1]
      simp [laws_FnDecMul.j0, hu, hv]
    · rw [decide_eq_false h1]
      simp [laws_FnDecMul.j0]
end Go.Proofs.Ytmoaolcioihjnaa.Dp
namespace Go.Proofs.Ytmoaolcioihjnaa.Pure
theorem FnDecMul : Go.Proofs.Ytmoaolcioihjnaa.Q.laws_FnDecMul.Pure := Go.Proofs.Ytmoaolcioihjnaa.Dp.FnDecMul
end Go.Proofs.Ytmoaolcioihjnaa.Pure
