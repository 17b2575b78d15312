/-
  FnExactValueSame: whatever the arguments, the program answers as the reference does; every input that can be read; no further condition.
-/
import Derived.Test.YtnneomlmienbaaaRows
import Derived.Test.YtnneomlmienbaaaBFnExactValueSameVs
import Derived.Test.YtnneomlmienbaaaBFnExactValueSameBv
import Derived.Test.YtnneomlmienbaaaBFnExactValueSameq5
import Derived.WalkKit
import Derived.ProofKit
import Derived.OpenShut
import Derived.ShutString
import Derived.ChangeOld
import Derived.Below
import Derived.SizedLaws
import Derived.Lib.SmallJoins
import Derived.Test.YtnneomlmienbaaaBFnExactValueSameBr
namespace Go.Proofs.Ytnneomlmienbaaa.fnExactValueSame
open Go.ChangeShapes Go.WideShapes Go.ChangeAt Go.RowKit Go.Joins
open Go.ChangeMaps (open_string shut_string)
set_option linter.unusedVariables false
set_option linter.unusedSimpArgs false
theorem own : ownKnob Try.prog.godebug = none := by kernel_rfl
theorem laidOut : laidOutB Try.prog = true := by kernel_rfl
set_option maxRecDepth 100000 in
theorem lifted (os : Os) (started : os.Started) (H : Type) (enc : TypeId × Value → H) :
    ReturnsInHanded {} Try.checked os 7 .any (Rows.fnExactValueSameSpec.pre6 enc Try.prog Try.f7 Rows.fnExactValueSameRow.domain false) (Rows.fnExactValueSameSpec.post enc Try.prog Try.f7 false true false false) := by
  refine returnsInHanded_of_change_sized (C := Try.checked) own started (by kernel_rfl) Try.func7
    (ChangeSpec.witness6 (enc := enc) (C := Try.checked) false ⟨#[], #[.agg #[.int .i64 0, .int .i64 0, .int .i64 0, .string ByteArray.empty, .slice none 0 0, .slice none 0 0], .agg #[.int .i64 0, .int .i64 0, .int .i64 0, .string ByteArray.empty, .slice none 0 0, .slice none 0 0]], []⟩ 8 (by kernel_rfl) (by kernel_rfl) (by kernel_rfl) (by kernel_rfl)) ?_
  intro W base args ds gs before hval0 hW hcnd hsz0 _
  have hval : ∀ (j : Nat) t v, Try.f7.params[j]? = some t → args[j]? = some v → Value.okWide Try.prog W .any base t v := hval0
  have hW' := hW
  obtain ⟨p, q, hA0, hV, rfl, hfz, hnd⟩ := hW
  have hA : DataW.TrodAll enc Try.prog W 0 (fun _ => true) true Try.f7.params.toList args.toList ds p := hA0
  rw [Try.params7] at hA hval
  obtain ⟨v0, vs0, d0, ds0, p0, q0, hargs, rfl, rfl, h0, r0⟩ := trodAll_cons hA
  obtain ⟨v1, vs1, d1, ds1, p1, q1, rfl, rfl, rfl, h1, r1⟩ := trodAll_cons r0
  obtain ⟨rfl, rfl, rfl⟩ := trodAll_nil r1
  obtain rfl : args = #[v0, v1] := by cases args; simp_all
  obtain ⟨rfl, rfl⟩ := trodVars_none hV
  have k0 := h0
  have lt0 : ∀ x ∈ p0, x.block < W.heap.size := by obtain ⟨m, hm⟩ := k0; exact DataW.trod_lt m _ _ _ hm
  obtain ⟨cs0, rfl, hs0⟩ := okWide_struct Try.underlying40 (hval 0 40 v0 rfl rfl)
  obtain ⟨x0, hK0, n0, hF0⟩ : ∃ x : Q.S40, Q.k40.K W x cs0.toList ∧ ∃ n, Tv.Fine n x := by
    obtain ⟨m, hm⟩ := h0
    obtain ⟨x, h1, h2⟩ := Br.br40 m m (Nat.le_refl _) _ _ hm
    exact ⟨x, h1, m, h2⟩
  obtain ⟨A0, c0, B0, e0, he0, hl0, hC0, hm0, hD0⟩ := Q.k40_open hK0
  obtain rfl : cs0 = #[.int .i64 x0.f0, .int .i64 x0.f1.f0, .int .i64 x0.f1.f1, .string x0.f2, .slice A0 x0.f3.length c0, .slice B0 x0.f4.length e0] := by cases cs0; simpa using he0
  have k1 := h1
  have lt1 : ∀ x ∈ p1, x.block < W.heap.size := by obtain ⟨m, hm⟩ := k1; exact DataW.trod_lt m _ _ _ hm
  obtain ⟨cs1, rfl, hs1⟩ := okWide_struct Try.underlying40 (hval 1 40 v1 rfl rfl)
  obtain ⟨x1, hK1, n1, hF1⟩ : ∃ x : Q.S40, Q.k40.K W x cs1.toList ∧ ∃ n, Tv.Fine n x := by
    obtain ⟨m, hm⟩ := h1
    obtain ⟨x, h1, h2⟩ := Br.br40 m m (Nat.le_refl _) _ _ hm
    exact ⟨x, h1, m, h2⟩
  obtain ⟨A1, c1, B1, e1, he1, hl1, hC1, hm1, hD1⟩ := Q.k40_open hK1
  obtain rfl : cs1 = #[.int .i64 x1.f0, .int .i64 x1.f1.f0, .int .i64 x1.f1.f1, .string x1.f2, .slice A1 x1.f3.length c1, .slice B1 x1.f4.length e1] := by cases cs1; simpa using he1
  clear hA0 hval0 hsz0
  refine (Q.laws_FnExactValueSame.calls _ x0.f0 x0.f1.f0 x0.f1.f1 x0.f2 _ _ x0.f3 _ _ x0.f4 x1.f0 x1.f1.f0 x1.f1.f1 x1.f2 _ _ x1.f3 _ _ x1.f4 true W hC0 hl0 hD0 hm0 hC1 hl1 hD1 hm1 (Tv.FnExactValueSame _ _ hF0 _ _ hF1).choose_spec).mono fun e W' ⟨he, bel⟩ => ?_
  subst he
  exact ⟨_, rfl, _, _, _, [], _, [], hW', trodAll_mk1 (shut_bool Try.underlying4 _), (trodAll_cons_mk (Below.trod laidOut (by kernel_rfl) (of_decide_eq_true (by kernel_rfl)) k0 bel lt0) (trodAll_cons_mk (Below.trod laidOut (by kernel_rfl) (of_decide_eq_true (by kernel_rfl)) k1 bel lt1) trodAll_mk0)), rfl, bel.frame _, fun h => by cases h⟩
theorem over : Rows.fnExactValueSameRow.holds Try.pinned (OpenSpec.ofChange Rows.fnExactValueSameSpec) :=
  OpenClaim.holds_of_wide 7 Try.f7 rfl rfl rfl rfl rfl rfl rfl ⟨rfl, rfl, rfl, rfl, rfl⟩ rfl rfl rfl rfl rfl (by kernel_rfl) Try.func7 (by kernel_rfl)
    (of_decide_eq_true (by kernel_rfl)) (by unfold Func.isWrapper; first | (rw [if_pos (by decide +kernel)]; kernel_rfl) | (rw [if_neg (by decide +kernel)]; exact ⟨rfl, rfl⟩))
    (fun os started H enc _ => lifted os started H enc)
end Go.Proofs.Ytnneomlmienbaaa.fnExactValueSame
namespace Go.Proofs.Ytnneomlmienbaaa
theorem fnExactValueSame_holds : Rows.FnExactValueSameSaid := fnExactValueSame.over
#print axioms fnExactValueSame_holds
end Go.Proofs.Ytnneomlmienbaaa
