/-
  FnExactValueSize: whatever the arguments, the program answers as the reference does; every input that can be read; no further condition.
-/
import Derived.Test.YtnneomlmienbaaaRows
import Derived.Test.YtnneomlmienbaaaBFnExactValueSizeVs
import Derived.Test.YtnneomlmienbaaaBFnExactValueSizeBv
import Derived.Test.YtnneomlmienbaaaBFnExactValueSizeq5
import Derived.WalkKit
import Derived.ProofKit
import Derived.OpenShut
import Derived.ShutString
import Derived.ChangeOld
import Derived.Below
import Derived.SizedLaws
import Derived.Lib.SmallJoins
import Derived.Test.YtnneomlmienbaaaBFnExactValueSizeBr
namespace Go.Proofs.Ytnneomlmienbaaa.fnExactValueSize
open Go.ChangeShapes Go.WideShapes Go.ChangeAt Go.RowKit Go.Joins
open Go.ChangeMaps (open_string shut_string)
set_option linter.unusedVariables false
set_option linter.unusedSimpArgs false
theorem own : ownKnob Try.prog.godebug = none := by kernel_rfl
theorem laidOut : laidOutB Try.prog = true := by kernel_rfl
set_option maxRecDepth 100000 in
theorem lifted (os : Os) (started : os.Started) (H : Type) (enc : TypeId × Value → H) :
    ReturnsInHanded {} Try.checked os 6 .any (Rows.fnExactValueSizeSpec.pre6 enc Try.prog Try.f6 Rows.fnExactValueSizeRow.domain false) (Rows.fnExactValueSizeSpec.post enc Try.prog Try.f6 false true false false) := by
  refine returnsInHanded_of_change_sized (C := Try.checked) own started (by kernel_rfl) Try.func6
    (ChangeSpec.witness6 (enc := enc) (C := Try.checked) false ⟨#[], #[.agg #[.int .i64 0, .int .i64 0, .int .i64 0, .string ByteArray.empty, .slice none 0 0, .slice none 0 0]], []⟩ 8 (by kernel_rfl) (by kernel_rfl) (by kernel_rfl) (by kernel_rfl)) ?_
  intro W base args ds gs before hval0 hW hcnd hsz0 _
  have hval : ∀ (j : Nat) t v, Try.f6.params[j]? = some t → args[j]? = some v → Value.okWide Try.prog W .any base t v := hval0
  have hW' := hW
  obtain ⟨p, q, hA0, hV, rfl, hfz, hnd⟩ := hW
  have hA : DataW.TrodAll enc Try.prog W 0 (fun _ => true) true Try.f6.params.toList args.toList ds p := hA0
  rw [Try.params6] at hA hval
  obtain ⟨v0, vs0, d0, ds0, p0, q0, hargs, rfl, rfl, h0, r0⟩ := trodAll_cons hA
  obtain ⟨rfl, rfl, rfl⟩ := trodAll_nil r0
  obtain rfl : args = #[v0] := by cases args; simp_all
  obtain ⟨rfl, rfl⟩ := trodVars_none hV
  have k0 := h0
  have lt0 : ∀ x ∈ p0, x.block < W.heap.size := by obtain ⟨m, hm⟩ := k0; exact DataW.trod_lt m _ _ _ hm
  obtain ⟨cs0, rfl, hs0⟩ := okWide_struct Try.underlying40 (hval 0 40 v0 rfl rfl)
  obtain ⟨x0, hK0, n0, hF0⟩ : ∃ x : Q.S40, Q.k40.K W x cs0.toList ∧ ∃ n, Tv.Fine n x := by
    obtain ⟨m, hm⟩ := h0
    obtain ⟨x, h1, h2⟩ := Br.br40 m m (Nat.le_refl _) _ _ hm
    exact ⟨x, h1, m, h2⟩
  obtain ⟨A0, c0, B0, e0, he0, hl0, hC0, hm0, hD0⟩ := Q.k40_open hK0
  obtain rfl : cs0 = #[.int .i64 x0.f0, .int .i64 x0.f1.f0, .int .i64 x0.f1.f1, .string x0.f2, .slice A0 x0.f3.length c0, .slice B0 x0.f4.length e0] := by cases cs0; simpa using he0
  clear hA0 hval0 hsz0
  refine (Q.laws_FnExactValueSize.calls _ x0.f0 x0.f1.f0 x0.f1.f1 x0.f2 _ _ x0.f3 _ _ x0.f4 true W hC0 hl0 hD0 hm0 (Tv.FnExactValueSize _ _ hF0).choose_spec).mono fun e W' ⟨he, bel⟩ => ?_
  subst he
  exact ⟨_, rfl, _, _, _, [], _, [], hW', trodAll_mk1 (shut_bool Try.underlying4 _), (trodAll_cons_mk (Below.trod laidOut (by kernel_rfl) (of_decide_eq_true (by kernel_rfl)) k0 bel lt0) trodAll_mk0), rfl, bel.frame _, fun h => by cases h⟩
theorem over : Rows.fnExactValueSizeRow.holds Try.pinned (OpenSpec.ofChange Rows.fnExactValueSizeSpec) :=
  OpenClaim.holds_of_wide 6 Try.f6 rfl rfl rfl rfl rfl rfl rfl ⟨rfl, rfl, rfl, rfl, rfl⟩ rfl rfl rfl rfl rfl (by kernel_rfl) Try.func6 (by kernel_rfl)
    (of_decide_eq_true (by kernel_rfl)) (by unfold Func.isWrapper; first | (rw [if_pos (by decide +kernel)]; kernel_rfl) | (rw [if_neg (by decide +kernel)]; exact ⟨rfl, rfl⟩))
    (fun os started H enc _ => lifted os started H enc)
end Go.Proofs.Ytnneomlmienbaaa.fnExactValueSize
namespace Go.Proofs.Ytnneomlmienbaaa
theorem fnExactValueSize_holds : Rows.FnExactValueSizeSaid := fnExactValueSize.over
#print axioms fnExactValueSize_holds
end Go.Proofs.Ytnneomlmienbaaa
