/-
 FnExactIniPut: whatever the arguments, the program answers as the law says; every input that can be read; the listed package variable starts as the program's text lays it, which the card ties.
-/
import Derived.Test.YthaceblepbkjjaaDoorRows
import Derived.Test.YthaceblepbkjjaaDoorTie
import Derived.Test.YthaceblepbkjjaaDoorCards
import Derived.Test.YthaceblepbkjjaaDoorBFnExactIniPutWw
import Derived.Test.YthaceblepbkjjaaDoorBFnExactIniPutBr
import Derived.Test.YthaceblepbkjjaaDoorBFnExactIniPutIn
import Derived.Test.YthaceblepbkjjaaDoorBFnExactIniPutq4
import Derived.WalkKit
import Derived.ProofKit
import Derived.OpenShut
import Derived.ShutString
import Derived.ChangeOld
import Derived.Below
import Derived.SizedLaws
import Derived.Lib.SmallJoins
import Derived.LaidMore
import Derived.OpenVars
import Derived.Stop.Joined
import Derived.SevenTiedAt
namespace Go.Proofs.YthaceblepbkjjaaDoor.fnExactIniPut
open Go.ChangeShapes Go.WideShapes Go.ChangeAt Go.RowKit Go.Joins Go.Proofs.YthaceblepbkjjaaDoorW.PrintWords Go.Proofs.YthaceblepbkjjaaDoorW.PrintLast
open Go.ChangeMaps (open_string shut_string)
set_option linter.unusedVariables false
set_option linter.unusedSimpArgs false
theorem own : ownKnob Tryd.prog.godebug = none := by kernel_rfl
set_option maxRecDepth 100000 in
theorem lifted (os : Os) (started : os.Started) (H : Type) (enc : TypeId × Value → H) :
  ReturnsInHanded {} Tryd.checked os 3 .any (fun w args => (Rows.fnExactIniPutSpec.pre enc Tryd.prog Tryd.f3 [] false w args ∧ laidMetH Tryd.prog Rows.fnExactIniPutRow.laid w) ∧ sizedMet enc Tryd.prog Tryd.f3 (OpenSpec.ofChange Rows.fnExactIniPutSpec) false w args) (Rows.fnExactIniPutSpec.post enc Tryd.prog Tryd.f3 false true false false) := by
 refine returnsInHanded_of_change_and (C := Tryd.checked) (X := fun w _ => laidMetH Tryd.prog Rows.fnExactIniPutRow.laid w) (fun _ _ _ hh h => h.of_heap hh) own started (by kernel_rfl) Tryd.func3
  (ChangeSpec.witness_shaped (enc := enc) (C := Tryd.checked) (os := os) (X := fun w _ => laidMetH Tryd.prog Rows.fnExactIniPutRow.laid w) false (World.doorLaid Tryd.prog 400 os) #[.agg #[.int .i64 0, .int .i64 0, .int .i64 0, .string ByteArray.empty, .slice none 0 0, .slice none 0 0]] 8 rfl (World.shaped_of_RefB (by kernel_rfl) (by kernel_rfl)) (by kernel_rfl) (by kernel_rfl) (by kernel_rfl) (Ww.door_met os _)) ?_
 intro W base args ds gs before hval0 hW _ _ hL _
 have hval : ∀ (j : Nat) t v, Tryd.f3.params[j]? = some t → args[j]? = some v → Value.okWide Tryd.prog W .any base t v := hval0
 have hW' := hW
 obtain ⟨p, q, hA0, hV, rfl, hfz, hnd⟩ := hW
 have hA : DataW.TrodAll enc Tryd.prog W 0 (fun _ => true) true Tryd.f3.params.toList args.toList ds p := hA0
 rw [Tryd.params3] at hA hval
 obtain ⟨v0, vs0, d0, ds0, p0, q0, hargs, rfl, rfl, h0, r0⟩ := trodAll_cons hA
 obtain ⟨rfl, rfl, rfl⟩ := trodAll_nil r0
 obtain rfl : args = #[v0] := by cases args; simp_all
 have hVs0 := hV
 obtain ⟨dW0, gs0, qW0, rfl, hVs1⟩ := Ww.vars_cons hVs0
 obtain ⟨rfl, _⟩ := trodVars_none hVs1
 have hC9 := Ww.of_laid (W := W) hL
 have k0 := h0
 have lt0 : ∀ x ∈ p0, x.block < W.heap.size := by obtain ⟨m, hm⟩ := k0; exact DataW.trod_lt m _ _ _ hm
 obtain ⟨cs0, rfl, hs0⟩ := okWide_struct Tryd.underlying27 (hval 0 27 v0 rfl rfl)
 obtain ⟨x0, hK0, n0, hF0⟩ : ∃ x : Q.S27, Q.k27.K W x cs0.toList ∧ ∃ n, Tv.Fine n x := by
  obtain ⟨m, hm⟩ := h0
  obtain ⟨x, h1, h2⟩ := Br.br27 m m (Nat.le_refl _) _ _ hm
  exact ⟨x, h1, m, h2⟩
 obtain ⟨A0, c0, B0, e0, he0, hl0, hC0, hm0, hD0⟩ := Q.k27_open hK0
 obtain rfl : cs0 = #[.int .i64 x0.f0, .int .i64 x0.f1.f0, .int .i64 x0.f1.f1, .string x0.f2, .slice A0 x0.f3.length c0, .slice B0 x0.f4.length e0] := by cases cs0; simpa using he0
 clear hA0 hval0
 refine (Q.laws_FnExactIniPut.calls _ x0.f0 x0.f1.f0 x0.f1.f1 x0.f2 _ _ x0.f3 _ _ x0.f4 _ 1 [Nm.words] _ 1 [1] true W hC0 hl0 hD0 hm0 hC9.1 (Nat.le_refl _) hC9.2 (Nat.le_refl _) rfl ⟨rfl, rfl⟩ (In.law _ _ hF0 _).at.choose_spec).mono fun e W' ⟨he, bel⟩ => ?_
 subst he
 exact ⟨_, rfl, _, _, _, [], _, _, hW', trodAll_mk1 (shut_bool Tryd.underlying4 _), (trodAll_cons_mk (Below.trod Ww.laidOut (by kernel_rfl) (of_decide_eq_true (by kernel_rfl)) k0 bel lt0) trodAll_mk0), Below.trodVars Ww.laidOut bel (by kernel_rfl) hV, bel.frame _, fun h => by cases h⟩
theorem over : Rows.fnExactIniPutRow.holds Tryd.pinned (OpenSpec.ofChange Rows.fnExactIniPutSpec) :=
 OpenClaim.holds_of_wide 3 Tryd.f3 rfl rfl rfl rfl rfl rfl rfl ⟨rfl, rfl, rfl, rfl, rfl⟩ rfl rfl rfl rfl rfl (by kernel_rfl) Tryd.func3 (by kernel_rfl)
  (of_decide_eq_true (by kernel_rfl)) (by unfold Func.isWrapper; first | (rw [if_pos (by decide +kernel)]; kernel_rfl) | (rw [if_neg (by decide +kernel)]; exact ⟨rfl, rfl⟩))
  (fun os started H enc _ => lifted os started H enc)
end Go.Proofs.YthaceblepbkjjaaDoor.fnExactIniPut
namespace Go.Proofs.YthaceblepbkjjaaDoor
theorem fnExactIniPut_holds : Rows.FnExactIniPutCardSaid :=
 Claim7.holds_tied_plain_at .later [] [.data, .data, .data, .widerDeep] true (true, "f638472a24195cfb5f996d941996172b1c64bffda4340440cda60e48d2353298") false
  fnExactIniPut.over (fun _ h => by cases h) (by kernel_rfl) (fun _ h => by cases h) fnExactIniPut_row_tie rfl ⟨rfl, rfl⟩ (by kernel_rfl) rfl
  (fun f fn hf hfn => by
   obtain rfl : f = 3 := Option.some.inj ((show Tryd.prog.funcNamed "loop.example/chancery/laws.FnExactIniPut" = some 3 by kernel_rfl).symm.trans hf) |>.symm
   obtain rfl : fn = Tryd.f3 := (Option.some.inj (Tryd.func3.symm.trans hfn)).symm
   exact ⟨by kernel_rfl, fun j t ht => by
    rw [Tryd.params3] at ht
    have hm : t ∈ [27] := by simpa using Array.mem_of_getElem? ht
    have hall : ([27].all fun u => !Tryd.prog.wantsStandIn u) = true := by kernel_rfl
    exact (show Tryd.prog.wantsStandIn t = false by simpa using List.all_eq_true.1 hall t hm)⟩)
  (by kernel_rfl)
#print axioms fnExactIniPut_holds
end Go.Proofs.YthaceblepbkjjaaDoor
