/-
 FnValueCmp: whatever the arguments, the program answers as the law says; every input that can be read; the listed package variable starts as the program's text lays it, which the card ties.
-/
import Derived.Test.YtoajejdicfabmaaDoorTie
import Derived.Test.YtoajejdicfabmaaDoorCards
import Derived.Test.YtoajejdicfabmaaDoorBFnValueCmpWr
import Derived.Test.YtoajejdicfabmaaDoorBFnValueCmpCx
import Derived.Lib.SmallJoins
namespace Go.Proofs.YtoajejdicfabmaaDoor.fnValueCmp
open Go.ChangeShapes Go.WideShapes Go.ChangeAt Go.RowKit Go.Joins Go.Proofs.YtoajejdicfabmaaDoorW.PrintWords Go.Proofs.YtoajejdicfabmaaDoorW.PrintLast
open Go.ChangeMaps (open_string shut_string)
set_option linter.unusedVariables false
set_option linter.unusedSimpArgs false
theorem own : ownKnob Tryd.prog.godebug = none := by kernel_rfl
set_option maxRecDepth 100000 in
theorem lifted (os : Os) (started : os.Started) (H : Type) (enc : TypeId × Value → H) :
  ReturnsInHanded {} Tryd.checked os 5 .any (fun w args => (Rows.fnValueCmpSpec.pre enc Tryd.prog Tryd.f5 [] false w args ∧ laidMetH Tryd.prog Rows.fnValueCmpRow.laid w) ∧ sizedMet enc Tryd.prog Tryd.f5 (OpenSpec.ofChange Rows.fnValueCmpSpec) false w args) (Rows.fnValueCmpSpec.post enc Tryd.prog Tryd.f5 false true false false) := by
 refine returnsInHanded_of_change_and (C := Tryd.checked) (X := fun w _ => laidMetH Tryd.prog Rows.fnValueCmpRow.laid w) (fun _ _ _ hh h => h.of_heap hh) own started (by kernel_rfl) Tryd.func5
  (ChangeSpec.witness_shaped (enc := enc) (C := Tryd.checked) (os := os) (X := fun w _ => laidMetH Tryd.prog Rows.fnValueCmpRow.laid w) false (World.doorLaid Tryd.prog 400 os) #[.slice none 0 0, .slice none 0 0] 8 rfl (World.shaped_of_RefB (by kernel_rfl) (by kernel_rfl)) (by kernel_rfl) (by kernel_rfl) (by kernel_rfl) (Wr.door_met os _)) ?_
 intro W base args ds gs before hval0 hW _ _ hL _
 have hval : ∀ (j : Nat) t v, Tryd.f5.params[j]? = some t → args[j]? = some v → Value.okWide Tryd.prog W .any base t v := hval0
 have hW' := hW
 obtain ⟨p, q, hA0, hV, rfl, hfz, hnd⟩ := hW
 have hA : DataW.TrodAll enc Tryd.prog W 0 (fun _ => true) true Tryd.f5.params.toList args.toList ds p := hA0
 rw [Tryd.params5] at hA hval
 obtain ⟨v0, vs0, d0, ds0, p0, q0, hargs, rfl, rfl, h0, r0⟩ := trodAll_cons hA
 obtain ⟨v1, vs1, d1, ds1, p1, q1, rfl, rfl, rfl, h1, r1⟩ := trodAll_cons r0
 obtain ⟨rfl, rfl, rfl⟩ := trodAll_nil r1
 obtain rfl : args = #[v0, v1] := by cases args; simp_all
 have hVs0 := hV
 obtain ⟨dW0, gs0, qW0, rfl, hVs1⟩ := Wr.vars_cons hVs0
 obtain ⟨rfl, _⟩ := trodVars_none hVs1
 have hC9 := Wr.of_laid (W := W) hL
 have k0 := h0
 have lt0 : ∀ x ∈ p0, x.block < W.heap.size := by obtain ⟨m, hm⟩ := k0; exact DataW.trod_lt m _ _ _ hm
 obtain ⟨B0, b0, e0, rfl⟩ := okWide_slice Tryd.underlying37 (hval 0 37 v0 rfl rfl)
 obtain ⟨A0, c0, xs0, hcs0, hl0, hm0, hC0, hP0⟩ : ∃ A c xs, [Value.slice B0 b0 e0] = [.slice A xs.length c] ∧ xs.length ≤ c ∧ c ≤ 9223372036854775807 ∧ (Kd.int .u8).C W A xs.length xs ∧ ∀ x, x ∈ xs → (Lit.int .u8 x).wf = true := by
  obtain ⟨m, hm⟩ := h0
  refine Wr.br_slice (Kd.int .u8) _ Tryd.underlying37 (by kernel_rfl) (fun m' cs y hh => ?_) hm
  obtain ⟨z, rfl, _, hz⟩ := DataW.trod_int Tryd.underlying5 hh
  exact ⟨z, rfl, hz⟩
 simp only [List.cons.injEq, Value.slice.injEq, and_true] at hcs0
 obtain ⟨rfl, rfl, rfl⟩ := hcs0
 have k1 := h1
 have lt1 : ∀ x ∈ p1, x.block < W.heap.size := by obtain ⟨m, hm⟩ := k1; exact DataW.trod_lt m _ _ _ hm
 obtain ⟨B1, b1, e1, rfl⟩ := okWide_slice Tryd.underlying37 (hval 1 37 v1 rfl rfl)
 obtain ⟨A1, c1, xs1, hcs1, hl1, hm1, hC1, hP1⟩ : ∃ A c xs, [Value.slice B1 b1 e1] = [.slice A xs.length c] ∧ xs.length ≤ c ∧ c ≤ 9223372036854775807 ∧ (Kd.int .u8).C W A xs.length xs ∧ ∀ x, x ∈ xs → (Lit.int .u8 x).wf = true := by
  obtain ⟨m, hm⟩ := h1
  refine Wr.br_slice (Kd.int .u8) _ Tryd.underlying37 (by kernel_rfl) (fun m' cs y hh => ?_) hm
  obtain ⟨z, rfl, _, hz⟩ := DataW.trod_int Tryd.underlying5 hh
  exact ⟨z, rfl, hz⟩
 simp only [List.cons.injEq, Value.slice.injEq, and_true] at hcs1
 obtain ⟨rfl, rfl, rfl⟩ := hcs1
 clear hA0 hval0
 refine (Q.laws_FnValueCmp.calls _ _ _ xs0 _ _ xs1 _ 1 [Nm.words] true W hC0 hl0 hC1 hl1 hC9 (Nat.le_refl _) rfl (Cx.law _ _ (Dw.bytes_of hP0) (Dw.bytes_of hP1)).at.choose_spec).mono fun e W' ⟨he, bel⟩ => ?_
 subst he
 exact ⟨_, rfl, _, _, _, [], _, _, hW', trodAll_mk1 (shut_bool Tryd.underlying4 _), (trodAll_cons_mk (Below.trod Wr.laidOut (by kernel_rfl) (of_decide_eq_true (by kernel_rfl)) k0 bel lt0) (trodAll_cons_mk (Below.trod Wr.laidOut (by kernel_rfl) (of_decide_eq_true (by kernel_rfl)) k1 bel lt1) trodAll_mk0)), Below.trodVars Wr.laidOut bel (by kernel_rfl) hV, bel.frame _, fun h => by cases h⟩
theorem over : Rows.fnValueCmpRow.holds Tryd.pinned (OpenSpec.ofChange Rows.fnValueCmpSpec) :=
 OpenClaim.holds_of_wide 5 Tryd.f5 rfl rfl rfl rfl rfl rfl rfl ⟨rfl, rfl, rfl, rfl, rfl⟩ rfl rfl rfl rfl rfl (by kernel_rfl) Tryd.func5 (by kernel_rfl)
  (of_decide_eq_true (by kernel_rfl)) (by unfold Func.isWrapper; first | (rw [if_pos (by decide +kernel)]; kernel_rfl) | (rw [if_neg (by decide +kernel)]; exact ⟨rfl, rfl⟩))
  (fun os started H enc _ => lifted os started H enc)
end Go.Proofs.YtoajejdicfabmaaDoor.fnValueCmp
namespace Go.Proofs.YtoajejdicfabmaaDoor
theorem fnValueCmp_holds : Rows.FnValueCmpCardSaid :=
 Claim7.holds_tied_plain_at .later [] [.widerDeep] true (true, "48622c94dc73044a8128477cfc180b75b4585ab6f8ebd577eb18844b29b8fffa") false
  fnValueCmp.over (fun _ h => by cases h) (by kernel_rfl) (fun _ h => by cases h) fnValueCmp_row_tie rfl ⟨rfl, rfl⟩ (by kernel_rfl) rfl
  (fun f fn hf hfn => by
   obtain rfl : f = 5 := Option.some.inj ((show Tryd.prog.funcNamed "loop.example/chancery/laws.FnValueCmp" = some 5 by kernel_rfl).symm.trans hf) |>.symm
   obtain rfl : fn = Tryd.f5 := (Option.some.inj (Tryd.func5.symm.trans hfn)).symm
   exact ⟨by kernel_rfl, fun j t ht => by
    rw [Tryd.params5] at ht
    have hm : t ∈ [37, 37] := by simpa using Array.mem_of_getElem? ht
    have hall : ([37, 37].all fun u => !Tryd.prog.wantsStandIn u) = true := by kernel_rfl
    exact (show Tryd.prog.wantsStandIn t = false by simpa using List.all_eq_true.1 hall t hm)⟩)
  (by kernel_rfl)
#print axioms fnValueCmp_holds
end Go.Proofs.YtoajejdicfabmaaDoor
