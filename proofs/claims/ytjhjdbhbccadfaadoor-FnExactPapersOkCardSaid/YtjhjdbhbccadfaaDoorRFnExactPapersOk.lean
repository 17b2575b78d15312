/-
  FnExactPapersOk: whatever the arguments, the program answers as the law says; every input that can be read; the listed package variable starts as the program's text lays it, which the card ties.
-/
import Derived.Test.YtjhjdbhbccadfaaDoorRows
import Derived.Test.YtjhjdbhbccadfaaDoorTie
import Derived.Test.YtjhjdbhbccadfaaDoorCards
import Derived.Test.YtjhjdbhbccadfaaDoorWr
import Derived.Test.YtjhjdbhbccadfaaDoorNm
import Derived.Test.YtjhjdbhbccadfaaDoorNp
import Derived.Test.YtjhjdbhbccadfaaDoorQ5
import Derived.WalkKit
import Derived.ProofKit
import Derived.OpenShut
import Derived.ShutString
import Derived.ChangeOld
import Derived.Below
import Derived.SizedLaws
import Derived.Lib.SmallJoins
import Derived.LaidMore
import Derived.OpenVars
import Derived.Stop.Joined
import Derived.SevenTiedAt
namespace Go.Proofs.YtjhjdbhbccadfaaDoor.fnExactPapersOk
open Go.ChangeShapes Go.WideShapes Go.ChangeAt Go.RowKit Go.Joins Go.Proofs.YtjhjdbhbccadfaaDoorW.PrintWords Go.Proofs.YtjhjdbhbccadfaaDoorW.PrintLast
open Go.ChangeMaps (open_string shut_string)
set_option linter.unusedVariables false
set_option linter.unusedSimpArgs false
theorem own : ownKnob Tryd.prog.godebug = none := by kernel_rfl
set_option maxRecDepth 100000 in
theorem lifted (os : Os) (started : os.Started) (H : Type) (enc : TypeId × Value → H) :
    ReturnsInHanded {} Tryd.checked os 5 .any (fun w args => (Rows.fnExactPapersOkSpec.pre enc Tryd.prog Tryd.f5 [] false w args ∧ laidMetH Tryd.prog Rows.fnExactPapersOkRow.laid w) ∧ sizedMet enc Tryd.prog Tryd.f5 (OpenSpec.ofChange Rows.fnExactPapersOkSpec) false w args) (Rows.fnExactPapersOkSpec.post enc Tryd.prog Tryd.f5 false true false false) := by
  refine returnsInHanded_of_change_and (C := Tryd.checked) (X := fun w _ => laidMetH Tryd.prog Rows.fnExactPapersOkRow.laid w) (fun _ _ _ hh h => h.of_heap hh) own started (by kernel_rfl) Tryd.func5
    (ChangeSpec.witness_shaped (enc := enc) (C := Tryd.checked) (os := os) (X := fun w _ => laidMetH Tryd.prog Rows.fnExactPapersOkRow.laid w) false (World.doorLaid Tryd.prog 400 os) #[.slice none 0 0] 8 rfl (World.shaped_of_RefB (by kernel_rfl) (by kernel_rfl)) (by kernel_rfl) (by kernel_rfl) (by kernel_rfl) (Wr.door_met os _)) ?_
  intro W base args ds gs before hval0 hW _ _ hL _
  have hval : ∀ (j : Nat) t v, Tryd.f5.params[j]? = some t → args[j]? = some v → Value.okWide Tryd.prog W .any base t v := hval0
  have hW' := hW
  obtain ⟨p, q, hA0, hV, rfl, hfz, hnd⟩ := hW
  have hA : DataW.TrodAll enc Tryd.prog W 0 (fun _ => true) true Tryd.f5.params.toList args.toList ds p := hA0
  rw [Tryd.params5] at hA hval
  obtain ⟨v0, vs0, d0, ds0, p0, q0, hargs, rfl, rfl, h0, r0⟩ := trodAll_cons hA
  obtain ⟨rfl, rfl, rfl⟩ := trodAll_nil r0
  obtain rfl : args = #[v0] := by cases args; simp_all
  obtain ⟨g9, t9, cs9, f9, dW, pW, rfl, hg9, ht9, hv9, hd9, rfl⟩ := trodVars_one hV
  have hC9 := Wr.of_laid (W := W) hL
  have k0 := h0
  have lt0 : ∀ x ∈ p0, x.block < W.heap.size := by obtain ⟨m, hm⟩ := k0; exact DataW.trod_lt m _ _ _ hm
  obtain ⟨B0, b0, e0, rfl⟩ := okWide_slice Tryd.underlying26 (hval 0 26 v0 rfl rfl)
  obtain ⟨A0, c0, xs0, hcs0, hl0, hm0, hC0, hP0⟩ : ∃ A c xs, [Value.slice B0 b0 e0] = [.slice A xs.length c] ∧ xs.length ≤ c ∧ c ≤ 9223372036854775807 ∧ Q.k43.C W A xs.length xs ∧ ∀ x : Q.S43, x ∈ xs → x.f0.size ≤ maxLen ∧ x.f1.size ≤ maxLen := by
    obtain ⟨m, hm⟩ := h0
    refine Wr.br_slice Q.k43 _ Tryd.underlying26 (by kernel_rfl) (fun m' cs y hh => ?_) hm
    obtain ⟨ys, n', _, _, hl', hlen', hf'⟩ := DataW.trod_struct Tryd.underlying43 hh
    rw [show Tryd.prog.cellsOf 43 = 2 by kernel_rfl] at hl'
    match cs, hl' with
    | [c0, c1], _ =>
      match ys, hlen' with
      | [y0, y1], _ =>
        have g0 : DataW.trod enc Tryd.prog W 0 (fun _ => true) true n' 9 (List.take (Tryd.prog.cellsOf 9) [c0, c1]) = some y0 := hf' 0 _ rfl
        have g1 : DataW.trod enc Tryd.prog W 0 (fun _ => true) true n' 9 (List.take (Tryd.prog.cellsOf 9) [c1]) = some y1 := hf' 1 _ rfl
        rw [Wr.cells9] at g0 g1
        obtain ⟨s0, e0, _, z0⟩ := DataW.trod_string Tryd.underlying9 g0
        obtain ⟨s1, e1, _, z1⟩ := DataW.trod_string Tryd.underlying9 g1
        simp at e0 e1
        subst e0 e1
        exact ⟨⟨s0, s1⟩, Q.k43_mk _ _, z0, z1⟩
  simp only [List.cons.injEq, Value.slice.injEq, and_true] at hcs0
  obtain ⟨rfl, rfl, rfl⟩ := hcs0
  clear hA0 hval0
  refine (Q.laws_FnExactPapersOk.calls _ _ _ xs0 _ 1 [Nm.words] true W hC0 hl0 hC9 (Nat.le_refl _) rfl (Np.papers_ev _ (Nat.le_trans hl0 hm0) hP0).at.choose_spec).mono fun e W' ⟨he, bel⟩ => ?_
  subst he
  exact ⟨_, rfl, _, _, _, [], _, _, hW', trodAll_mk1 (shut_bool Tryd.underlying4 _), (trodAll_cons_mk (Below.trod Wr.laidOut (by kernel_rfl) (of_decide_eq_true (by kernel_rfl)) k0 bel lt0) trodAll_mk0), Below.trodVars Wr.laidOut bel (by kernel_rfl) hV, bel.frame _, fun h => by cases h⟩
theorem over : Rows.fnExactPapersOkRow.holds Tryd.pinned (OpenSpec.ofChange Rows.fnExactPapersOkSpec) :=
  OpenClaim.holds_of_wide 5 Tryd.f5 rfl rfl rfl rfl rfl rfl rfl ⟨rfl, rfl, rfl, rfl, rfl⟩ rfl rfl rfl rfl rfl (by kernel_rfl) Tryd.func5 (by kernel_rfl)
    (of_decide_eq_true (by kernel_rfl)) (by unfold Func.isWrapper; first | (rw [if_pos (by decide +kernel)]; kernel_rfl) | (rw [if_neg (by decide +kernel)]; exact ⟨rfl, rfl⟩))
    (fun os started H enc _ => lifted os started H enc)
end Go.Proofs.YtjhjdbhbccadfaaDoor.fnExactPapersOk
namespace Go.Proofs.YtjhjdbhbccadfaaDoor
theorem fnExactPapersOk_holds : Rows.FnExactPapersOkCardSaid :=
  Claim7.holds_tied_plain_at .later [] [.widerDeep] true (true, "2c923a288b74f7c0191a3f549a8262e16aff7fd575908b18099928763319b26b") false
    fnExactPapersOk.over (fun _ h => by cases h) (by kernel_rfl) (fun _ h => by cases h) fnExactPapersOk_row_tie rfl ⟨rfl, rfl⟩ (by kernel_rfl) rfl
    (fun f fn hf hfn => by
      obtain rfl : f = 5 := Option.some.inj ((show Tryd.prog.funcNamed "loop.example/chancery/laws.FnExactPapersOk" = some 5 by kernel_rfl).symm.trans hf) |>.symm
      obtain rfl : fn = Tryd.f5 := (Option.some.inj (Tryd.func5.symm.trans hfn)).symm
      exact ⟨by kernel_rfl, fun j t ht => by
        rw [Tryd.params5] at ht
        have hm : t ∈ [26] := by simpa using Array.mem_of_getElem? ht
        have hall : ([26].all fun u => !Tryd.prog.wantsStandIn u) = true := by kernel_rfl
        exact (show Tryd.prog.wantsStandIn t = false by simpa using List.all_eq_true.1 hall t hm)⟩)
    (by kernel_rfl)
#print axioms fnExactPapersOk_holds
end Go.Proofs.YtjhjdbhbccadfaaDoor
