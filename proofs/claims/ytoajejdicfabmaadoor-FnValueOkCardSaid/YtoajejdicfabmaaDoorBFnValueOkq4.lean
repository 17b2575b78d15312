-- laid by a program of this session (wip/tools) out of the translation; Lean checks it
import Derived.Test.YtoajejdicfabmaaDoorBFnValueOkq3
namespace Go.Proofs.YtoajejdicfabmaaDoor.Q
open Go.RowKit Go.Proofs.YtoajejdicfabmaaDoorW.PrintWords Go.Proofs.YtoajejdicfabmaaDoorW.PrintLast Go.Proofs.YtoajejdicfabmaaDoorW.PrintMore Go.Proofs.YtoajejdicfabmaaDoorX
attribute [local go_sem] max2_int min2_int max_two min_two max_three min_three max_four min_four   -- for this text's walks alone
set_option linter.unusedVariables false
set_option linter.unusedSimpArgs false

mutual
def laws_FnValueOk.j0 : Nat → Bool → Bool → List (List ByteArray) → Int → Int → Int → ByteArray → List (S33) → List ByteArray → Option (Bool)
 | 0, _, _, _, _, _, _, _, _, _ => none
 | k + 1, x4, x24, x999, x385000, x385001, x385002, x385003, x385004, x385005 => if x24 = true then (none) else (laws_FnValueOk.l0 k x4 1 0 x999 x385000 x385001 x385002 x385003 x385004 x385005)
def laws_FnValueOk.l0 : Nat → Bool → Int → Int → List (List ByteArray) → Int → Int → Int → ByteArray → List (S33) → List ByteArray → Option (Bool)
 | 0, _, _, _, _, _, _, _, _, _, _ => none
 | k + 1, x4, x5, x6, x999, x385000, x385001, x385002, x385003, x385004, x385005 => if x6 < (x385004.length : Int) then (if 0 ≤ x6 then ((impl_ValueSize.f k ((rd_T33 x385004 x6).f0) ((rd_T33 x385004 x6).f1.f0) ((rd_T33 x385004 x6).f1.f1) ((rd_T33 x385004 x6).f2) ((rd_T33 x385004 x6).f3) ((rd_T33 x385004 x6).f4)).bind fun t391 => (if x4 = true then ((impl_ValueOk.f k ((rd_T33 x385004 x6).f0) ((rd_T33 x385004 x6).f1.f0) ((rd_T33 x385004 x6).f1.f1) ((rd_T33 x385004 x6).f2) ((rd_T33 x385004 x6).f3) ((rd_T33 x385004 x6).f4) x999).bind fun t393 => (if t393 = true then (laws_FnValueOk.l0 k x4 (wrap64 (x5 + t391)) (wrap64 (x6 + 1)) x999 x385000 x385001 x385002 x385003 x385004 x385005) else (none))) else (laws_FnValueOk.l0 k x4 (wrap64 (x5 + t391)) (wrap64 (x6 + 1)) x999 x385000 x385001 x385002 x385003 x385004 x385005))) else (none)) else ((impl_ValueSize.f k x385000 x385001 x385002 x385003 x385004 x385005).bind fun t389 => (if t389 = x5 then (if x4 = true then (some (decide (x5 ≤ 200))) else (some true)) else (none)))
end
def laws_FnValueOk.f (k : Nat) (l0 : List Int) (l1 : List (List ByteArray)) : Option (Bool) := if (l0.length : Int) > 1048576 then (some true) else ((spec_DrawValueOk.f k l0).bind fun bt374 => ((impl_ValueOk.f k bt374.1 bt374.2.1 bt374.2.2.1 bt374.2.2.2.1 bt374.2.2.2.2.1 bt374.2.2.2.2.2 l1).bind fun t385 => ((spec_ValueOk.f k bt374.1 bt374.2.1 bt374.2.2.1 bt374.2.2.2.1 bt374.2.2.2.2.1 bt374.2.2.2.2.2).bind fun t386 => (if (t385 != t386) = true then (laws_FnValueOk.j0 k t385 true l1 bt374.1 bt374.2.1 bt374.2.2.1 bt374.2.2.2.1 bt374.2.2.2.2.1 bt374.2.2.2.2.2) else ((impl_ValueSize.f k bt374.1 bt374.2.1 bt374.2.2.1 bt374.2.2.2.1 bt374.2.2.2.2.1 bt374.2.2.2.2.2).bind fun t387 => ((spec_ValueSize.f k bt374.1 bt374.2.1 bt374.2.2.1 bt374.2.2.2.1 bt374.2.2.2.2.1 bt374.2.2.2.2.2).bind fun t388 => (laws_FnValueOk.j0 k t385 (t387 != t388) l1 bt374.1 bt374.2.1 bt374.2.2.1 bt374.2.2.2.1 bt374.2.2.2.2.1 bt374.2.2.2.2.2)))))))
theorem laws_FnValueOk.mono_l : ∀ k, (∀ y0 y1 y2 y3 y4 y5 y6 y7 y8, LeO (laws_FnValueOk.j0 k y0 y1 y2 y3 y4 y5 y6 y7 y8) (laws_FnValueOk.j0 (k + 1) y0 y1 y2 y3 y4 y5 y6 y7 y8)) ∧ (∀ y0 y1 y2 y3 y4 y5 y6 y7 y8 y9, LeO (laws_FnValueOk.l0 k y0 y1 y2 y3 y4 y5 y6 y7 y8 y9) (laws_FnValueOk.l0 (k + 1) y0 y1 y2 y3 y4 y5 y6 y7 y8 y9))
 | 0 => ⟨fun _ _ _ _ _ _ _ _ _ r h => by simp [laws_FnValueOk.j0] at h, fun _ _ _ _ _ _ _ _ _ _ r h => by simp [laws_FnValueOk.l0] at h⟩
 | k + 1 => by
  obtain ⟨ih0, ih1⟩ := laws_FnValueOk.mono_l k
  refine ⟨?_, ?_⟩
  ·intro y0 y1 y2 y3 y4 y5 y6 y7 y8
   unfold laws_FnValueOk.j0
   repeat' first
   | (with_reducible exact ih0 _ _ _ _ _ _ _ _ _)
   | (with_reducible exact ih1 _ _ _ _ _ _ _ _ _ _)
   | (with_reducible exact impl_ValueOk.mono _ _ _ _ _ _ _ _)
   | (with_reducible exact impl_ValueSize.mono _ _ _ _ _ _ _)
   | (with_reducible exact spec_DrawValueOk.mono _ _)
   | (with_reducible exact spec_ValueOk.mono _ _ _ _ _ _ _)
   | (with_reducible exact spec_ValueSize.mono _ _ _ _ _ _ _)
   | (with_reducible exact LeO.refl _)
   | (with_reducible exact LeO.none _)
   | (with_reducible refine LeO.ite ?_ ?_)
   | (with_reducible refine LeO.bind ?_ (fun _ => ?_))
   | exact ih0 _ _ _ _ _ _ _ _ _
   | exact ih1 _ _ _ _ _ _ _ _ _ _
  ·intro y0 y1 y2 y3 y4 y5 y6 y7 y8 y9
   unfold laws_FnValueOk.l0
   repeat' first
   | (with_reducible exact ih0 _ _ _ _ _ _ _ _ _)
   | (with_reducible exact ih1 _ _ _ _ _ _ _ _ _ _)
   | (with_reducible exact impl_ValueOk.mono _ _ _ _ _ _ _ _)
   | (with_reducible exact impl_ValueSize.mono _ _ _ _ _ _ _)
   | (with_reducible exact spec_DrawValueOk.mono _ _)
   | (with_reducible exact spec_ValueOk.mono _ _ _ _ _ _ _)
   | (with_reducible exact spec_ValueSize.mono _ _ _ _ _ _ _)
   | (with_reducible exact LeO.refl _)
   | (with_reducible exact LeO.none _)
   | (with_reducible refine LeO.ite ?_ ?_)
   | (with_reducible refine LeO.bind ?_ (fun _ => ?_))
   | exact ih0 _ _ _ _ _ _ _ _ _
   | exact ih1 _ _ _ _ _ _ _ _ _ _
theorem laws_FnValueOk.mono : ∀ a0 a1 k, LeO (laws_FnValueOk.f k a0 a1) (laws_FnValueOk.f (k + 1) a0 a1) := by
 intro a0 a1 k
 obtain ⟨ih0, ih1⟩ := laws_FnValueOk.mono_l k
 unfold laws_FnValueOk.f
 repeat' first
   | (with_reducible exact ih0 _ _ _ _ _ _ _ _ _)
   | (with_reducible exact ih1 _ _ _ _ _ _ _ _ _ _)
   | (with_reducible exact impl_ValueOk.mono _ _ _ _ _ _ _ _)
   | (with_reducible exact impl_ValueSize.mono _ _ _ _ _ _ _)
   | (with_reducible exact spec_DrawValueOk.mono _ _)
   | (with_reducible exact spec_ValueOk.mono _ _ _ _ _ _ _)
   | (with_reducible exact spec_ValueSize.mono _ _ _ _ _ _ _)
   | (with_reducible exact LeO.refl _)
   | (with_reducible exact LeO.none _)
   | (with_reducible refine LeO.ite ?_ ?_)
   | (with_reducible refine LeO.bind ?_ (fun _ => ?_))
   | exact ih0 _ _ _ _ _ _ _ _ _
   | exact ih1 _ _ _ _ _ _ _ _ _ _
def laws_FnValueOk.T5 : Bool × List (List Nat × List Nat) := (true, [([], []), ([], []), ([1], [1]), ([0, 2], [0, 2]), ([3, 2], [3]), ([4], [4]), ([5, 4, 4], [4, 5]), ([4], [4]), ([7, 6, 4], [4, 7]), ([6, 8, 4], [4, 6, 8]), ([4, 9], [4, 9])])
def laws_FnValueOk.B5 : List Nat := [0, 0, 2, 7, 15, 31, 63, 31, 255, 511, 1023]
theorem laws_FnValueOk.tab5 : rtab .any (opsOf Tryd.f4 5) = laws_FnValueOk.T5 := by kernel_rfl
theorem laws_FnValueOk.bits5 : waitsOk laws_FnValueOk.T5.2 laws_FnValueOk.B5 = true := by kernel_rfl
set_option maxHeartbeats 8000000 in
set_option maxRecDepth 100000 in
theorem laws_FnValueOk.calls (k : Nat) (A0 : Option Addr) (c0 : Nat) (l0 : List Int) (A1 : Option Addr) (c1 : Nat) (l1 : List (List ByteArray)) (r : Bool) (w : World) (hr0 : Kd.C (Kd.int .u8) w A0 l0.length l0) (hc0 : l0.length ≤ c0) (hr1 : Kd.C (Kd.slice 9 Kd.string) w A1 l1.length l1) (hc1 : l1.length ≤ c1) (hg1 : A1 = some ⟨0, 0, none⟩) (h : laws_FnValueOk.f k l0 l1 = some r) :
  Calls Tryd.prog 4 #[.slice A0 l0.length c0] w fun e w' => e = .returned (.bool r) ∧ Below w.heap.size w w' := by
 have hu33 := Tryd.underlying33
 have HR0 := zA hr0
 have HC0 := zA hc0
 clear hr0 hc0
 have HG1 := zA hg1
 clear hg1
 have HR1 := zA hr1
 have HC1 := zA hc1
 clear hr1 hc1
 have HB := zA (yG w.heap.size w)
 have H : (if (l0.length : Int) > 1048576 then (some true) else ((spec_DrawValueOk.f k l0).bind fun bt374 => ((impl_ValueOk.f k bt374.1 bt374.2.1 bt374.2.2.1 bt374.2.2.2.1 bt374.2.2.2.2.1 bt374.2.2.2.2.2 l1).bind fun t385 => ((spec_ValueOk.f k bt374.1 bt374.2.1 bt374.2.2.1 bt374.2.2.2.1 bt374.2.2.2.2.1 bt374.2.2.2.2.2).bind fun t386 => (if (t385 != t386) = true then (laws_FnValueOk.j0 k t385 true l1 bt374.1 bt374.2.1 bt374.2.2.1 bt374.2.2.2.1 bt374.2.2.2.2.1 bt374.2.2.2.2.2) else ((impl_ValueSize.f k bt374.1 bt374.2.1 bt374.2.2.1 bt374.2.2.2.1 bt374.2.2.2.2.1 bt374.2.2.2.2.2).bind fun t387 => ((spec_ValueSize.f k bt374.1 bt374.2.1 bt374.2.2.1 bt374.2.2.2.1 bt374.2.2.2.2.1 bt374.2.2.2.2.2).bind fun t388 => (laws_FnValueOk.j0 k t385 (t387 != t388) l1 bt374.1 bt374.2.1 bt374.2.2.1 bt374.2.2.2.1 bt374.2.2.2.2.1 bt374.2.2.2.2.2)))))))) = some r := h
 clear h
 by_cases c3 : (l0.length : Int) > 1048576
 ·rw [if_pos c3] at H
  have c3b0 : decide (1048576 < (l0.length : Int)) = true := yD c3
  have c3b1 : decide (1048576 < l0.length) = true := yD (by omega)
  clear c3
  obtain rfl := yF H
  go_enter Tryd.func4, Tryd.ntmps4
  go_wp2
  go_ret
  exact ⟨apE, apA⟩
 ·rw [if_neg c3] at H
  have c3b0 : decide (1048576 < (l0.length : Int)) = false := decide_eq_false c3
  have c3b1 : decide (1048576 < l0.length) = false := decide_eq_false (by omega)
  clear c3
  replace H := Option.bind_eq_some_iff.mp H
  obtain ⟨⟨t374, t375, t376, t377, t378, t381⟩, A40, H⟩ := H
  have A4 := zA A40
  clear A40
  replace H := Option.bind_eq_some_iff.mp H
  obtain ⟨t385, A50, H⟩ := H
  have A5 := zA A50
  clear A50
  have HC6 := zA H
  clear H
  go_enter Tryd.func4, Tryd.ntmps4
  go_upto_region 5 with (first | ((with_reducible refine zV (f := 11) rfl ?_); refine goesL_ (some 11) rfl rfl Tryd.func11 (by kernel_rfl) rfl #[.slice A0 l0.length c0] rfl apD ?_; (with_reducible refine (spec_DrawValueOk.calls k _ _ l0 t374 t375 t376 t377 t378 t381 _ ?side1 ?side2 A4.out).mono ?_); (case side1 => repeat (first | exact HR0.out | (with_reducible refine Kd.C_alloc ?_ _) | (with_reducible refine Kd.C_drewN ?_ _) | (with_reducible refine Kd.C_drew ?_))); (case side2 => exact HC0.out); rintro e w7 ⟨v379, v382, rfl, ho0, ho1, hb⟩; refine ⟨_, rfl, ?_⟩; have HO380 := zA (Kd.V_lower (Kd.V_mono (ok' := fun k_ => some k_ ≠ (v382 : Value).ownBlock) ho0 (fun k_ hk_ => hk_.2)) (zR apA)); have HO383 := zA (Kd.R_lower (Kd.R_mono (ok' := fun k_ => True) ho1 (fun _ hk_ => trivial)) (zR apA)); replace HB := zA (zQ apA hb); (try clear hb); (try clear hb2); (try clear hk); (try clear hi); (try clear ho0); (try clear ho1)) | ((with_reducible refine zT (N := 3) rfl ?_); refine zW ?hg (N := 3) ?hd (cs := #[.int .i64 0, .int .i64 0, .int .i64 0, .string (⟨#[]⟩ : ByteArray), .slice none 0 0, .slice none 0 0]) (t := 33) ?hr ?_; (case hd => rfl); (case hg => rfl); (case hr => first | (go_simp; done) | (go_simp; rfl)); intro gb384 hg w8 hbox hb; replace HO380 := zA (Kd.V_below (Kd.V_elderB (vwV HO380.out) gb384 (Nat.le_of_eq hg.symm)) hb); replace HO383 := zA (Kd.R_below (vwR HO383.out) hb); have BK384 := zA (hbox); have GW384 := zA ((by rw [hg]; exact (zR apA) : w.heap.size ≤ gb384)); have GE384 := zA ((by rw [hg]; exact (zR apA) : w.heap.size ≤ gb384)); replace HB := zA (zQ apA hb); clear hb hbox hg; obtain ⟨hcz9_0, hcz9_1, hcz9_2, hcz9_3, hcz9_4, hcz9_5, hfz9_0, hfz9_1, hfz9_2, hfz9_3, hfz9_4, hfz9_5⟩ := zb6 BK384.out; obtain ⟨Ao10, co10, eo10⟩ := Kd.V_slice HO380.out; subst eo10; obtain ⟨Ao11, co11, eo11⟩ := Kd.R_slice HO383.out; subst eo11) | ((with_reducible refine zV (f := 9) rfl ?_); refine goesL_ (some 13) rfl rfl Tryd.func9 (by kernel_rfl) rfl #[.agg #[.int .i64 t374, .int .i64 t375, .int .i64 t376, .string t377, .slice Ao10 t378.length co10, .slice Ao11 t381.length co11]] rfl apD ?_; (with_reducible refine (impl_ValueOk.calls k t374 t375 t376 t377 _ _ t378 _ _ t381 A1 c1 l1 t385 _ ?side1 ?side2 ?side3 ?side4 ?side5 ?side6 ?side7 A5.out).mono ?_); (case side1 => refine (Kd.V_reads' (e := 33) (base := w.heap.size) (ok := fun k_ => (zn (.slice Ao11 t381.length co11) k_ ∧ k_ ≠ gb384)) (n := t378.length) (c := co10) ?_).2.2; exact (by (with_reducible repeat (first | apply Kd.V_alloc | apply Kd.V_drewN | apply Kd.V_drew)); exact (Kd.V_mono (Kd.V_far (p := ⟨gb384, 5, none⟩) (Kd.V_far (p := ⟨gb384, 4, none⟩) (Kd.V_far (p := ⟨gb384, 3, none⟩) (Kd.V_far (p := ⟨gb384, 2, none⟩) (Kd.V_far (p := ⟨gb384, 1, none⟩) (Kd.V_far (p := ⟨gb384, 0, none⟩) (Kd.V_mono HO380.out (fun k_ hk => (⟨hk, hk.2⟩ : _ ∧ k_ ≠ gb384))) (fun _ hk => hk.2) (.int .i64 t374)) (fun _ hk => hk.2) (.int .i64 t375)) (fun _ hk => hk.2) (.int .i64 t376)) (fun _ hk => hk.2) (.string t377)) (fun _ hk => hk.2) (.slice Ao10 t378.length co10)) (fun _ hk => hk.2) (.slice Ao11 t381.length co11)) (fun _ h_ => h_.1)))); (case side2 => exact (Kd.V_reads' HO380.out).2.1); (case side3 => refine (Kd.R_reads' (e := 9) (base := w.heap.size) (ok := fun k_ => True) (n := t381.length) (c := co11) ?_).2.2; exact (by (with_reducible repeat (first | apply Kd.R_alloc | apply Kd.R_drewN | apply Kd.R_drew)); exact (Kd.R_mono (Kd.R_far (p := ⟨gb384, 5, none⟩) (Kd.R_far (p := ⟨gb384, 4, none⟩) (Kd.R_far (p := ⟨gb384, 3, none⟩) (Kd.R_far (p := ⟨gb384, 2, none⟩) (Kd.R_far (p := ⟨gb384, 1, none⟩) (Kd.R_far (p := ⟨gb384, 0, none⟩) (Kd.R_types HO383.out BK384.out (by decide)) (fun _ hk => hk.2) (.int .i64 t374)) (fun _ hk => hk.2) (.int .i64 t375)) (fun _ hk => hk.2) (.int .i64 t376)) (fun _ hk => hk.2) (.string t377)) (fun _ hk => hk.2) (.slice Ao10 t378.length co10)) (fun _ hk => hk.2) (.slice Ao11 t381.length co11)) (fun _ h_ => h_.1)))); (case side4 => exact (Kd.R_reads' HO383.out).2.1); (case side5 => exact Kd.C_below HR1.out apg); (case side6 => exact HC1.out); (case side7 => exact HG1.out); rintro e w12 ⟨rfl, hb⟩; refine ⟨_, rfl, ?_⟩; replace HO380 := zA (Kd.V_below (by (with_reducible repeat (first | apply Kd.V_alloc | apply Kd.V_drewN | apply Kd.V_drew)); exact (Kd.V_mono (Kd.V_far (p := ⟨gb384, 5, none⟩) (Kd.V_far (p := ⟨gb384, 4, none⟩) (Kd.V_far (p := ⟨gb384, 3, none⟩) (Kd.V_far (p := ⟨gb384, 2, none⟩) (Kd.V_far (p := ⟨gb384, 1, none⟩) (Kd.V_far (p := ⟨gb384, 0, none⟩) (Kd.V_mono HO380.out (fun k_ hk => (⟨hk, hk.2⟩ : _ ∧ k_ ≠ gb384))) (fun _ hk => hk.2) (.int .i64 t374)) (fun _ hk => hk.2) (.int .i64 t375)) (fun _ hk => hk.2) (.int .i64 t376)) (fun _ hk => hk.2) (.string t377)) (fun _ hk => hk.2) (.slice Ao10 t378.length co10)) (fun _ hk => hk.2) (.slice Ao11 t381.length co11)) (fun _ h_ => h_.1))) hb); replace HO383 := zA (Kd.R_below (by (with_reducible repeat (first | apply Kd.R_alloc | apply Kd.R_drewN | apply Kd.R_drew)); exact (Kd.R_mono (Kd.R_far (p := ⟨gb384, 5, none⟩) (Kd.R_far (p := ⟨gb384, 4, none⟩) (Kd.R_far (p := ⟨gb384, 3, none⟩) (Kd.R_far (p := ⟨gb384, 2, none⟩) (Kd.R_far (p := ⟨gb384, 1, none⟩) (Kd.R_far (p := ⟨gb384, 0, none⟩) (Kd.R_types HO383.out BK384.out (by decide)) (fun _ hk => hk.2) (.int .i64 t374)) (fun _ hk => hk.2) (.int .i64 t375)) (fun _ hk => hk.2) (.int .i64 t376)) (fun _ hk => hk.2) (.string t377)) (fun _ hk => hk.2) (.slice Ao10 t378.length co10)) (fun _ hk => hk.2) (.slice Ao11 t381.length co11)) (fun _ h_ => h_.1))) hb); replace BK384 := zA (zP (g := gb384) (o := .cells #[.int .i64 t374, .int .i64 t375, .int .i64 t376, .string t377, .slice Ao10 t378.length co10, .slice Ao11 t381.length co11] 33 (0, 0)) (by (with_reducible repeat (first | refine zB ?_ _ | refine zD ?_ | refine zC ?_ _)); refine blk_put (cs := #[.int .i64 t374, .int .i64 t375, .int .i64 t376, .string t377, .slice Ao10 t378.length co10, .slice none 0 0]) ?_ 5 _ rfl; (with_reducible repeat (first | refine zB ?_ _ | refine zD ?_ | refine zC ?_ _)); refine blk_put (cs := #[.int .i64 t374, .int .i64 t375, .int .i64 t376, .string t377, .slice none 0 0, .slice none 0 0]) ?_ 4 _ rfl; (with_reducible repeat (first | refine zB ?_ _ | refine zD ?_ | refine zC ?_ _)); refine blk_put (cs := #[.int .i64 t374, .int .i64 t375, .int .i64 t376, .string (⟨#[]⟩ : ByteArray), .slice none 0 0, .slice none 0 0]) ?_ 3 _ rfl; (with_reducible repeat (first | refine zB ?_ _ | refine zD ?_ | refine zC ?_ _)); refine blk_put (cs := #[.int .i64 t374, .int .i64 t375, .int .i64 0, .string (⟨#[]⟩ : ByteArray), .slice none 0 0, .slice none 0 0]) ?_ 2 _ rfl; (with_reducible repeat (first | refine zB ?_ _ | refine zD ?_ | refine zC ?_ _)); refine blk_put (cs := #[.int .i64 t374, .int .i64 0, .int .i64 0, .string (⟨#[]⟩ : ByteArray), .slice none 0 0, .slice none 0 0]) ?_ 1 _ rfl; (with_reducible repeat (first | refine zB ?_ _ | refine zD ?_ | refine zC ?_ _)); refine blk_put (cs := #[.int .i64 0, .int .i64 0, .int .i64 0, .string (⟨#[]⟩ : ByteArray), .slice none 0 0, .slice none 0 0]) ?_ 0 _ rfl; (with_reducible repeat (first | refine zB ?_ _ | refine zD ?_ | refine zC ?_ _)); exact BK384.out) hb); replace HB := zA (zQ apg hb); (try clear hb); (try clear hb2); (try clear hk); (try clear hi)))
  (try simp only [Act.put, zL, zM, zN])
  go_cut [24] (fun v24 wc => ∃ (kq : Nat) (x24_5 : Bool), v24 = .bool x24_5 ∧ Aside0 (laws_FnValueOk.j0 kq t385 x24_5 l1 t374 t375 t376 t377 t378 t381 = some r) ∧ Aside0 (kq ≤ k) ∧ Aside0 (Kd.V k33 33 wc w.heap.size (fun k_ => some k_ ≠ ((.slice Ao11 t381.length co11) : Value).ownBlock ∧ k_ ≠ gb384) (.slice Ao10 t378.length co10) t378) ∧ Aside0 (Kd.R Kd.string 9 wc w.heap.size (fun _ => True) (.slice Ao11 t381.length co11) t381) ∧ Aside0 (wc.heap[gb384]? = some (.cells #[.int .i64 t374, .int .i64 t375, .int .i64 t376, .string t377, (.slice Ao10 t378.length co10), (.slice Ao11 t381.length co11)] 33 (0, 0))) ∧ Aside0 (Below w.heap.size w wc))
  case first =>
   have H := HC6.out
   clear HC6
   replace H := Option.bind_eq_some_iff.mp H
   obtain ⟨t386, A130, H⟩ := H
   have A13 := zA A130
   clear A130
   by_cases c14 : (t385 != t386) = true
   ·rw [if_pos c14] at H
    have c14b0 : (t385 != t386) = true := c14
    (try (have c14b1 : decide (t385 = t386) = false := by simpa using c14))
    (try (have c14b2 : (t385 == t386) = false := by simpa using c14))
    (try (have c14b3 : ¬ (t385 = t386) := by simpa using c14))
    clear c14
    (first | rw [c14b0] | (simp only [i64_w, i32_w]; rw [c14b0]) | skip)
    have H' := zA H
    clear H
    try go_wp2
    replace HO380 := zA (Kd.V_drew HO380.out)
    replace HO383 := zA (Kd.R_drew HO383.out)
    replace BK384 := zA (zD BK384.out)
    replace HB := zA (zF HB.out)
    refine start_ (n := 11) (S := fun w' => w'.cell? ⟨gb384, 0, none⟩ = some (.int .i64 t374) ∧ w'.cell? ⟨gb384, 1, none⟩ = some (.int .i64 t375) ∧ w'.cell? ⟨gb384, 2, none⟩ = some (.int .i64 t376) ∧ w'.cell? ⟨gb384, 3, none⟩ = some (.string t377) ∧ w'.cell? ⟨gb384, 4, none⟩ = some (.slice Ao10 t378.length co10) ∧ w'.cell? ⟨gb384, 5, none⟩ = some (.slice Ao11 t381.length co11)) (ds := []) #[false, false, false, false, false, false, false, false, false, false, false] (by kernel_rfl) rfl rfl ⟨(zJ BK384.out 0).trans rfl, (zJ BK384.out 1).trans rfl, (zJ BK384.out 2).trans rfl, (zJ BK384.out 3).trans rfl, (zJ BK384.out 4).trans rfl, (zJ BK384.out 5).trans rfl⟩ (fun hHeld => ?_); refine with_tabW laws_FnValueOk.tab5 laws_FnValueOk.bits5 (fun HT_ HW_ => ?_)
    generalize w12.drew = w15 at HO380 HO383 BK384 HB hHeld ⊢
    refine pure_ (i := 0) (N := some 14) (v := ?_) (a' := ?_) #[true, false, false, false, false, false, false, false, false, false, false] rfl rfl (any_of HT_.out (by kernel_rfl)) (fun _ _ _ h => h) (Or.inl ⟨by rfl, ?_⟩) ?_ ?_
    rotate_left
    ·intro w'
     go_simp
     with_reducible rfl
    rotate_left
    ·simp only [Act.put, zL, zM, zN, i64_w, i32_w]
     rfl
    refine take_ (i := 1) (N := some 15) (v := ?_) (a' := ?_) #[true, true, false, false, false, false, false, false, false, false, false] rfl rfl (take_ofW HT_.out HW_.out (by kernel_rfl)) (fun _ _ _ h => h) (Or.inl ⟨by rfl, ?_⟩) hHeld ?_ ?_
    rotate_left
    ·rintro w' ⟨s0, s1, s2, s3, s4, s5⟩
     go_simp
     with_reducible rfl
    rotate_left
    ·simp only [Act.put, zL, zM, zN, i64_w, i32_w]
     rfl
    refine one_ (i := 2) (N := some 16) #[true, true, true, false, false, false, false, false, false, false, false] rfl rfl (one_of HT_.out (by kernel_rfl)) (by decide) (fun K hK => ?_)
    refine goes_ Tryd.func7 (by kernel_rfl) rfl #[.agg #[.int .i64 t374, .int .i64 t375, .int .i64 t376, .string t377, .slice Ao10 t378.length co10, .slice Ao11 t381.length co11]] (by rfl) rfl rfl apD ?_
    with_reducible refine (spec_ValueOk.calls k t374 t375 t376 t377 _ _ t378 _ _ t381 t386 _ ?side1 ?side2 ?side3 ?side4 A13.out).mono ?_
    (case side1 => repeat (first | exact (Kd.V_reads' HO380.out).2.2 | (with_reducible refine Kd.C_alloc ?_ _) | (with_reducible refine Kd.C_drewN ?_ _) | (with_reducible refine Kd.C_drew ?_)))
    (case side2 => exact (Kd.V_reads' HO380.out).2.1)
    (case side3 => exact vc (Kd.R_reads' HO383.out).2.2)
    (case side4 => exact (Kd.R_reads' HO383.out).2.1)
    rintro e w16 ⟨rfl, hb⟩
    refine ⟨_, rfl, ?_⟩
    replace HO380 := zA (Kd.V_below (vwV HO380.out) hb)
    replace HO383 := zA (Kd.R_below (vwR HO383.out) hb)
    replace BK384 := zA (zP (g := gb384) (o := .cells #[.int .i64 t374, .int .i64 t375, .int .i64 t376, .string t377, .slice Ao10 t378.length co10, .slice Ao11 t381.length co11] 33 (0, 0)) api hb)
    replace HB := zA (zQ apg hb)
    (try clear hb)
    (try clear hb2)
    (try clear hk)
    (try clear hi)
    refine hK.out _ _ ⟨(zJ BK384.out 0).trans rfl, (zJ BK384.out 1).trans rfl, (zJ BK384.out 2).trans rfl, (zJ BK384.out 3).trans rfl, (zJ BK384.out 4).trans rfl, (zJ BK384.out 5).trans rfl⟩ (fun hHeld => ?_)
    clear hK K
    refine norm_ (a' := ?_) ?_ ?_
    rotate_left
    ·show Act.put _ (some 16) _ = _
     simp only [Act.put, zL, zM, zN, i64_w, i32_w]
     rfl
    refine pure_ (i := 3) (N := some 17) (v := ?_) (a' := ?_) #[true, true, true, true, false, false, false, false, false, false, false] rfl rfl (any_of HT_.out (by kernel_rfl)) (fun _ _ _ h => h) (Or.inl ⟨by rfl, ?_⟩) ?_ ?_
    rotate_left
    ·intro w'
     go_simp
     with_reducible rfl
    rotate_left
    ·simp only [Act.put, zL, zM, zN, i64_w, i32_w]
     rfl
    refine pure_ (i := 4) (N := some 18) (v := ?_) (a' := ?_) #[true, true, true, true, true, false, false, false, false, false, false] rfl rfl (any_of HT_.out (by kernel_rfl)) (fun _ _ _ h => h) (Or.inl ⟨by rfl, ?_⟩) ?_ ?_
    rotate_left
    ·intro w'
     go_simp
     with_reducible rfl
    rotate_left
    ·simp only [Act.put, zL, zM, zN, i64_w, i32_w]
     rfl
    refine pure_ (i := 5) (N := some 19) (v := undef) (a' := ?_) #[true, true, true, true, true, true, false, false, false, false, false] rfl rfl (any_of HT_.out (by kernel_rfl)) (fun _ _ _ h => h) (Or.inr ⟨by rfl, rfl⟩) ?_ ?_
    rotate_left
    ·simp only [Act.put, zL, zM, zN, i64_w, i32_w]
     rfl
    refine pure_ (i := 6) (N := some 20) (v := undef) (a' := ?_) #[true, true, true, true, true, true, true, false, false, false, false] rfl rfl (any_of HT_.out (by kernel_rfl)) (fun _ _ _ h => h) (Or.inr ⟨by rfl, rfl⟩) ?_ ?_
    rotate_left
    ·simp only [Act.put, zL, zM, zN, i64_w, i32_w]
     rfl
    refine pure_ (i := 7) (N := some 21) (v := undef) (a' := ?_) #[true, true, true, true, true, true, true, true, false, false, false] rfl rfl (any_of HT_.out (by kernel_rfl)) (fun _ _ _ h => h) (Or.inr ⟨by rfl, rfl⟩) ?_ ?_
    rotate_left
    ·simp only [Act.put, zL, zM, zN, i64_w, i32_w]
     rfl
    refine pure_ (i := 8) (N := some 22) (v := undef) (a' := ?_) #[true, true, true, true, true, true, true, true, true, false, false] rfl rfl (any_of HT_.out (by kernel_rfl)) (fun _ _ _ h => h) (Or.inr ⟨by rfl, rfl⟩) ?_ ?_
    rotate_left
    ·simp only [Act.put, zL, zM, zN, i64_w, i32_w]
     rfl
    refine pure_ (i := 9) (N := some 23) (v := undef) (a' := ?_) #[true, true, true, true, true, true, true, true, true, true, false] rfl rfl (any_of HT_.out (by kernel_rfl)) (fun _ _ _ h => h) (Or.inr ⟨by rfl, rfl⟩) ?_ ?_
    rotate_left
    ·simp only [Act.put, zL, zM, zN, i64_w, i32_w]
     rfl
    refine pure_ (i := 10) (N := some 24) (v := ?_) (a' := ?_) #[true, true, true, true, true, true, true, true, true, true, true] rfl rfl (any_of HT_.out (by kernel_rfl)) (fun _ _ _ h => h) (Or.inl ⟨by rfl, ?_⟩) ?_ ?_
    rotate_left
    ·intro w'
     go_simp
     with_reducible rfl
    rotate_left
    ·simp only [Act.put, zL, zM, zN, i64_w, i32_w]
     rfl
    refine done_ (done_of HT_.out (by kernel_rfl)) ?_
    try go_wp2
    go_meet
    case rel => exact ⟨_, (true), apB, H', ⟨by first | omega | exact yH _⟩, ⟨vwV HO380.out⟩, ⟨vwR HO383.out⟩, ⟨api⟩, ⟨apg⟩⟩
   ·rw [if_neg c14] at H
    have c14b0 : (t385 != t386) = false := by simpa using c14
    (try (have c14b1 : decide (t385 = t386) = true := by simpa using c14))
    (try (have c14b2 : (t385 == t386) = true := by simpa using c14))
    clear c14
    (first | rw [c14b0] | (simp only [i64_w, i32_w]; rw [c14b0]) | skip)
    replace H := Option.bind_eq_some_iff.mp H
    obtain ⟨t387, A170, H⟩ := H
    have A17 := zA A170
    clear A170
    replace H := Option.bind_eq_some_iff.mp H
    obtain ⟨t388, A180, H⟩ := H
    have A18 := zA A180
    clear A180
    have H' := zA H
    clear H
    try go_wp2
    replace HO380 := zA (Kd.V_drew HO380.out)
    replace HO383 := zA (Kd.R_drew HO383.out)
    replace BK384 := zA (zD BK384.out)
    replace HB := zA (zF HB.out)
    refine start_ (n := 11) (S := fun w' => w'.cell? ⟨gb384, 0, none⟩ = some (.int .i64 t374) ∧ w'.cell? ⟨gb384, 1, none⟩ = some (.int .i64 t375) ∧ w'.cell? ⟨gb384, 2, none⟩ = some (.int .i64 t376) ∧ w'.cell? ⟨gb384, 3, none⟩ = some (.string t377) ∧ w'.cell? ⟨gb384, 4, none⟩ = some (.slice Ao10 t378.length co10) ∧ w'.cell? ⟨gb384, 5, none⟩ = some (.slice Ao11 t381.length co11)) (ds := []) #[false, false, false, false, false, false, false, false, false, false, false] (by kernel_rfl) rfl rfl ⟨(zJ BK384.out 0).trans rfl, (zJ BK384.out 1).trans rfl, (zJ BK384.out 2).trans rfl, (zJ BK384.out 3).trans rfl, (zJ BK384.out 4).trans rfl, (zJ BK384.out 5).trans rfl⟩ (fun hHeld => ?_); refine with_tabW laws_FnValueOk.tab5 laws_FnValueOk.bits5 (fun HT_ HW_ => ?_)
    generalize w12.drew = w19 at HO380 HO383 BK384 HB hHeld ⊢
    refine pure_ (i := 0) (N := some 14) (v := ?_) (a' := ?_) #[true, false, false, false, false, false, false, false, false, false, false] rfl rfl (any_of HT_.out (by kernel_rfl)) (fun _ _ _ h => h) (Or.inl ⟨by rfl, ?_⟩) ?_ ?_
    rotate_left
    ·intro w'
     go_simp
     with_reducible rfl
    rotate_left
    ·simp only [Act.put, zL, zM, zN, i64_w, i32_w]
     rfl
    refine take_ (i := 1) (N := some 15) (v := ?_) (a' := ?_) #[true, true, false, false, false, false, false, false, false, false, false] rfl rfl (take_ofW HT_.out HW_.out (by kernel_rfl)) (fun _ _ _ h => h) (Or.inl ⟨by rfl, ?_⟩) hHeld ?_ ?_
    rotate_left
    ·rintro w' ⟨s0, s1, s2, s3, s4, s5⟩
     go_simp
     with_reducible rfl
    rotate_left
    ·simp only [Act.put, zL, zM, zN, i64_w, i32_w]
     rfl
    refine one_ (i := 2) (N := some 16) #[true, true, true, false, false, false, false, false, false, false, false] rfl rfl (one_of HT_.out (by kernel_rfl)) (by decide) (fun K hK => ?_)
    refine goes_ Tryd.func7 (by kernel_rfl) rfl #[.agg #[.int .i64 t374, .int .i64 t375, .int .i64 t376, .string t377, .slice Ao10 t378.length co10, .slice Ao11 t381.length co11]] (by rfl) rfl rfl apD ?_
    with_reducible refine (spec_ValueOk.calls k t374 t375 t376 t377 _ _ t378 _ _ t381 t386 _ ?side1 ?side2 ?side3 ?side4 A13.out).mono ?_
    (case side1 => repeat (first | exact (Kd.V_reads' HO380.out).2.2 | (with_reducible refine Kd.C_alloc ?_ _) | (with_reducible refine Kd.C_drewN ?_ _) | (with_reducible refine Kd.C_drew ?_)))
    (case side2 => exact (Kd.V_reads' HO380.out).2.1)
    (case side3 => exact vc (Kd.R_reads' HO383.out).2.2)
    (case side4 => exact (Kd.R_reads' HO383.out).2.1)
    rintro e w20 ⟨rfl, hb⟩
    refine ⟨_, rfl, ?_⟩
    replace HO380 := zA (Kd.V_below (vwV HO380.out) hb)
    replace HO383 := zA (Kd.R_below (vwR HO383.out) hb)
    replace BK384 := zA (zP (g := gb384) (o := .cells #[.int .i64 t374, .int .i64 t375, .int .i64 t376, .string t377, .slice Ao10 t378.length co10, .slice Ao11 t381.length co11] 33 (0, 0)) api hb)
    replace HB := zA (zQ apg hb)
    (try clear hb)
    (try clear hb2)
    (try clear hk)
    (try clear hi)
    refine hK.out _ _ ⟨(zJ BK384.out 0).trans rfl, (zJ BK384.out 1).trans rfl, (zJ BK384.out 2).trans rfl, (zJ BK384.out 3).trans rfl, (zJ BK384.out 4).trans rfl, (zJ BK384.out 5).trans rfl⟩ (fun hHeld => ?_)
    clear hK K
    refine norm_ (a' := ?_) ?_ ?_
    rotate_left
    ·show Act.put _ (some 16) _ = _
     simp only [Act.put, zL, zM, zN, i64_w, i32_w]
     rfl
    refine pure_ (i := 3) (N := some 17) (v := ?_) (a' := ?_) #[true, true, true, true, false, false, false, false, false, false, false] rfl rfl (any_of HT_.out (by kernel_rfl)) (fun _ _ _ h => h) (Or.inl ⟨by rfl, ?_⟩) ?_ ?_
    rotate_left
    ·intro w'
     go_simp
     with_reducible rfl
    rotate_left
    ·simp only [Act.put, zL, zM, zN, i64_w, i32_w]
     rfl
    refine pure_ (i := 4) (N := some 18) (v := ?_) (a' := ?_) #[true, true, true, true, true, false, false, false, false, false, false] rfl rfl (any_of HT_.out (by kernel_rfl)) (fun _ _ _ h => h) (Or.inl ⟨by rfl, ?_⟩) ?_ ?_
    rotate_left
    ·intro w'
     go_simp
     with_reducible rfl
    rotate_left
    ·simp only [Act.put, zL, zM, zN, i64_w, i32_w]
     rfl
    refine take_ (i := 5) (N := some 19) (v := ?_) (a' := ?_) #[true, true, true, true, true, true, false, false, false, false, false] rfl rfl (take_ofW HT_.out HW_.out (by kernel_rfl)) (fun _ _ _ h => h) (Or.inl ⟨by rfl, ?_⟩) hHeld ?_ ?_
    rotate_left
    ·rintro w' ⟨s0, s1, s2, s3, s4, s5⟩
     go_simp
     with_reducible rfl
    rotate_left
    ·simp only [Act.put, zL, zM, zN, i64_w, i32_w]
     rfl
    refine take_ (i := 7) (N := some 21) (v := ?_) (a' := ?_) #[true, true, true, true, true, true, false, true, false, false, false] rfl rfl (take_ofW HT_.out HW_.out (by kernel_rfl)) (fun _ _ _ h => h) (Or.inl ⟨by rfl, ?_⟩) hHeld ?_ ?_
    rotate_left
    ·rintro w' ⟨s0, s1, s2, s3, s4, s5⟩
     go_simp
     with_reducible rfl
    rotate_left
    ·simp only [Act.put, zL, zM, zN, i64_w, i32_w]
     rfl
    refine one_ (i := 6) (N := some 20) #[true, true, true, true, true, true, true, true, false, false, false] rfl rfl (one_of HT_.out (by kernel_rfl)) (by decide) (fun K hK => ?_)
    refine goes_ Tryd.func12 (by kernel_rfl) rfl #[.agg #[.int .i64 t374, .int .i64 t375, .int .i64 t376, .string t377, .slice Ao10 t378.length co10, .slice Ao11 t381.length co11]] (by rfl) rfl rfl apD ?_
    with_reducible refine (impl_ValueSize.calls k t374 t375 t376 t377 _ _ t378 _ _ t381 t387 _ ?side1 ?side2 ?side3 ?side4 A17.out).mono ?_
    (case side1 => repeat (first | exact (Kd.V_reads' HO380.out).2.2 | (with_reducible refine Kd.C_alloc ?_ _) | (with_reducible refine Kd.C_drewN ?_ _) | (with_reducible refine Kd.C_drew ?_)))
    (case side2 => exact (Kd.V_reads' HO380.out).2.1)
    (case side3 => exact vc (Kd.R_reads' HO383.out).2.2)
    (case side4 => exact (Kd.R_reads' HO383.out).2.1)
    rintro e w21 ⟨rfl, hb⟩
    refine ⟨_, rfl, ?_⟩
    replace HO380 := zA (Kd.V_below (vwV HO380.out) hb)
    replace HO383 := zA (Kd.R_below (vwR HO383.out) hb)
    replace BK384 := zA (zP (g := gb384) (o := .cells #[.int .i64 t374, .int .i64 t375, .int .i64 t376, .string t377, .slice Ao10 t378.length co10, .slice Ao11 t381.length co11] 33 (0, 0)) api hb)
    replace HB := zA (zQ apg hb)
    (try clear hb)
    (try clear hb2)
    (try clear hk)
    (try clear hi)
    refine hK.out _ _ ⟨(zJ BK384.out 0).trans rfl, (zJ BK384.out 1).trans rfl, (zJ BK384.out 2).trans rfl, (zJ BK384.out 3).trans rfl, (zJ BK384.out 4).trans rfl, (zJ BK384.out 5).trans rfl⟩ (fun hHeld => ?_)
    clear hK K
    refine norm_ (a' := ?_) ?_ ?_
    rotate_left
    ·show Act.put _ (some 20) _ = _
     simp only [Act.put, zL, zM, zN, i64_w, i32_w]
     rfl
    refine one_ (i := 8) (N := some 22) #[true, true, true, true, true, true, true, true, true, false, false] rfl rfl (one_of HT_.out (by kernel_rfl)) (by decide) (fun K hK => ?_)
    refine goes_ Tryd.func13 (by kernel_rfl) rfl #[.agg #[.int .i64 t374, .int .i64 t375, .int .i64 t376, .string t377, .slice Ao10 t378.length co10, .slice Ao11 t381.length co11]] (by rfl) rfl rfl apD ?_
    with_reducible refine (spec_ValueSize.calls k t374 t375 t376 t377 _ _ t378 _ _ t381 t388 _ ?side1 ?side2 ?side3 ?side4 A18.out).mono ?_
    (case side1 => repeat (first | exact (Kd.V_reads' HO380.out).2.2 | (with_reducible refine Kd.C_alloc ?_ _) | (with_reducible refine Kd.C_drewN ?_ _) | (with_reducible refine Kd.C_drew ?_)))
    (case side2 => exact (Kd.V_reads' HO380.out).2.1)
    (case side3 => exact vc (Kd.R_reads' HO383.out).2.2)
    (case side4 => exact (Kd.R_reads' HO383.out).2.1)
    rintro e w22 ⟨rfl, hb⟩
    refine ⟨_, rfl, ?_⟩
    replace HO380 := zA (Kd.V_below (vwV HO380.out) hb)
    replace HO383 := zA (Kd.R_below (vwR HO383.out) hb)
    replace BK384 := zA (zP (g := gb384) (o := .cells #[.int .i64 t374, .int .i64 t375, .int .i64 t376, .string t377, .slice Ao10 t378.length co10, .slice Ao11 t381.length co11] 33 (0, 0)) api hb)
    replace HB := zA (zQ apg hb)
    (try clear hb)
    (try clear hb2)
    (try clear hk)
    (try clear hi)
    refine hK.out _ _ ⟨(zJ BK384.out 0).trans rfl, (zJ BK384.out 1).trans rfl, (zJ BK384.out 2).trans rfl, (zJ BK384.out 3).trans rfl, (zJ BK384.out 4).trans rfl, (zJ BK384.out 5).trans rfl⟩ (fun hHeld => ?_)
    clear hK K
    refine norm_ (a' := ?_) ?_ ?_
    rotate_left
    ·show Act.put _ (some 22) _ = _
     simp only [Act.put, zL, zM, zN, i64_w, i32_w]
     rfl
    refine pure_ (i := 9) (N := some 23) (v := ?_) (a' := ?_) #[true, true, true, true, true, true, true, true, true, true, false] rfl rfl (any_of HT_.out (by kernel_rfl)) (fun _ _ _ h => h) (Or.inl ⟨by rfl, ?_⟩) ?_ ?_
    rotate_left
    ·intro w'
     go_simp
     with_reducible rfl
    rotate_left
    ·simp only [Act.put, zL, zM, zN, i64_w, i32_w]
     rfl
    refine pure_ (i := 10) (N := some 24) (v := ?_) (a' := ?_) #[true, true, true, true, true, true, true, true, true, true, true] rfl rfl (any_of HT_.out (by kernel_rfl)) (fun _ _ _ h => h) (Or.inl ⟨by rfl, ?_⟩) ?_ ?_
    rotate_left
    ·intro w'
     go_simp
     with_reducible rfl
    rotate_left
    ·simp only [Act.put, zL, zM, zN, i64_w, i32_w]
     rfl
    refine done_ (done_of HT_.out (by kernel_rfl)) ?_
    try go_wp2
    go_meet
    case rel => exact ⟨_, ((t387 != t388)), apB, H', ⟨by first | omega | exact yH _⟩, ⟨vwV HO380.out⟩, ⟨vwR HO383.out⟩, ⟨api⟩, ⟨apg⟩⟩
  case rest =>
   clear HC6
   try clear c1 p2 c3 c3b0 c3b1 c4 c7 c9 c11 c12 c13 c14 c14b0 c14b1 c14b2 hcz9_0 hcz9_1 hcz9_2 hcz9_3 hcz9_4 hcz9_5 hfz9_0 hfz9_1 hfz9_2 hfz9_3 hfz9_4 hfz9_5
   obtain ⟨kq, x24_5, rfl, HA, HJ5, HO_385004, HO_385005, BK384, HB⟩ := hcut
   cases kq with
   | zero => exact absurd HA.out (by simp [laws_FnValueOk.j0])
   | succ kj5 =>
    have H := HA.out
    clear HA
    simp only [laws_FnValueOk.j0] at H
    by_cases c23 : x24_5 = true
    ·subst c23
     have H1 := H; rw [if_pos rfl] at H1
     clear H
     have H := H1
     clear H1
     exact absurd H (by simp)
    ·replace c23 := Bool.eq_false_iff.mpr c23
     subst c23
     have H1 := H; rw [if_neg (show ¬ (false = true) by decide)] at H1
     clear H
     have H := H1
     clear H1
     have H' := zA H
     clear H
     go_wp2
     go_loopg [5, 6] kj5 (fun kq v5 v6 w' => ∃ (x5_2 : Int) (x6_2 : Int), v5 = .int .i64 x5_2 ∧ v6 = .int .i64 x6_2 ∧ Aside0 (laws_FnValueOk.l0 kq t385 x5_2 x6_2 l1 t374 t375 t376 t377 t378 t381 = some r) ∧ Aside0 (kq ≤ kj5) ∧ Aside0 (Kd.V k33 33 w' w.heap.size (fun k_ => some k_ ≠ ((.slice Ao11 t381.length co11) : Value).ownBlock ∧ k_ ≠ gb384) (.slice Ao10 t378.length co10) t378) ∧ Aside0 (Kd.R Kd.string 9 w' w.heap.size (fun _ => True) (.slice Ao11 t381.length co11) t381) ∧ Aside0 (w'.heap[gb384]? = some (.cells #[.int .i64 t374, .int .i64 t375, .int .i64 t376, .string t377, (.slice Ao10 t378.length co10), (.slice Ao11 t381.length co11)] 33 (0, 0))) ∧ Aside0 (Below w.heap.size w w'))
     case atStart => exact ⟨(1), (0), apB, apB, H', ⟨yH _⟩, ⟨vwV HO_385004.out⟩, ⟨vwR HO_385005.out⟩, ⟨api⟩, ⟨apg⟩⟩
     case round =>
      clear H'
      try clear c1 c2 p2 c3 c3b0 c3b1 c4 c7 c9 c11 c12 c13 c14 c14b0 c14b1 c14b2 c23 hcz9_0 hcz9_1 hcz9_2 hcz9_3 hcz9_4 hcz9_5 hfz9_0 hfz9_1 hfz9_2 hfz9_3 hfz9_4 hfz9_5 p2
      obtain ⟨x5_2, x6_2, rfl, rfl, HA, HK2, HO_385004, HO_385005, BK384, HB⟩ := hrel
      cases gk with
      | zero => exact absurd HA.out (by simp [laws_FnValueOk.l0])
      | succ k2 =>
       have H := HA.out
       clear HA
       simp only [laws_FnValueOk.l0] at H
       by_cases c24 : x6_2 < (t378.length : Int)
       ·rw [if_pos c24] at H
        have c24b0 : decide (x6_2 < (t378.length : Int)) = true := yD c24
        clear c24
        by_cases c25 : 0 ≤ x6_2
        ·rw [if_pos c25] at H
         have c25b0 : decide (0 ≤ x6_2) = true := yD c25
         clear c25
         replace H := Option.bind_eq_some_iff.mp H
         obtain ⟨t391, A260, H⟩ := H
         have A26 := zA A260
         clear A260
         by_cases c27 : t385 = true
         ·subst c27
          have H1 := H; rw [if_pos rfl] at H1
          clear H
          have H := H1
          clear H1
          replace H := Option.bind_eq_some_iff.mp H
          obtain ⟨t393, A280, H⟩ := H
          have A28 := zA A280
          clear A280
          by_cases c29 : t393 = true
          ·subst c29
           have H1 := H; rw [if_pos rfl] at H1
           clear H
           have H := H1
           clear H1
           have H' := zA H
           clear H
           obtain ⟨hcz30_0, hcz30_1, hcz30_2, hcz30_3, hcz30_4, hcz30_5, hfz30_0, hfz30_1, hfz30_2, hfz30_3, hfz30_4, hfz30_5⟩ := zb6 BK384.out
           have p390 : 0 ≤ (x6_2 : Int) := yE apC
           have q390 : x6_2 < (t378.length : Int) := yE apC
           obtain ⟨ad390, A390_4, c390_4, A390_5, c390_5, e390, hx390_0, hx390_1, hx390_2, hx390_3, hx390_4, hx390_5, hl390_4, hi390_4, hl390_5, hi390_5⟩ := at_T33 (Kd.V_reads' HO_385004.out).2.2 x6_2 p390 q390
           cases e390
           obtain ⟨ce390, hce390, hMe390, hcc390⟩ := Kd.V_get HO_385004.out z33 x6_2 p390 (by first | exact q390 | exact yE apC | (have e_ := (Kd.V_reads' HO_385004.out).1; omega))
           obtain ⟨ua390_4, uc390_4, ua390_5, uc390_5, rfl, ul390_4, ge390_4, ul390_5, ge390_5⟩ := k33_openF hMe390
           have hv390_4 := hcc390 4 _ rfl
           rw [add_field _ _ 4 (by omega)] at hv390_4
           replace hv390_4 := yF (hv390_4.symm.trans hx390_4)
           injection hv390_4 with hva_ hvn_ hvc_
           rw [hva_] at ge390_4
           rw [hvc_] at ul390_4
           have HL390_4 := zA (show Kd.V k33 33 _ w.heap.size _ _ ((rd_T33 t378 x6_2).f3) from Kd.V_mk ul390_4 ge390_4)
           clear hva_ hvn_ hvc_ ge390_4 ul390_4
           have hv390_5 := hcc390 5 _ rfl
           rw [add_field _ _ 5 (by omega)] at hv390_5
           replace hv390_5 := yF (hv390_5.symm.trans hx390_5)
           injection hv390_5 with hva_ hvn_ hvc_
           rw [hva_] at ge390_5
           rw [hvc_] at ul390_5
           have HL390_5 := zA (show Kd.V Kd.string 9 _ w.heap.size _ _ ((rd_T33 t378 x6_2).f4) from Kd.V_mk ul390_5 ge390_5)
           clear hva_ hvn_ hvc_ ge390_5 ul390_5
           clear hcc390 hce390
           have HR390_4 := zA hi390_4
           have HC390_4 := zA hl390_4
           clear hi390_4 hl390_4
           have HR390_5 := zA hi390_5
           have HC390_5 := zA hl390_5
           clear hi390_5 hl390_5
           replace p390 := eq_true p390
           replace q390 := eq_true q390
           go_wp2_with (first | ((with_reducible refine zV (f := 12) rfl ?_); refine goesL_ (some 38) rfl rfl Tryd.func12 (by kernel_rfl) rfl #[.agg #[.int .i64 ((rd_T33 t378 x6_2).f0), .int .i64 ((rd_T33 t378 x6_2).f1.f0), .int .i64 ((rd_T33 t378 x6_2).f1.f1), .string ((rd_T33 t378 x6_2).f2), .slice A390_4 ((rd_T33 t378 x6_2).f3).length c390_4, .slice A390_5 ((rd_T33 t378 x6_2).f4).length c390_5]] rfl apD ?_; (with_reducible refine (impl_ValueSize.calls k2 ((rd_T33 t378 x6_2).f0) ((rd_T33 t378 x6_2).f1.f0) ((rd_T33 t378 x6_2).f1.f1) ((rd_T33 t378 x6_2).f2) _ _ ((rd_T33 t378 x6_2).f3) _ _ ((rd_T33 t378 x6_2).f4) t391 _ ?side1 ?side2 ?side3 ?side4 A26.out).mono ?_); (case side1 => repeat (first | exact (by repeat (first | (with_reducible exact HR390_4.out) | (with_reducible refine Kd.C_alloc ?_ _) | (with_reducible refine Kd.C_drewN ?_ _) | (with_reducible refine Kd.C_drew ?_) | exact HR390_4.out)) | (with_reducible refine Kd.C_alloc ?_ _) | (with_reducible refine Kd.C_drewN ?_ _) | (with_reducible refine Kd.C_drew ?_))); (case side2 => exact HC390_4.out); (case side3 => repeat (first | exact (by repeat (first | (with_reducible exact HR390_5.out) | (with_reducible refine Kd.C_alloc ?_ _) | (with_reducible refine Kd.C_drewN ?_ _) | (with_reducible refine Kd.C_drew ?_) | exact HR390_5.out)) | (with_reducible refine Kd.C_alloc ?_ _) | (with_reducible refine Kd.C_drewN ?_ _) | (with_reducible refine Kd.C_drew ?_))); (case side4 => exact HC390_5.out); rintro e w31 ⟨rfl, hb⟩; refine ⟨_, rfl, ?_⟩; replace HO_385004 := zA (Kd.V_below (vwV HO_385004.out) hb); replace HO_385005 := zA (Kd.R_below (vwR HO_385005.out) hb); replace HL390_4 := zA (Kd.V_below (vwV HL390_4.out) hb); replace HL390_5 := zA (Kd.V_below (vwV HL390_5.out) hb); replace BK384 := zA (zP (g := gb384) (o := .cells #[.int .i64 t374, .int .i64 t375, .int .i64 t376, .string t377, .slice (some ad390) t378.length co10, .slice Ao11 t381.length co11] 33 (0, 0)) api hb); replace HR390_4 := zA (Kd.C_below (by repeat (first | (with_reducible exact HR390_4.out) | (with_reducible refine Kd.C_alloc ?_ _) | (with_reducible refine Kd.C_drewN ?_ _) | (with_reducible refine Kd.C_drew ?_) | exact HR390_4.out)) hb); replace HR390_5 := zA (Kd.C_below (by repeat (first | (with_reducible exact HR390_5.out) | (with_reducible refine Kd.C_alloc ?_ _) | (with_reducible refine Kd.C_drewN ?_ _) | (with_reducible refine Kd.C_drew ?_) | exact HR390_5.out)) hb); replace HB := zA (zQ apg hb); (try clear hb); (try clear hb2); (try clear hk); (try clear hi); obtain ⟨hcz32_0, hcz32_1, hcz32_2, hcz32_3, hcz32_4, hcz32_5, hfz32_0, hfz32_1, hfz32_2, hfz32_3, hfz32_4, hfz32_5⟩ := zb6 BK384.out; have p392 : 0 ≤ (x6_2 : Int) := yE apC; have q392 : x6_2 < (t378.length : Int) := yE apC; obtain ⟨ad392, A392_4, c392_4, A392_5, c392_5, e392, hx392_0, hx392_1, hx392_2, hx392_3, hx392_4, hx392_5, hl392_4, hi392_4, hl392_5, hi392_5⟩ := at_T33 (Kd.V_reads' HO_385004.out).2.2 x6_2 p392 q392; obtain rfl : ad390 = ad392 := (by injection e392); obtain ⟨ce392, hce392, hMe392, hcc392⟩ := Kd.V_get HO_385004.out z33 x6_2 p392 (by first | exact q392 | exact yE apC | (have e_ := (Kd.V_reads' HO_385004.out).1; omega)); obtain ⟨ua392_4, uc392_4, ua392_5, uc392_5, rfl, ul392_4, ge392_4, ul392_5, ge392_5⟩ := k33_openF hMe392; have hv392_4 := hcc392 4 _ rfl; rw [add_field _ _ 4 (by omega)] at hv392_4; replace hv392_4 := yF (hv392_4.symm.trans hx392_4); injection hv392_4 with hva_ hvn_ hvc_; rw [hva_] at ge392_4; rw [hvc_] at ul392_4; have HL392_4 := zA (show Kd.V k33 33 _ w.heap.size _ _ ((rd_T33 t378 x6_2).f3) from Kd.V_mk ul392_4 ge392_4); clear hva_ hvn_ hvc_ ge392_4 ul392_4; have hv392_5 := hcc392 5 _ rfl; rw [add_field _ _ 5 (by omega)] at hv392_5; replace hv392_5 := yF (hv392_5.symm.trans hx392_5); injection hv392_5 with hva_ hvn_ hvc_; rw [hva_] at ge392_5; rw [hvc_] at ul392_5; have HL392_5 := zA (show Kd.V Kd.string 9 _ w.heap.size _ _ ((rd_T33 t378 x6_2).f4) from Kd.V_mk ul392_5 ge392_5); clear hva_ hvn_ hvc_ ge392_5 ul392_5; clear hcc392 hce392; have HR392_4 := zA hi392_4; have HC392_4 := zA hl392_4; clear hi392_4 hl392_4; have HR392_5 := zA hi392_5; have HC392_5 := zA hl392_5; clear hi392_5 hl392_5; replace p392 := eq_true p392; replace q392 := eq_true q392) | (go_at_call 9; (with_reducible refine (impl_ValueOk.calls k2 ((rd_T33 t378 x6_2).f0) ((rd_T33 t378 x6_2).f1.f0) ((rd_T33 t378 x6_2).f1.f1) ((rd_T33 t378 x6_2).f2) _ _ ((rd_T33 t378 x6_2).f3) _ _ ((rd_T33 t378 x6_2).f4) A1 c1 l1 true _ ?side1 ?side2 ?side3 ?side4 ?side5 ?side6 ?side7 A28.out).mono ?_); (case side1 => repeat (first | exact (by repeat (first | (with_reducible exact HR392_4.out) | (with_reducible refine Kd.C_alloc ?_ _) | (with_reducible refine Kd.C_drewN ?_ _) | (with_reducible refine Kd.C_drew ?_) | exact HR392_4.out)) | (with_reducible refine Kd.C_alloc ?_ _) | (with_reducible refine Kd.C_drewN ?_ _) | (with_reducible refine Kd.C_drew ?_))); (case side2 => exact HC392_4.out); (case side3 => repeat (first | exact (by repeat (first | (with_reducible exact HR392_5.out) | (with_reducible refine Kd.C_alloc ?_ _) | (with_reducible refine Kd.C_drewN ?_ _) | (with_reducible refine Kd.C_drew ?_) | exact HR392_5.out)) | (with_reducible refine Kd.C_alloc ?_ _) | (with_reducible refine Kd.C_drewN ?_ _) | (with_reducible refine Kd.C_drew ?_))); (case side4 => exact HC392_5.out); (case side5 => exact vc (Kd.C_below HR1.out HB.out)); (case side6 => exact HC1.out); (case side7 => exact HG1.out); rintro e w33 ⟨rfl, hb⟩; replace HO_385004 := zA (Kd.V_below (vwV HO_385004.out) hb); replace HO_385005 := zA (Kd.R_below (vwR HO_385005.out) hb); replace HL390_4 := zA (Kd.V_below (vwV HL390_4.out) hb); replace HL390_5 := zA (Kd.V_below (vwV HL390_5.out) hb); replace HL392_4 := zA (Kd.V_below (vwV HL392_4.out) hb); replace HL392_5 := zA (Kd.V_below (vwV HL392_5.out) hb); replace BK384 := zA (zP (g := gb384) (o := .cells #[.int .i64 t374, .int .i64 t375, .int .i64 t376, .string t377, .slice (some ad390) t378.length co10, .slice Ao11 t381.length co11] 33 (0, 0)) api hb); replace HR390_4 := zA (Kd.C_below (by repeat (first | (with_reducible exact HR390_4.out) | (with_reducible refine Kd.C_alloc ?_ _) | (with_reducible refine Kd.C_drewN ?_ _) | (with_reducible refine Kd.C_drew ?_) | exact HR390_4.out)) hb); replace HR390_5 := zA (Kd.C_below (by repeat (first | (with_reducible exact HR390_5.out) | (with_reducible refine Kd.C_alloc ?_ _) | (with_reducible refine Kd.C_drewN ?_ _) | (with_reducible refine Kd.C_drew ?_) | exact HR390_5.out)) hb); replace HR392_4 := zA (Kd.C_below (by repeat (first | (with_reducible exact HR392_4.out) | (with_reducible refine Kd.C_alloc ?_ _) | (with_reducible refine Kd.C_drewN ?_ _) | (with_reducible refine Kd.C_drew ?_) | exact HR392_4.out)) hb); replace HR392_5 := zA (Kd.C_below (by repeat (first | (with_reducible exact HR392_5.out) | (with_reducible refine Kd.C_alloc ?_ _) | (with_reducible refine Kd.C_drewN ?_ _) | (with_reducible refine Kd.C_drew ?_) | exact HR392_5.out)) hb); replace HB := zA (zQ apg hb); (try clear hb); (try clear hb2); (try clear hk); (try clear hi)))
           go_roundg k2
           case measure => have := HJ5.out; have := HK2.out; omega
           case rel => exact ⟨(wrap64 (x5_2 + t391)), (wrap64 (x6_2 + 1)), apB, apB, H', ⟨by have := HJ5.out; have := HK2.out; omega⟩, ⟨vwV HO_385004.out⟩, ⟨vwR HO_385005.out⟩, ⟨api⟩, ⟨apg⟩⟩
          ·replace c29 := Bool.eq_false_iff.mpr c29
           subst c29
           have H1 := H; rw [if_neg (show ¬ (false = true) by decide)] at H1
           clear H
           have H := H1
           clear H1
           exact absurd H (by simp)
         ·replace c27 := Bool.eq_false_iff.mpr c27
          subst c27
          have H1 := H; rw [if_neg (show ¬ (false = true) by decide)] at H1
          clear H
          have H := H1
          clear H1
          have H' := zA H
          clear H
          obtain ⟨hcz34_0, hcz34_1, hcz34_2, hcz34_3, hcz34_4, hcz34_5, hfz34_0, hfz34_1, hfz34_2, hfz34_3, hfz34_4, hfz34_5⟩ := zb6 BK384.out
          have p390 : 0 ≤ (x6_2 : Int) := yE apC
          have q390 : x6_2 < (t378.length : Int) := yE apC
          obtain ⟨ad390, A390_4, c390_4, A390_5, c390_5, e390, hx390_0, hx390_1, hx390_2, hx390_3, hx390_4, hx390_5, hl390_4, hi390_4, hl390_5, hi390_5⟩ := at_T33 (Kd.V_reads' HO_385004.out).2.2 x6_2 p390 q390
          cases e390
          obtain ⟨ce390, hce390, hMe390, hcc390⟩ := Kd.V_get HO_385004.out z33 x6_2 p390 (by first | exact q390 | exact yE apC | (have e_ := (Kd.V_reads' HO_385004.out).1; omega))
          obtain ⟨ua390_4, uc390_4, ua390_5, uc390_5, rfl, ul390_4, ge390_4, ul390_5, ge390_5⟩ := k33_openF hMe390
          have hv390_4 := hcc390 4 _ rfl
          rw [add_field _ _ 4 (by omega)] at hv390_4
          replace hv390_4 := yF (hv390_4.symm.trans hx390_4)
          injection hv390_4 with hva_ hvn_ hvc_
          rw [hva_] at ge390_4
          rw [hvc_] at ul390_4
          have HL390_4 := zA (show Kd.V k33 33 _ w.heap.size _ _ ((rd_T33 t378 x6_2).f3) from Kd.V_mk ul390_4 ge390_4)
          clear hva_ hvn_ hvc_ ge390_4 ul390_4
          have hv390_5 := hcc390 5 _ rfl
          rw [add_field _ _ 5 (by omega)] at hv390_5
          replace hv390_5 := yF (hv390_5.symm.trans hx390_5)
          injection hv390_5 with hva_ hvn_ hvc_
          rw [hva_] at ge390_5
          rw [hvc_] at ul390_5
          have HL390_5 := zA (show Kd.V Kd.string 9 _ w.heap.size _ _ ((rd_T33 t378 x6_2).f4) from Kd.V_mk ul390_5 ge390_5)
          clear hva_ hvn_ hvc_ ge390_5 ul390_5
          clear hcc390 hce390
          have HR390_4 := zA hi390_4
          have HC390_4 := zA hl390_4
          clear hi390_4 hl390_4
          have HR390_5 := zA hi390_5
          have HC390_5 := zA hl390_5
          clear hi390_5 hl390_5
          replace p390 := eq_true p390
          replace q390 := eq_true q390
          go_wp2_with (first | ((with_reducible refine zV (f := 12) rfl ?_); refine goesL_ (some 38) rfl rfl Tryd.func12 (by kernel_rfl) rfl #[.agg #[.int .i64 ((rd_T33 t378 x6_2).f0), .int .i64 ((rd_T33 t378 x6_2).f1.f0), .int .i64 ((rd_T33 t378 x6_2).f1.f1), .string ((rd_T33 t378 x6_2).f2), .slice A390_4 ((rd_T33 t378 x6_2).f3).length c390_4, .slice A390_5 ((rd_T33 t378 x6_2).f4).length c390_5]] rfl apD ?_; (with_reducible refine (impl_ValueSize.calls k2 ((rd_T33 t378 x6_2).f0) ((rd_T33 t378 x6_2).f1.f0) ((rd_T33 t378 x6_2).f1.f1) ((rd_T33 t378 x6_2).f2) _ _ ((rd_T33 t378 x6_2).f3) _ _ ((rd_T33 t378 x6_2).f4) t391 _ ?side1 ?side2 ?side3 ?side4 A26.out).mono ?_); (case side1 => repeat (first | exact (by repeat (first | (with_reducible exact HR390_4.out) | (with_reducible refine Kd.C_alloc ?_ _) | (with_reducible refine Kd.C_drewN ?_ _) | (with_reducible refine Kd.C_drew ?_) | exact HR390_4.out)) | (with_reducible refine Kd.C_alloc ?_ _) | (with_reducible refine Kd.C_drewN ?_ _) | (with_reducible refine Kd.C_drew ?_))); (case side2 => exact HC390_4.out); (case side3 => repeat (first | exact (by repeat (first | (with_reducible exact HR390_5.out) | (with_reducible refine Kd.C_alloc ?_ _) | (with_reducible refine Kd.C_drewN ?_ _) | (with_reducible refine Kd.C_drew ?_) | exact HR390_5.out)) | (with_reducible refine Kd.C_alloc ?_ _) | (with_reducible refine Kd.C_drewN ?_ _) | (with_reducible refine Kd.C_drew ?_))); (case side4 => exact HC390_5.out); rintro e w35 ⟨rfl, hb⟩; refine ⟨_, rfl, ?_⟩; replace HO_385004 := zA (Kd.V_below (vwV HO_385004.out) hb); replace HO_385005 := zA (Kd.R_below (vwR HO_385005.out) hb); replace HL390_4 := zA (Kd.V_below (vwV HL390_4.out) hb); replace HL390_5 := zA (Kd.V_below (vwV HL390_5.out) hb); replace BK384 := zA (zP (g := gb384) (o := .cells #[.int .i64 t374, .int .i64 t375, .int .i64 t376, .string t377, .slice (some ad390) t378.length co10, .slice Ao11 t381.length co11] 33 (0, 0)) api hb); replace HR390_4 := zA (Kd.C_below (by repeat (first | (with_reducible exact HR390_4.out) | (with_reducible refine Kd.C_alloc ?_ _) | (with_reducible refine Kd.C_drewN ?_ _) | (with_reducible refine Kd.C_drew ?_) | exact HR390_4.out)) hb); replace HR390_5 := zA (Kd.C_below (by repeat (first | (with_reducible exact HR390_5.out) | (with_reducible refine Kd.C_alloc ?_ _) | (with_reducible refine Kd.C_drewN ?_ _) | (with_reducible refine Kd.C_drew ?_) | exact HR390_5.out)) hb); replace HB := zA (zQ apg hb); (try clear hb); (try clear hb2); (try clear hk); (try clear hi)))
          go_roundg k2
          case measure => have := HJ5.out; have := HK2.out; omega
          case rel => exact ⟨(wrap64 (x5_2 + t391)), (wrap64 (x6_2 + 1)), apB, apB, H', ⟨by have := HJ5.out; have := HK2.out; omega⟩, ⟨vwV HO_385004.out⟩, ⟨vwR HO_385005.out⟩, ⟨api⟩, ⟨apg⟩⟩
        ·rw [if_neg c25] at H
         exact absurd H (by simp)
       ·rw [if_neg c24] at H
        have c24b0 : decide (x6_2 < (t378.length : Int)) = false := decide_eq_false c24
        clear c24
        replace H := Option.bind_eq_some_iff.mp H
        obtain ⟨t389, A360, H⟩ := H
        have A36 := zA A360
        clear A360
        by_cases c37 : t389 = x5_2
        ·rw [if_pos c37] at H
         have c37b0 : (t389 == x5_2) = true := beq_iff_eq.mpr c37
         have c37b1 : (t389 != x5_2) = false := bne_eq_false_iff_eq.mpr c37
         clear c37
         by_cases c38 : t385 = true
         ·subst c38
          have H1 := H; rw [if_pos rfl] at H1
          clear H
          have H := H1
          clear H1
          obtain rfl := yF H
          obtain ⟨hcz39_0, hcz39_1, hcz39_2, hcz39_3, hcz39_4, hcz39_5, hfz39_0, hfz39_1, hfz39_2, hfz39_3, hfz39_4, hfz39_5⟩ := zb6 BK384.out
          go_wp2_with (first | ((with_reducible refine zV (f := 12) rfl ?_); refine goesL_ (some 51) rfl rfl Tryd.func12 (by kernel_rfl) rfl #[.agg #[.int .i64 t374, .int .i64 t375, .int .i64 t376, .string t377, .slice Ao10 t378.length co10, .slice Ao11 t381.length co11]] rfl apD ?_; (with_reducible refine (impl_ValueSize.calls k2 t374 t375 t376 t377 _ _ t378 _ _ t381 t389 _ ?side1 ?side2 ?side3 ?side4 A36.out).mono ?_); (case side1 => repeat (first | exact (Kd.V_reads' HO_385004.out).2.2 | (with_reducible refine Kd.C_alloc ?_ _) | (with_reducible refine Kd.C_drewN ?_ _) | (with_reducible refine Kd.C_drew ?_))); (case side2 => exact (Kd.V_reads' HO_385004.out).2.1); (case side3 => exact vc (Kd.R_reads' HO_385005.out).2.2); (case side4 => exact (Kd.R_reads' HO_385005.out).2.1); rintro e w40 ⟨rfl, hb⟩; refine ⟨_, rfl, ?_⟩; replace HO_385004 := zA (Kd.V_below (vwV HO_385004.out) hb); replace HO_385005 := zA (Kd.R_below (vwR HO_385005.out) hb); replace BK384 := zA (zP (g := gb384) (o := .cells #[.int .i64 t374, .int .i64 t375, .int .i64 t376, .string t377, .slice Ao10 t378.length co10, .slice Ao11 t381.length co11] 33 (0, 0)) api hb); replace HB := zA (zQ apg hb); (try clear hb); (try clear hb2); (try clear hk); (try clear hi)))
          go_ret
          exact ⟨apE, apg⟩
         ·replace c38 := Bool.eq_false_iff.mpr c38
          subst c38
          have H1 := H; rw [if_neg (show ¬ (false = true) by decide)] at H1
          clear H
          have H := H1
          clear H1
          obtain rfl := yF H
          obtain ⟨hcz41_0, hcz41_1, hcz41_2, hcz41_3, hcz41_4, hcz41_5, hfz41_0, hfz41_1, hfz41_2, hfz41_3, hfz41_4, hfz41_5⟩ := zb6 BK384.out
          go_wp2_with (first | ((with_reducible refine zV (f := 12) rfl ?_); refine goesL_ (some 51) rfl rfl Tryd.func12 (by kernel_rfl) rfl #[.agg #[.int .i64 t374, .int .i64 t375, .int .i64 t376, .string t377, .slice Ao10 t378.length co10, .slice Ao11 t381.length co11]] rfl apD ?_; (with_reducible refine (impl_ValueSize.calls k2 t374 t375 t376 t377 _ _ t378 _ _ t381 t389 _ ?side1 ?side2 ?side3 ?side4 A36.out).mono ?_); (case side1 => repeat (first | exact (Kd.V_reads' HO_385004.out).2.2 | (with_reducible refine Kd.C_alloc ?_ _) | (with_reducible refine Kd.C_drewN ?_ _) | (with_reducible refine Kd.C_drew ?_))); (case side2 => exact (Kd.V_reads' HO_385004.out).2.1); (case side3 => exact vc (Kd.R_reads' HO_385005.out).2.2); (case side4 => exact (Kd.R_reads' HO_385005.out).2.1); rintro e w42 ⟨rfl, hb⟩; refine ⟨_, rfl, ?_⟩; replace HO_385004 := zA (Kd.V_below (vwV HO_385004.out) hb); replace HO_385005 := zA (Kd.R_below (vwR HO_385005.out) hb); replace BK384 := zA (zP (g := gb384) (o := .cells #[.int .i64 t374, .int .i64 t375, .int .i64 t376, .string t377, .slice Ao10 t378.length co10, .slice Ao11 t381.length co11] 33 (0, 0)) api hb); replace HB := zA (zQ apg hb); (try clear hb); (try clear hb2); (try clear hk); (try clear hi)))
          go_ret
          exact ⟨apE, apg⟩
        ·rw [if_neg c37] at H
         exact absurd H (by simp)

end Go.Proofs.YtoajejdicfabmaaDoor.Q
