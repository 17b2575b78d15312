-- laid by a program of this session (wip/tools) out of the translation; Lean checks it
import Derived.Test.YtmoaolcioihjnaaBFnDecDivq2
namespace Go.Proofs.Ytmoaolcioihjnaa.Q
open Go.RowKit Go.Proofs.YtmoaolcioihjnaaW.PrintWords Go.Proofs.YtmoaolcioihjnaaW.PrintLast Go.Proofs.YtmoaolcioihjnaaW.PrintMore Go.Proofs.YtmoaolcioihjnaaX
attribute [local go_sem] max2_int min2_int max_two min_two max_three min_three max_four min_four   -- for this text's walks alone
set_option linter.unusedVariables false
set_option linter.unusedSimpArgs false

attribute [local go_sem high] eqA26
mutual
def laws_FnDecDiv.j0 : Nat → Int → Bool → Bool → Bool → Int → Int → Int → Int → Int → Int → Int → Int → Option (Bool)
 | 0, _, _, _, _, _, _, _, _, _, _, _, _ => none
 | k + 1, x5, x7, x9, x50, x675000, x675001, x676000, x676001, x680000, x680001, x684000, x684001 => if x50 = true then (if (x680000 == x684000 && (x680001 == x684001)) = true then (some (x7 == x9)) else (none)) else ((impl_DecMul.f k x680000 x680001 x676000 x676001).bind fun bt684 => ((impl_DecSub.f k x675000 x675001 bt684.1 bt684.2.1).bind fun bt688 => ((laws_chAbs.f x676000 x676001).bind fun bt692 => ((impl_DecMul.f k bt692.1 bt692.2 1 (wrap64 (-x5))).bind fun bt694 => (if x680001 < (wrap64 (-x5)) then (laws_FnDecDiv.j1 k bt684.2.2 bt688.2.2 bt694.2.2 true x675000 x675001 bt684.1 bt684.2.1 bt688.1 bt688.2.1 bt694.1 bt694.2.1) else (if x680000 = 0 then (laws_FnDecDiv.j1 k bt684.2.2 bt688.2.2 bt694.2.2 false x675000 x675001 bt684.1 bt684.2.1 bt688.1 bt688.2.1 bt694.1 bt694.2.1) else (laws_FnDecDiv.j1 k bt684.2.2 bt688.2.2 bt694.2.2 ((decide (x680000 < 0)) != ((decide (x675000 < 0)) != (decide (x676000 < 0)))) x675000 x675001 bt684.1 bt684.2.1 bt688.1 bt688.2.1 bt694.1 bt694.2.1)))))))
def laws_FnDecDiv.j1 : Nat → Bool → Bool → Bool → Bool → Int → Int → Int → Int → Int → Int → Int → Int → Option (Bool)
 | 0, _, _, _, _, _, _, _, _, _, _, _, _ => none
 | k + 1, x11, x13, x15, x102, x675000, x675001, x688000, x688001, x692000, x692001, x698000, x698001 => if x102 = true then (none) else (if x11 = true then (if x13 = true then (if x15 = true then ((laws_chAbs.f x692000 x692001).bind fun bt698 => ((impl_DecCmp.f k bt698.1 bt698.2 x698000 x698001).bind fun t700 => (if t700 < 0 then ((laws_chAbs.f x688000 x688001).bind fun bt701 => ((laws_chAbs.f x675000 x675001).bind fun bt703 => ((impl_DecCmp.f k bt701.1 bt701.2 bt703.1 bt703.2).bind fun t705 => (some (decide (t705 ≤ 0)))))) else (none)))) else (some true)) else (some true)) else (some true))
end
def laws_FnDecDiv.f (k : Nat) (l0 : List Int) : Option (Bool) := if (l0.length : Int) > 1048576 then (some true) else ((spec_DrawDecDiv.f k l0).bind fun bt669 => ((impl_DecDiv.f k bt669.1 bt669.2.1 bt669.2.2.1 bt669.2.2.2.1 bt669.2.2.2.2).bind fun bt676 => ((spec_DecDiv.f k bt669.1 bt669.2.1 bt669.2.2.1 bt669.2.2.2.1 bt669.2.2.2.2).bind fun bt680 => (if (!(bt676.1 == bt680.1) || (!(bt676.2.1 == bt680.2.1))) = true then (laws_FnDecDiv.j0 k bt669.2.2.2.2 bt676.2.2 bt680.2.2 true bt669.1 bt669.2.1 bt669.2.2.1 bt669.2.2.2.1 bt676.1 bt676.2.1 bt680.1 bt680.2.1) else (if (bt676.2.2 != bt680.2.2) = true then (laws_FnDecDiv.j0 k bt669.2.2.2.2 bt676.2.2 bt680.2.2 true bt669.1 bt669.2.1 bt669.2.2.1 bt669.2.2.2.1 bt676.1 bt676.2.1 bt680.1 bt680.2.1) else (laws_FnDecDiv.j0 k bt669.2.2.2.2 bt676.2.2 bt680.2.2 (!bt676.2.2) bt669.1 bt669.2.1 bt669.2.2.1 bt669.2.2.2.1 bt676.1 bt676.2.1 bt680.1 bt680.2.1))))))
theorem laws_FnDecDiv.mono_l : ∀ k, (∀ y0 y1 y2 y3 y4 y5 y6 y7 y8 y9 y10 y11, LeO (laws_FnDecDiv.j0 k y0 y1 y2 y3 y4 y5 y6 y7 y8 y9 y10 y11) (laws_FnDecDiv.j0 (k + 1) y0 y1 y2 y3 y4 y5 y6 y7 y8 y9 y10 y11)) ∧ (∀ y0 y1 y2 y3 y4 y5 y6 y7 y8 y9 y10 y11, LeO (laws_FnDecDiv.j1 k y0 y1 y2 y3 y4 y5 y6 y7 y8 y9 y10 y11) (laws_FnDecDiv.j1 (k + 1) y0 y1 y2 y3 y4 y5 y6 y7 y8 y9 y10 y11))
 | 0 => ⟨fun _ _ _ _ _ _ _ _ _ _ _ _ r h => by simp [laws_FnDecDiv.j0] at h, fun _ _ _ _ _ _ _ _ _ _ _ _ r h => by simp [laws_FnDecDiv.j1] at h⟩
 | k + 1 => by
  obtain ⟨ih0, ih1⟩ := laws_FnDecDiv.mono_l k
  refine ⟨?_, ?_⟩
  ·intro y0 y1 y2 y3 y4 y5 y6 y7 y8 y9 y10 y11
   unfold laws_FnDecDiv.j0
   repeat' first
   | (with_reducible exact ih0 _ _ _ _ _ _ _ _ _ _ _ _)
   | (with_reducible exact ih1 _ _ _ _ _ _ _ _ _ _ _ _)
   | (with_reducible exact impl_DecCmp.mono _ _ _ _ _)
   | (with_reducible exact impl_DecDiv.mono _ _ _ _ _ _)
   | (with_reducible exact impl_DecMul.mono _ _ _ _ _)
   | (with_reducible exact impl_DecSub.mono _ _ _ _ _)
   | (with_reducible exact spec_DecDiv.mono _ _ _ _ _ _)
   | (with_reducible exact spec_DrawDecDiv.mono _ _)
   | (with_reducible exact LeO.refl _)
   | (with_reducible exact LeO.none _)
   | (with_reducible refine LeO.ite ?_ ?_)
   | (with_reducible refine LeO.bind ?_ (fun _ => ?_))
   | exact ih0 _ _ _ _ _ _ _ _ _ _ _ _
   | exact ih1 _ _ _ _ _ _ _ _ _ _ _ _
   | exact impl_DecCmp.mono _ _ _ _ _
   | exact impl_DecDiv.mono _ _ _ _ _ _
   | exact impl_DecMul.mono _ _ _ _ _
   | exact impl_DecSub.mono _ _ _ _ _
   | exact spec_DecDiv.mono _ _ _ _ _ _
   | exact spec_DrawDecDiv.mono _ _
   | exact LeO.none _
   | refine LeO.ite ?_ ?_
   | refine LeO.bind ?_ (fun _ => ?_)
  ·intro y0 y1 y2 y3 y4 y5 y6 y7 y8 y9 y10 y11
   unfold laws_FnDecDiv.j1
   repeat' first
   | (with_reducible exact ih0 _ _ _ _ _ _ _ _ _ _ _ _)
   | (with_reducible exact ih1 _ _ _ _ _ _ _ _ _ _ _ _)
   | (with_reducible exact impl_DecCmp.mono _ _ _ _ _)
   | (with_reducible exact impl_DecDiv.mono _ _ _ _ _ _)
   | (with_reducible exact impl_DecMul.mono _ _ _ _ _)
   | (with_reducible exact impl_DecSub.mono _ _ _ _ _)
   | (with_reducible exact spec_DecDiv.mono _ _ _ _ _ _)
   | (with_reducible exact spec_DrawDecDiv.mono _ _)
   | (with_reducible exact LeO.refl _)
   | (with_reducible exact LeO.none _)
   | (with_reducible refine LeO.ite ?_ ?_)
   | (with_reducible refine LeO.bind ?_ (fun _ => ?_))
   | exact ih0 _ _ _ _ _ _ _ _ _ _ _ _
   | exact ih1 _ _ _ _ _ _ _ _ _ _ _ _
   | exact impl_DecCmp.mono _ _ _ _ _
   | exact impl_DecDiv.mono _ _ _ _ _ _
   | exact impl_DecMul.mono _ _ _ _ _
   | exact impl_DecSub.mono _ _ _ _ _
   | exact spec_DecDiv.mono _ _ _ _ _ _
   | exact spec_DrawDecDiv.mono _ _
   | exact LeO.none _
   | refine LeO.ite ?_ ?_
   | refine LeO.bind ?_ (fun _ => ?_)
theorem laws_FnDecDiv.mono : ∀ a0 k, LeO (laws_FnDecDiv.f k a0) (laws_FnDecDiv.f (k + 1) a0) := by
 intro a0 k
 obtain ⟨ih0, ih1⟩ := laws_FnDecDiv.mono_l k
 unfold laws_FnDecDiv.f
 repeat' first
   | (with_reducible exact ih0 _ _ _ _ _ _ _ _ _ _ _ _)
   | (with_reducible exact ih1 _ _ _ _ _ _ _ _ _ _ _ _)
   | (with_reducible exact impl_DecCmp.mono _ _ _ _ _)
   | (with_reducible exact impl_DecDiv.mono _ _ _ _ _ _)
   | (with_reducible exact impl_DecMul.mono _ _ _ _ _)
   | (with_reducible exact impl_DecSub.mono _ _ _ _ _)
   | (with_reducible exact spec_DecDiv.mono _ _ _ _ _ _)
   | (with_reducible exact spec_DrawDecDiv.mono _ _)
   | (with_reducible exact LeO.refl _)
   | (with_reducible exact LeO.none _)
   | (with_reducible refine LeO.ite ?_ ?_)
   | (with_reducible refine LeO.bind ?_ (fun _ => ?_))
   | exact ih0 _ _ _ _ _ _ _ _ _ _ _ _
   | exact ih1 _ _ _ _ _ _ _ _ _ _ _ _
   | exact impl_DecCmp.mono _ _ _ _ _
   | exact impl_DecDiv.mono _ _ _ _ _ _
   | exact impl_DecMul.mono _ _ _ _ _
   | exact impl_DecSub.mono _ _ _ _ _
   | exact spec_DecDiv.mono _ _ _ _ _ _
   | exact spec_DrawDecDiv.mono _ _
   | exact LeO.none _
   | refine LeO.ite ?_ ?_
   | refine LeO.bind ?_ (fun _ => ?_)
def laws_FnDecDiv.T13 : Bool × List (List Nat × List Nat) := (true, [([], []), ([0], [0]), ([1], [1]), ([2], [2]), ([3, 2], [2, 3]), ([2, 4], [2, 4]), ([5, 2], [5]), ([6], [6]), ([7, 6], [6, 7]), ([6, 8], [6, 8]), ([9, 6], [9]), ([10], [10]), ([11, 10, 10], [10, 11]), ([10], [10]), ([12, 13, 12, 10], [10, 12, 13]), ([14, 10], [10, 14]), ([15, 14, 10], [10, 15]), ([16], [16]), ([17, 16, 16], [16, 17]), ([16], [16]), ([19, 18, 16], [16, 19]), ([18, 20, 20, 16], [16, 18, 20]), ([21, 16], [16, 21]), ([16, 22, 10], [10, 16, 22]), ([10, 23], [10, 23]), ([24, 21, 0, 1, 2, 3, 4, 5, 6, 7, 8, 9, 10, 11, 12, 13, 14, 15, 16, 17, 18, 19, 20, 21, 22, 23, 24], [24])])
def laws_FnDecDiv.B13 : List Nat := [0, 1, 3, 7, 15, 31, 63, 127, 255, 511, 1023, 2047, 4095, 2047, 16383, 32767, 65535, 131071, 262143, 131071, 1048575, 2097151, 4194303, 8388607, 16777215, 33554431]
theorem laws_FnDecDiv.tab13 : rtab .any (opsOf Try.f11 13) = laws_FnDecDiv.T13 := by kernel_rfl
theorem laws_FnDecDiv.bits13 : waitsOk laws_FnDecDiv.T13.2 laws_FnDecDiv.B13 = true := by kernel_rfl
set_option maxHeartbeats 8000000 in
set_option maxRecDepth 100000 in
theorem laws_FnDecDiv.calls (k : Nat) (A0 : Option Addr) (c0 : Nat) (l0 : List Int) (r : Bool) (w : World) (hr0 : Kd.C (Kd.int .u8) w A0 l0.length l0) (hc0 : l0.length ≤ c0) (h : laws_FnDecDiv.f k l0 = some r) :
  Calls Try.prog 11 #[.slice A0 l0.length c0] w fun e w' => e = .returned (.bool r) ∧ Below w.heap.size w w' := by
 have hu26 := Try.underlying26
 have HR0 := zA hr0
 have HC0 := zA hc0
 clear hr0 hc0
 have HB := zA (Below.refl w.heap.size w)
 have H : (if (l0.length : Int) > 1048576 then (some true) else ((spec_DrawDecDiv.f k l0).bind fun bt669 => ((impl_DecDiv.f k bt669.1 bt669.2.1 bt669.2.2.1 bt669.2.2.2.1 bt669.2.2.2.2).bind fun bt676 => ((spec_DecDiv.f k bt669.1 bt669.2.1 bt669.2.2.1 bt669.2.2.2.1 bt669.2.2.2.2).bind fun bt680 => (if (!(bt676.1 == bt680.1) || (!(bt676.2.1 == bt680.2.1))) = true then (laws_FnDecDiv.j0 k bt669.2.2.2.2 bt676.2.2 bt680.2.2 true bt669.1 bt669.2.1 bt669.2.2.1 bt669.2.2.2.1 bt676.1 bt676.2.1 bt680.1 bt680.2.1) else (if (bt676.2.2 != bt680.2.2) = true then (laws_FnDecDiv.j0 k bt669.2.2.2.2 bt676.2.2 bt680.2.2 true bt669.1 bt669.2.1 bt669.2.2.1 bt669.2.2.2.1 bt676.1 bt676.2.1 bt680.1 bt680.2.1) else (laws_FnDecDiv.j0 k bt669.2.2.2.2 bt676.2.2 bt680.2.2 (!bt676.2.2) bt669.1 bt669.2.1 bt669.2.2.1 bt669.2.2.2.1 bt676.1 bt676.2.1 bt680.1 bt680.2.1))))))) = some r := h
 clear h
 by_cases c2 : (l0.length : Int) > 1048576
 ·rw [if_pos c2] at H
  have c2b0 : decide (1048576 < (l0.length : Int)) = true := decide_eq_true c2
  have c2b1 : decide (1048576 < l0.length) = true := decide_eq_true (by omega)
  clear c2
  obtain rfl := Option.some.inj H
  go_enter Try.func11, Try.ntmps11
  go_wp2
  go_ret
  exact ⟨by first | rfl | (simp [errW_none, errW_some] <;> rfl) | (simp [*, errW_none, errW_some] <;> rfl), by repeat (first | (with_reducible first | exact HB.out | apply zG | apply zE | apply zF) | exact HB.out)⟩
 ·rw [if_neg c2] at H
  have c2b0 : decide (1048576 < (l0.length : Int)) = false := decide_eq_false c2
  have c2b1 : decide (1048576 < l0.length) = false := decide_eq_false (by omega)
  clear c2
  replace H := Option.bind_eq_some_iff.mp H
  obtain ⟨⟨t669, t670, t671, t672, t673⟩, A30, H⟩ := H
  replace H : ((impl_DecDiv.f k t669 t670 t671 t672 t673).bind fun bt676 => ((spec_DecDiv.f k t669 t670 t671 t672 t673).bind fun bt680 => (if (!(bt676.1 == bt680.1) || (!(bt676.2.1 == bt680.2.1))) = true then (laws_FnDecDiv.j0 k t673 bt676.2.2 bt680.2.2 true t669 t670 t671 t672 bt676.1 bt676.2.1 bt680.1 bt680.2.1) else (if (bt676.2.2 != bt680.2.2) = true then (laws_FnDecDiv.j0 k t673 bt676.2.2 bt680.2.2 true t669 t670 t671 t672 bt676.1 bt676.2.1 bt680.1 bt680.2.1) else (laws_FnDecDiv.j0 k t673 bt676.2.2 bt680.2.2 (!bt676.2.2) t669 t670 t671 t672 bt676.1 bt676.2.1 bt680.1 bt680.2.1))))) = some r := H
  have A3 := zA A30
  clear A30
  replace H := Option.bind_eq_some_iff.mp H
  obtain ⟨⟨t676, t677, t678⟩, A40, H⟩ := H
  replace H : ((spec_DecDiv.f k t669 t670 t671 t672 t673).bind fun bt680 => (if (!(t676 == bt680.1) || (!(t677 == bt680.2.1))) = true then (laws_FnDecDiv.j0 k t673 t678 bt680.2.2 true t669 t670 t671 t672 t676 t677 bt680.1 bt680.2.1) else (if (t678 != bt680.2.2) = true then (laws_FnDecDiv.j0 k t673 t678 bt680.2.2 true t669 t670 t671 t672 t676 t677 bt680.1 bt680.2.1) else (laws_FnDecDiv.j0 k t673 t678 bt680.2.2 (!t678) t669 t670 t671 t672 t676 t677 bt680.1 bt680.2.1)))) = some r := H
  have A4 := zA A40
  clear A40
  replace H := Option.bind_eq_some_iff.mp H
  obtain ⟨⟨t680, t681, t682⟩, A50, H⟩ := H
  replace H : (if (!(t676 == t680) || (!(t677 == t681))) = true then (laws_FnDecDiv.j0 k t673 t678 t682 true t669 t670 t671 t672 t676 t677 t680 t681) else (if (t678 != t682) = true then (laws_FnDecDiv.j0 k t673 t678 t682 true t669 t670 t671 t672 t676 t677 t680 t681) else (laws_FnDecDiv.j0 k t673 t678 t682 (!t678) t669 t670 t671 t672 t676 t677 t680 t681))) = some r := H
  have A5 := zA A50
  clear A50
  have HC6 := zA H
  clear H
  go_enter Try.func11, Try.ntmps11
  go_upto_region 6 with (first | ((with_reducible refine zT (f := 36) rfl ?_); refine goesL_ (some 21) rfl rfl Try.func36 (by kernel_rfl) rfl #[.slice A0 l0.length c0] rfl (by (try simp only [List.map_toArray, List.map_cons, List.map_nil]); first | done | rfl | (simp only [List.length_drop, List.length_take]; rfl)) ?_; (with_reducible refine (spec_DrawDecDiv.calls k _ _ l0 t669 t670 t671 t672 t673 _ ?side1 ?side2 A3.out).mono ?_); (case side1 => repeat (first | exact HR0.out | (with_reducible refine Kd.C_alloc ?_ _) | (with_reducible refine Kd.C_drewN ?_ _) | (with_reducible refine Kd.C_drew ?_))); (case side2 => exact HC0.out); rintro e w7 ⟨rfl, hb⟩; refine ⟨_, rfl, ?_⟩; have n0_ := zA (zQ (by repeat (first | (with_reducible first | exact HB.out | apply zG | apply zE | apply zF) | exact HB.out)) hb); clear HB; have HB := n0_; clear n0_; (try clear hb); (try clear hb2); (try clear hk); (try clear hi)) | ((with_reducible refine zS (N := 3) rfl ?_); refine zV ?hg (N := 3) ?hd (cs := #[.int .i64 0, .int .i64 0]) (t := 26) ?hr ?_; (case hd => rfl); (case hg => rfl); (case hr => first | (go_simp; done) | (go_simp; rfl)); intro gb674 hg w8 hbox hb; have n0_ := zA (zQ (by repeat (first | (with_reducible first | exact HB.out | apply zG | apply zE | apply zF) | exact HB.out)) hb); have n1_ := zA (hbox); have n2_ := zA ((by rw [hg]; exact (zR (by repeat (first | (with_reducible first | exact HB.out | apply zG | apply zE | apply zF) | exact HB.out))) : w.heap.size ≤ gb674)); have n3_ := zA ((by rw [hg]; exact (zR (by repeat (first | (with_reducible first | exact HB.out | apply zG | apply zE | apply zF) | exact HB.out))) : w.heap.size ≤ gb674)); clear HB; have HB := n0_; have BK674 := n1_; have GW674 := n2_; have GE674 := n3_; clear n0_ n1_ n2_ n3_; clear hb hbox hg) | ((with_reducible refine zS (N := 4) rfl ?_); refine zV ?hg (N := 4) ?hd (cs := #[.int .i64 0, .int .i64 0]) (t := 26) ?hr ?_; (case hd => rfl); (case hg => rfl); (case hr => first | (go_simp; done) | (go_simp; rfl)); intro gb675 hg w9 hbox hb; have n0_ := zA (zP (g := gb674) (o := .cells #[.int .i64 0, .int .i64 0] 26 (0, 0)) (by (with_reducible repeat (first | refine zB ?_ _ | refine zD ?_ | refine zC ?_ _)); exact BK674.out) hb); have n1_ := zA (zQ (by repeat (first | (with_reducible first | exact HB.out | apply zG | apply zE | apply zF | refine zH ?_ GE674.out) | exact HB.out)) hb); have n2_ := zA (hbox); have n3_ := zA ((by rw [hg]; exact (zR (by repeat (first | (with_reducible first | exact HB.out | apply zG | apply zE | apply zF | refine zH ?_ GE674.out) | exact HB.out))) : w.heap.size ≤ gb675)); have n4_ := zA ((by rw [hg]; exact (zR (by repeat (first | (with_reducible first | exact HB.out | apply zG | apply zE | apply zF | refine zH ?_ GE674.out) | exact HB.out))) : w.heap.size ≤ gb675)); have n5_ := zA ((by rw [hg]; exact Nat.ne_of_lt (blk_lt (g := gb674) (o := .cells #[.int .i64 0, .int .i64 0] 26 (0, 0)) (by (with_reducible repeat (first | refine zB ?_ _ | refine zD ?_ | refine zC ?_ _)); exact BK674.out)) : gb674 ≠ gb675)); have n6_ := zA ((by rw [hg]; exact Nat.ne_of_gt (blk_lt (g := gb674) (o := .cells #[.int .i64 0, .int .i64 0] 26 (0, 0)) (by (with_reducible repeat (first | refine zB ?_ _ | refine zD ?_ | refine zC ?_ _)); exact BK674.out)) : gb675 ≠ gb674)); clear BK674; clear HB; have BK674 := n0_; have HB := n1_; have BK675 := n2_; have GW675 := n3_; have GE675 := n4_; have NB674_675 := n5_; have NB675_674 := n6_; clear n0_ n1_ n2_ n3_ n4_ n5_ n6_; clear hb hbox hg; have hnb10 := NB674_675.out; have hnc10 := NB675_674.out; have hcz11_0 : w9.cell? ⟨gb674, 0, none⟩ = some (.int .i64 0) := (zJ BK674.out 0).trans rfl; have hcz11_1 : w9.cell? ⟨gb674, 1, none⟩ = some (.int .i64 0) := (zJ BK674.out 1).trans rfl; have hfz11_0 := zK BK674.out 0; have hfz11_1 := zK BK674.out 1; have hcz12_0 : w9.cell? ⟨gb675, 0, none⟩ = some (.int .i64 0) := (zJ BK675.out 0).trans rfl; have hcz12_1 : w9.cell? ⟨gb675, 1, none⟩ = some (.int .i64 0) := (zJ BK675.out 1).trans rfl; have hfz12_0 := zK BK675.out 0; have hfz12_1 := zK BK675.out 1) | ((with_reducible refine zT (f := 37) rfl ?_); refine goesL_ (some 29) rfl rfl Try.func37 (by kernel_rfl) rfl #[.agg #[.int .i64 t669, .int .i64 t670], .agg #[.int .i64 t671, .int .i64 t672], .int .i64 t673] rfl (by (try simp only [List.map_toArray, List.map_cons, List.map_nil]); first | done | rfl | (simp only [List.length_drop, List.length_take]; rfl)) ?_; (with_reducible refine (impl_DecDiv.calls k t669 t670 t671 t672 t673 t676 t677 t678 _ A4.out).mono ?_); rintro e w13 ⟨rfl, hb⟩; refine ⟨_, rfl, ?_⟩; have n0_ := zA (zP (g := gb674) (o := .cells #[.int .i64 t669, .int .i64 t670] 26 (0, 0)) (by (with_reducible repeat (first | refine zB ?_ _ | refine zD ?_ | refine zC ?_ _)); refine blk_far ?_ NB674_675.out _; (with_reducible repeat (first | refine zB ?_ _ | refine zD ?_ | refine zC ?_ _)); refine blk_far ?_ NB674_675.out _; (with_reducible repeat (first | refine zB ?_ _ | refine zD ?_ | refine zC ?_ _)); refine blk_put (cs := #[.int .i64 t669, .int .i64 0]) ?_ 1 _ rfl; (with_reducible repeat (first | refine zB ?_ _ | refine zD ?_ | refine zC ?_ _)); refine blk_put (cs := #[.int .i64 0, .int .i64 0]) ?_ 0 _ rfl; (with_reducible repeat (first | refine zB ?_ _ | refine zD ?_ | refine zC ?_ _)); exact BK674.out) hb); have n1_ := zA (zP (g := gb675) (o := .cells #[.int .i64 t671, .int .i64 t672] 26 (0, 0)) (by (with_reducible repeat (first | refine zB ?_ _ | refine zD ?_ | refine zC ?_ _)); refine blk_put (cs := #[.int .i64 t671, .int .i64 0]) ?_ 1 _ rfl; (with_reducible repeat (first | refine zB ?_ _ | refine zD ?_ | refine zC ?_ _)); refine blk_put (cs := #[.int .i64 0, .int .i64 0]) ?_ 0 _ rfl; (with_reducible repeat (first | refine zB ?_ _ | refine zD ?_ | refine zC ?_ _)); refine blk_far ?_ NB675_674.out _; (with_reducible repeat (first | refine zB ?_ _ | refine zD ?_ | refine zC ?_ _)); refine blk_far ?_ NB675_674.out _; (with_reducible repeat (first | refine zB ?_ _ | refine zD ?_ | refine zC ?_ _)); exact BK675.out) hb); have n2_ := zA (zQ (by repeat (first | (with_reducible first | exact HB.out | apply zG | apply zE | apply zF | refine zH ?_ GE674.out | refine zH ?_ GE675.out) | exact HB.out)) hb); clear BK674; clear BK675; clear HB; have BK674 := n0_; have BK675 := n1_; have HB := n2_; clear n0_ n1_ n2_; (try clear hb); (try clear hb2); (try clear hk); (try clear hi)) | ((with_reducible refine zS (N := 6) rfl ?_); refine zV ?hg (N := 6) ?hd (cs := #[.int .i64 0, .int .i64 0]) (t := 26) ?hr ?_; (case hd => rfl); (case hg => rfl); (case hr => first | (go_simp; done) | (go_simp; rfl)); intro gb679 hg w14 hbox hb; have n0_ := zA (zP (g := gb674) (o := .cells #[.int .i64 t669, .int .i64 t670] 26 (0, 0)) (by (with_reducible repeat (first | refine zB ?_ _ | refine zD ?_ | refine zC ?_ _)); exact BK674.out) hb); have n1_ := zA (zP (g := gb675) (o := .cells #[.int .i64 t671, .int .i64 t672] 26 (0, 0)) (by (with_reducible repeat (first | refine zB ?_ _ | refine zD ?_ | refine zC ?_ _)); exact BK675.out) hb); have n2_ := zA (zQ (by repeat (first | (with_reducible first | exact HB.out | apply zG | apply zE | apply zF | refine zH ?_ GE674.out | refine zH ?_ GE675.out) | exact HB.out)) hb); have n3_ := zA (hbox); have n4_ := zA ((by rw [hg]; exact (zR (by repeat (first | (with_reducible first | exact HB.out | apply zG | apply zE | apply zF | refine zH ?_ GE674.out | refine zH ?_ GE675.out) | exact HB.out))) : w.heap.size ≤ gb679)); have n5_ := zA ((by rw [hg]; exact (zR (by repeat (first | (with_reducible first | exact HB.out | apply zG | apply zE | apply zF | refine zH ?_ GE674.out | refine zH ?_ GE675.out) | exact HB.out))) : w.heap.size ≤ gb679)); have n6_ := zA ((by rw [hg]; exact Nat.ne_of_lt (blk_lt (g := gb674) (o := .cells #[.int .i64 t669, .int .i64 t670] 26 (0, 0)) (by (with_reducible repeat (first | refine zB ?_ _ | refine zD ?_ | refine zC ?_ _)); exact BK674.out)) : gb674 ≠ gb679)); have n7_ := zA ((by rw [hg]; exact Nat.ne_of_gt (blk_lt (g := gb674) (o := .cells #[.int .i64 t669, .int .i64 t670] 26 (0, 0)) (by (with_reducible repeat (first | refine zB ?_ _ | refine zD ?_ | refine zC ?_ _)); exact BK674.out)) : gb679 ≠ gb674)); have n8_ := zA ((by rw [hg]; exact Nat.ne_of_lt (blk_lt (g := gb675) (o := .cells #[.int .i64 t671, .int .i64 t672] 26 (0, 0)) (by (with_reducible repeat (first | refine zB ?_ _ | refine zD ?_ | refine zC ?_ _)); exact BK675.out)) : gb675 ≠ gb679)); have n9_ := zA ((by rw [hg]; exact Nat.ne_of_gt (blk_lt (g := gb675) (o := .cells #[.int .i64 t671, .int .i64 t672] 26 (0, 0)) (by (with_reducible repeat (first | refine zB ?_ _ | refine zD ?_ | refine zC ?_ _)); exact BK675.out)) : gb679 ≠ gb675)); clear BK674; clear BK675; clear HB; have BK674 := n0_; have BK675 := n1_; have HB := n2_; have BK679 := n3_; have GW679 := n4_; have GE679 := n5_; have NB674_679 := n6_; have NB679_674 := n7_; have NB675_679 := n8_; have NB679_675 := n9_; clear n0_ n1_ n2_ n3_ n4_ n5_ n6_ n7_ n8_ n9_; clear hb hbox hg; have hnb15 := NB679_674.out; have hnc15 := NB674_679.out; have hnb16 := NB679_675.out; have hnc16 := NB675_679.out; have hcz17_0 : w14.cell? ⟨gb679, 0, none⟩ = some (.int .i64 0) := (zJ BK679.out 0).trans rfl; have hcz17_1 : w14.cell? ⟨gb679, 1, none⟩ = some (.int .i64 0) := (zJ BK679.out 1).trans rfl; have hfz17_0 := zK BK679.out 0; have hfz17_1 := zK BK679.out 1; have hcz18_0 : w14.cell? ⟨gb674, 0, none⟩ = some (.int .i64 t669) := (zJ BK674.out 0).trans rfl; have hcz18_1 : w14.cell? ⟨gb674, 1, none⟩ = some (.int .i64 t670) := (zJ BK674.out 1).trans rfl; have hfz18_0 := zK BK674.out 0; have hfz18_1 := zK BK674.out 1; have hcz19_0 : w14.cell? ⟨gb675, 0, none⟩ = some (.int .i64 t671) := (zJ BK675.out 0).trans rfl; have hcz19_1 : w14.cell? ⟨gb675, 1, none⟩ = some (.int .i64 t672) := (zJ BK675.out 1).trans rfl; have hfz19_0 := zK BK675.out 0; have hfz19_1 := zK BK675.out 1) | ((with_reducible refine zT (f := 38) rfl ?_); refine goesL_ (some 36) rfl rfl Try.func38 (by kernel_rfl) rfl #[.agg #[.int .i64 t669, .int .i64 t670], .agg #[.int .i64 t671, .int .i64 t672], .int .i64 t673] rfl (by (try simp only [List.map_toArray, List.map_cons, List.map_nil]); first | done | rfl | (simp only [List.length_drop, List.length_take]; rfl)) ?_; (with_reducible refine (spec_DecDiv.calls k t669 t670 t671 t672 t673 t680 t681 t682 _ A5.out).mono ?_); rintro e w20 ⟨rfl, hb⟩; refine ⟨_, rfl, ?_⟩; have n0_ := zA (zP (g := gb674) (o := .cells #[.int .i64 t669, .int .i64 t670] 26 (0, 0)) (by (with_reducible repeat (first | refine zB ?_ _ | refine zD ?_ | refine zC ?_ _)); refine blk_far ?_ NB674_679.out _; (with_reducible repeat (first | refine zB ?_ _ | refine zD ?_ | refine zC ?_ _)); refine blk_far ?_ NB674_679.out _; (with_reducible repeat (first | refine zB ?_ _ | refine zD ?_ | refine zC ?_ _)); exact BK674.out) hb); have n1_ := zA (zP (g := gb675) (o := .cells #[.int .i64 t671, .int .i64 t672] 26 (0, 0)) (by (with_reducible repeat (first | refine zB ?_ _ | refine zD ?_ | refine zC ?_ _)); refine blk_far ?_ NB675_679.out _; (with_reducible repeat (first | refine zB ?_ _ | refine zD ?_ | refine zC ?_ _)); refine blk_far ?_ NB675_679.out _; (with_reducible repeat (first | refine zB ?_ _ | refine zD ?_ | refine zC ?_ _)); exact BK675.out) hb); have n2_ := zA (zP (g := gb679) (o := .cells #[.int .i64 t676, .int .i64 t677] 26 (0, 0)) (by (with_reducible repeat (first | refine zB ?_ _ | refine zD ?_ | refine zC ?_ _)); refine blk_put (cs := #[.int .i64 t676, .int .i64 0]) ?_ 1 _ rfl; (with_reducible repeat (first | refine zB ?_ _ | refine zD ?_ | refine zC ?_ _)); refine blk_put (cs := #[.int .i64 0, .int .i64 0]) ?_ 0 _ rfl; (with_reducible repeat (first | refine zB ?_ _ | refine zD ?_ | refine zC ?_ _)); exact BK679.out) hb); have n3_ := zA (zQ (by repeat (first | (with_reducible first | exact HB.out | apply zG | apply zE | apply zF | refine zH ?_ GE674.out | refine zH ?_ GE675.out | refine zH ?_ GE679.out) | exact HB.out)) hb); clear BK674; clear BK675; clear BK679; clear HB; have BK674 := n0_; have BK675 := n1_; have BK679 := n2_; have HB := n3_; clear n0_ n1_ n2_ n3_; (try clear hb); (try clear hb2); (try clear hk); (try clear hi)) | ((with_reducible refine zS (N := 8) rfl ?_); refine zV ?hg (N := 8) ?hd (cs := #[.int .i64 0, .int .i64 0]) (t := 26) ?hr ?_; (case hd => rfl); (case hg => rfl); (case hr => first | (go_simp; done) | (go_simp; rfl)); intro gb683 hg w21 hbox hb; have n0_ := zA (zP (g := gb674) (o := .cells #[.int .i64 t669, .int .i64 t670] 26 (0, 0)) (by (with_reducible repeat (first | refine zB ?_ _ | refine zD ?_ | refine zC ?_ _)); exact BK674.out) hb); have n1_ := zA (zP (g := gb675) (o := .cells #[.int .i64 t671, .int .i64 t672] 26 (0, 0)) (by (with_reducible repeat (first | refine zB ?_ _ | refine zD ?_ | refine zC ?_ _)); exact BK675.out) hb); have n2_ := zA (zP (g := gb679) (o := .cells #[.int .i64 t676, .int .i64 t677] 26 (0, 0)) (by (with_reducible repeat (first | refine zB ?_ _ | refine zD ?_ | refine zC ?_ _)); exact BK679.out) hb); have n3_ := zA (zQ (by repeat (first | (with_reducible first | exact HB.out | apply zG | apply zE | apply zF | refine zH ?_ GE674.out | refine zH ?_ GE675.out | refine zH ?_ GE679.out) | exact HB.out)) hb); have n4_ := zA (hbox); have n5_ := zA ((by rw [hg]; exact (zR (by repeat (first | (with_reducible first | exact HB.out | apply zG | apply zE | apply zF | refine zH ?_ GE674.out | refine zH ?_ GE675.out | refine zH ?_ GE679.out) | exact HB.out))) : w.heap.size ≤ gb683)); have n6_ := zA ((by rw [hg]; exact (zR (by repeat (first | (with_reducible first | exact HB.out | apply zG | apply zE | apply zF | refine zH ?_ GE674.out | refine zH ?_ GE675.out | refine zH ?_ GE679.out) | exact HB.out))) : w.heap.size ≤ gb683)); have n7_ := zA ((by rw [hg]; exact Nat.ne_of_lt (blk_lt (g := gb674) (o := .cells #[.int .i64 t669, .int .i64 t670] 26 (0, 0)) (by (with_reducible repeat (first | refine zB ?_ _ | refine zD ?_ | refine zC ?_ _)); exact BK674.out)) : gb674 ≠ gb683)); have n8_ := zA ((by rw [hg]; exact Nat.ne_of_gt (blk_lt (g := gb674) (o := .cells #[.int .i64 t669, .int .i64 t670] 26 (0, 0)) (by (with_reducible repeat (first | refine zB ?_ _ | refine zD ?_ | refine zC ?_ _)); exact BK674.out)) : gb683 ≠ gb674)); have n9_ := zA ((by rw [hg]; exact Nat.ne_of_lt (blk_lt (g := gb675) (o := .cells #[.int .i64 t671, .int .i64 t672] 26 (0, 0)) (by (with_reducible repeat (first | refine zB ?_ _ | refine zD ?_ | refine zC ?_ _)); exact BK675.out)) : gb675 ≠ gb683)); have n10_ := zA ((by rw [hg]; exact Nat.ne_of_gt (blk_lt (g := gb675) (o := .cells #[.int .i64 t671, .int .i64 t672] 26 (0, 0)) (by (with_reducible repeat (first | refine zB ?_ _ | refine zD ?_ | refine zC ?_ _)); exact BK675.out)) : gb683 ≠ gb675)); have n11_ := zA ((by rw [hg]; exact Nat.ne_of_lt (blk_lt (g := gb679) (o := .cells #[.int .i64 t676, .int .i64 t677] 26 (0, 0)) (by (with_reducible repeat (first | refine zB ?_ _ | refine zD ?_ | refine zC ?_ _)); exact BK679.out)) : gb679 ≠ gb683)); have n12_ := zA ((by rw [hg]; exact Nat.ne_of_gt (blk_lt (g := gb679) (o := .cells #[.int .i64 t676, .int .i64 t677] 26 (0, 0)) (by (with_reducible repeat (first | refine zB ?_ _ | refine zD ?_ | refine zC ?_ _)); exact BK679.out)) : gb683 ≠ gb679)); clear BK674; clear BK675; clear BK679; clear HB; have BK674 := n0_; have BK675 := n1_; have BK679 := n2_; have HB := n3_; have BK683 := n4_; have GW683 := n5_; have GE683 := n6_; have NB674_683 := n7_; have NB683_674 := n8_; have NB675_683 := n9_; have NB683_675 := n10_; have NB679_683 := n11_; have NB683_679 := n12_; clear n0_ n1_ n2_ n3_ n4_ n5_ n6_ n7_ n8_ n9_ n10_ n11_ n12_; clear hb hbox hg; have hnb22 := NB683_674.out; have hnc22 := NB674_683.out; have hnb23 := NB683_675.out; have hnc23 := NB675_683.out; have hnb24 := NB683_679.out; have hnc24 := NB679_683.out; have hcz25_0 : w21.cell? ⟨gb683, 0, none⟩ = some (.int .i64 0) := (zJ BK683.out 0).trans rfl; have hcz25_1 : w21.cell? ⟨gb683, 1, none⟩ = some (.int .i64 0) := (zJ BK683.out 1).trans rfl; have hfz25_0 := zK BK683.out 0; have hfz25_1 := zK BK683.out 1))
  (try simp only [Act.put, zL, zM, zN])
  go_cut [50] (fun v50 wc => ∃ (kq : Nat) (x50_5 : Bool), v50 = .bool x50_5 ∧ Aside0 (laws_FnDecDiv.j0 kq t673 t678 t682 x50_5 t669 t670 t671 t672 t676 t677 t680 t681 = some r) ∧ Aside0 (kq ≤ k) ∧ Aside0 (wc.heap[gb674]? = some (.cells #[.int .i64 t669, .int .i64 t670] 26 (0, 0))) ∧ Aside0 (wc.heap[gb675]? = some (.cells #[.int .i64 t671, .int .i64 t672] 26 (0, 0))) ∧ Aside0 (wc.heap[gb679]? = some (.cells #[.int .i64 t676, .int .i64 t677] 26 (0, 0))) ∧ Aside0 (wc.heap[gb683]? = some (.cells #[.int .i64 t680, .int .i64 t681] 26 (0, 0))) ∧ Aside0 (Below w.heap.size w wc))
  case first =>
   have H := HC6.out
   clear HC6
   by_cases c26 : (!(t676 == t680) || (!(t677 == t681))) = true
   ·rw [if_pos c26] at H
    have c26b0 : (!(t676 == t680) || (!(t677 == t681))) = true := c26
    clear c26
    (first | rw [c26b0] | (simp only [i64_w, i32_w]; rw [c26b0]) | skip)
    have H' := zA H
    clear H
    have hnb27 := NB679_674.out
    have hnc27 := NB674_679.out
    have hnb28 := NB679_675.out
    have hnc28 := NB675_679.out
    have hnb29 := NB679_683.out
    have hnc29 := NB683_679.out
    have hcz30_0 : w21.cell? ⟨gb679, 0, none⟩ = some (.int .i64 t676) := (zJ BK679.out 0).trans rfl
    have hcz30_1 : w21.cell? ⟨gb679, 1, none⟩ = some (.int .i64 t677) := (zJ BK679.out 1).trans rfl
    have hfz30_0 := zK BK679.out 0
    have hfz30_1 := zK BK679.out 1
    have hnb31 := NB683_674.out
    have hnc31 := NB674_683.out
    have hnb32 := NB683_675.out
    have hnc32 := NB675_683.out
    have hcz33_0 : w21.cell? ⟨gb683, 0, none⟩ = some (.int .i64 0) := (zJ BK683.out 0).trans rfl
    have hcz33_1 : w21.cell? ⟨gb683, 1, none⟩ = some (.int .i64 0) := (zJ BK683.out 1).trans rfl
    have hfz33_0 := zK BK683.out 0
    have hfz33_1 := zK BK683.out 1
    go_wp2
    go_meet
    case rel => exact ⟨_, (true), (by first | rfl | (simp; done) | (simp [*]; done)), H', ⟨by first | omega | exact Nat.le_refl _⟩, ⟨by (with_reducible repeat (first | refine zB ?_ _ | refine zD ?_ | refine zC ?_ _)); refine blk_far ?_ NB674_683.out _; (with_reducible repeat (first | refine zB ?_ _ | refine zD ?_ | refine zC ?_ _)); refine blk_far ?_ NB674_683.out _; (with_reducible repeat (first | refine zB ?_ _ | refine zD ?_ | refine zC ?_ _)); exact BK674.out⟩, ⟨by (with_reducible repeat (first | refine zB ?_ _ | refine zD ?_ | refine zC ?_ _)); refine blk_far ?_ NB675_683.out _; (with_reducible repeat (first | refine zB ?_ _ | refine zD ?_ | refine zC ?_ _)); refine blk_far ?_ NB675_683.out _; (with_reducible repeat (first | refine zB ?_ _ | refine zD ?_ | refine zC ?_ _)); exact BK675.out⟩, ⟨by (with_reducible repeat (first | refine zB ?_ _ | refine zD ?_ | refine zC ?_ _)); refine blk_far ?_ NB679_683.out _; (with_reducible repeat (first | refine zB ?_ _ | refine zD ?_ | refine zC ?_ _)); refine blk_far ?_ NB679_683.out _; (with_reducible repeat (first | refine zB ?_ _ | refine zD ?_ | refine zC ?_ _)); exact BK679.out⟩, ⟨by (with_reducible repeat (first | refine zB ?_ _ | refine zD ?_ | refine zC ?_ _)); refine blk_put (cs := #[.int .i64 t680, .int .i64 0]) ?_ 1 _ rfl; (with_reducible repeat (first | refine zB ?_ _ | refine zD ?_ | refine zC ?_ _)); refine blk_put (cs := #[.int .i64 0, .int .i64 0]) ?_ 0 _ rfl; (with_reducible repeat (first | refine zB ?_ _ | refine zD ?_ | refine zC ?_ _)); exact BK683.out⟩, ⟨by repeat (first | (with_reducible first | exact HB.out | apply zG | apply zE | apply zF | refine zH ?_ GE674.out | refine zH ?_ GE675.out | refine zH ?_ GE679.out | refine zH ?_ GE683.out) | exact HB.out)⟩⟩
   ·rw [if_neg c26] at H
    have c26b0 : (!(t676 == t680) || (!(t677 == t681))) = false := by simpa using c26
    clear c26
    (first | rw [c26b0] | (simp only [i64_w, i32_w]; rw [c26b0]) | skip)
    by_cases c34 : (t678 != t682) = true
    ·rw [if_pos c34] at H
     have c34b0 : (t678 != t682) = true := c34
     (try (have c34b1 : decide (t678 = t682) = false := by simpa using c34))
     (try (have c34b2 : (t678 == t682) = false := by simpa using c34))
     (try (have c34b3 : ¬ (t678 = t682) := by simpa using c34))
     clear c34
     have H' := zA H
     clear H
     have hnb35 := NB679_674.out
     have hnc35 := NB674_679.out
     have hnb36 := NB679_675.out
     have hnc36 := NB675_679.out
     have hnb37 := NB679_683.out
     have hnc37 := NB683_679.out
     have hcz38_0 : w21.cell? ⟨gb679, 0, none⟩ = some (.int .i64 t676) := (zJ BK679.out 0).trans rfl
     have hcz38_1 : w21.cell? ⟨gb679, 1, none⟩ = some (.int .i64 t677) := (zJ BK679.out 1).trans rfl
     have hfz38_0 := zK BK679.out 0
     have hfz38_1 := zK BK679.out 1
     have hnb39 := NB683_674.out
     have hnc39 := NB674_683.out
     have hnb40 := NB683_675.out
     have hnc40 := NB675_683.out
     have hcz41_0 : w21.cell? ⟨gb683, 0, none⟩ = some (.int .i64 0) := (zJ BK683.out 0).trans rfl
     have hcz41_1 : w21.cell? ⟨gb683, 1, none⟩ = some (.int .i64 0) := (zJ BK683.out 1).trans rfl
     have hfz41_0 := zK BK683.out 0
     have hfz41_1 := zK BK683.out 1
     go_wp2
     go_meet
     case rel => exact ⟨_, (true), (by first | rfl | (simp; done) | (simp [*]; done)), H', ⟨by first | omega | exact Nat.le_refl _⟩, ⟨by (with_reducible repeat (first | refine zB ?_ _ | refine zD ?_ | refine zC ?_ _)); refine blk_far ?_ NB674_683.out _; (with_reducible repeat (first | refine zB ?_ _ | refine zD ?_ | refine zC ?_ _)); refine blk_far ?_ NB674_683.out _; (with_reducible repeat (first | refine zB ?_ _ | refine zD ?_ | refine zC ?_ _)); exact BK674.out⟩, ⟨by (with_reducible repeat (first | refine zB ?_ _ | refine zD ?_ | refine zC ?_ _)); refine blk_far ?_ NB675_683.out _; (with_reducible repeat (first | refine zB ?_ _ | refine zD ?_ | refine zC ?_ _)); refine blk_far ?_ NB675_683.out _; (with_reducible repeat (first | refine zB ?_ _ | refine zD ?_ | refine zC ?_ _)); exact BK675.out⟩, ⟨by (with_reducible repeat (first | refine zB ?_ _ | refine zD ?_ | refine zC ?_ _)); refine blk_far ?_ NB679_683.out _; (with_reducible repeat (first | refine zB ?_ _ | refine zD ?_ | refine zC ?_ _)); refine blk_far ?_ NB679_683.out _; (with_reducible repeat (first | refine zB ?_ _ | refine zD ?_ | refine zC ?_ _)); exact BK679.out⟩, ⟨by (with_reducible repeat (first | refine zB ?_ _ | refine zD ?_ | refine zC ?_ _)); refine blk_put (cs := #[.int .i64 t680, .int .i64 0]) ?_ 1 _ rfl; (with_reducible repeat (first | refine zB ?_ _ | refine zD ?_ | refine zC ?_ _)); refine blk_put (cs := #[.int .i64 0, .int .i64 0]) ?_ 0 _ rfl; (with_reducible repeat (first | refine zB ?_ _ | refine zD ?_ | refine zC ?_ _)); exact BK683.out⟩, ⟨by repeat (first | (with_reducible first | exact HB.out | apply zG | apply zE | apply zF | refine zH ?_ GE674.out | refine zH ?_ GE675.out | refine zH ?_ GE679.out | refine zH ?_ GE683.out) | exact HB.out)⟩⟩
    ·rw [if_neg c34] at H
     have c34b0 : (t678 != t682) = false := by simpa using c34
     (try (have c34b1 : decide (t678 = t682) = true := by simpa using c34))
     (try (have c34b2 : (t678 == t682) = true := by simpa using c34))
     clear c34
     have H' := zA H
     clear H
     have hnb42 := NB679_674.out
     have hnc42 := NB674_679.out
     have hnb43 := NB679_675.out
     have hnc43 := NB675_679.out
     have hnb44 := NB679_683.out
     have hnc44 := NB683_679.out
     have hcz45_0 : w21.cell? ⟨gb679, 0, none⟩ = some (.int .i64 t676) := (zJ BK679.out 0).trans rfl
     have hcz45_1 : w21.cell? ⟨gb679, 1, none⟩ = some (.int .i64 t677) := (zJ BK679.out 1).trans rfl
     have hfz45_0 := zK BK679.out 0
     have hfz45_1 := zK BK679.out 1
     have hnb46 := NB683_674.out
     have hnc46 := NB674_683.out
     have hnb47 := NB683_675.out
     have hnc47 := NB675_683.out
     have hcz48_0 : w21.cell? ⟨gb683, 0, none⟩ = some (.int .i64 0) := (zJ BK683.out 0).trans rfl
     have hcz48_1 : w21.cell? ⟨gb683, 1, none⟩ = some (.int .i64 0) := (zJ BK683.out 1).trans rfl
     have hfz48_0 := zK BK683.out 0
     have hfz48_1 := zK BK683.out 1
     go_wp2
     go_meet
     case rel => exact ⟨_, (!t678), (by first | rfl | (simp; done) | (simp [*]; done)), H', ⟨by first | omega | exact Nat.le_refl _⟩, ⟨by (with_reducible repeat (first | refine zB ?_ _ | refine zD ?_ | refine zC ?_ _)); refine blk_far ?_ NB674_683.out _; (with_reducible repeat (first | refine zB ?_ _ | refine zD ?_ | refine zC ?_ _)); refine blk_far ?_ NB674_683.out _; (with_reducible repeat (first | refine zB ?_ _ | refine zD ?_ | refine zC ?_ _)); exact BK674.out⟩, ⟨by (with_reducible repeat (first | refine zB ?_ _ | refine zD ?_ | refine zC ?_ _)); refine blk_far ?_ NB675_683.out _; (with_reducible repeat (first | refine zB ?_ _ | refine zD ?_ | refine zC ?_ _)); refine blk_far ?_ NB675_683.out _; (with_reducible repeat (first | refine zB ?_ _ | refine zD ?_ | refine zC ?_ _)); exact BK675.out⟩, ⟨by (with_reducible repeat (first | refine zB ?_ _ | refine zD ?_ | refine zC ?_ _)); refine blk_far ?_ NB679_683.out _; (with_reducible repeat (first | refine zB ?_ _ | refine zD ?_ | refine zC ?_ _)); refine blk_far ?_ NB679_683.out _; (with_reducible repeat (first | refine zB ?_ _ | refine zD ?_ | refine zC ?_ _)); exact BK679.out⟩, ⟨by (with_reducible repeat (first | refine zB ?_ _ | refine zD ?_ | refine zC ?_ _)); refine blk_put (cs := #[.int .i64 t680, .int .i64 0]) ?_ 1 _ rfl; (with_reducible repeat (first | refine zB ?_ _ | refine zD ?_ | refine zC ?_ _)); refine blk_put (cs := #[.int .i64 0, .int .i64 0]) ?_ 0 _ rfl; (with_reducible repeat (first | refine zB ?_ _ | refine zD ?_ | refine zC ?_ _)); exact BK683.out⟩, ⟨by repeat (first | (with_reducible first | exact HB.out | apply zG | apply zE | apply zF | refine zH ?_ GE674.out | refine zH ?_ GE675.out | refine zH ?_ GE679.out | refine zH ?_ GE683.out) | exact HB.out)⟩⟩
  case rest =>
   clear HC6
   try clear c1
   try clear c2
   try clear c2b0
   try clear c2b1
   try clear p2
   try clear c3
   try clear c4
   try clear c10
   try clear c11
   try clear c15
   try clear c16
   try clear c22
   try clear c23
   try clear c24
   try clear c26
   try clear c26b0
   try clear c27
   try clear c28
   try clear c29
   try clear c31
   try clear c32
   try clear c34
   try clear c34b0
   try clear c34b1
   try clear c34b2
   try clear c35
   try clear c36
   try clear c37
   try clear c38
   try clear c39
   try clear c40
   try clear c42
   try clear c43
   try clear c44
   try clear c46
   try clear c47
   try clear hcz11_0
   try clear hcz11_1
   try clear hcz12_0
   try clear hcz12_1
   try clear hcz17_0
   try clear hcz17_1
   try clear hcz18_0
   try clear hcz18_1
   try clear hcz19_0
   try clear hcz19_1
   try clear hcz25_0
   try clear hcz25_1
   try clear hcz30_0
   try clear hcz30_1
   try clear hcz33_0
   try clear hcz33_1
   try clear hcz38_0
   try clear hcz38_1
   try clear hcz41_0
   try clear hcz41_1
   try clear hcz45_0
   try clear hcz45_1
   try clear hcz48_0
   try clear hcz48_1
   try clear hfz11_0
   try clear hfz11_1
   try clear hfz12_0
   try clear hfz12_1
   try clear hfz17_0
   try clear hfz17_1
   try clear hfz18_0
   try clear hfz18_1
   try clear hfz19_0
   try clear hfz19_1
   try clear hfz25_0
   try clear hfz25_1
   try clear hfz30_0
   try clear hfz30_1
   try clear hfz33_0
   try clear hfz33_1
   try clear hfz38_0
   try clear hfz38_1
   try clear hfz41_0
   try clear hfz41_1
   try clear hfz45_0
   try clear hfz45_1
   try clear hfz48_0
   try clear hfz48_1
   obtain ⟨kq, x50_5, rfl, HA, HJ5, BK674, BK675, BK679, BK683, HB⟩ := hcut
   cases kq with
   | zero => exact absurd HA.out (by simp [laws_FnDecDiv.j0])
   | succ kj5 =>
    have H := HA.out
    clear HA
    simp only [laws_FnDecDiv.j0] at H
    by_cases c49 : x50_5 = true
    ·subst c49
     have H1 : (if (t676 == t680 && (t677 == t681)) = true then (some (t678 == t682)) else (none)) = some r := by rw [if_pos rfl] at H; exact H
     clear H
     have H := H1
     clear H1
     by_cases c50 : (t676 == t680 && (t677 == t681)) = true
     ·rw [if_pos c50] at H
      have c50b0 : (t676 == t680 && (t677 == t681)) = true := c50
      (try (have c50b1 : decide (t676 = t680 && (t677 == t681)) = true := by simpa using c50))
      (try (have c50b2 : (t676 == t680 && (t677 == t681)) = true := by simpa using c50))
      clear c50
      obtain rfl := Option.some.inj H
      have hnb51 := NB679_674.out
      have hnc51 := NB674_679.out
      have hnb52 := NB679_675.out
      have hnc52 := NB675_679.out
      have hnb53 := NB679_683.out
      have hnc53 := NB683_679.out
      have hcz54_0 : wc.cell? ⟨gb679, 0, none⟩ = some (.int .i64 t676) := (zJ BK679.out 0).trans rfl
      have hcz54_1 : wc.cell? ⟨gb679, 1, none⟩ = some (.int .i64 t677) := (zJ BK679.out 1).trans rfl
      have hfz54_0 := zK BK679.out 0
      have hfz54_1 := zK BK679.out 1
      have hnb55 := NB683_674.out
      have hnc55 := NB674_683.out
      have hnb56 := NB683_675.out
      have hnc56 := NB675_683.out
      have hcz57_0 : wc.cell? ⟨gb683, 0, none⟩ = some (.int .i64 t680) := (zJ BK683.out 0).trans rfl
      have hcz57_1 : wc.cell? ⟨gb683, 1, none⟩ = some (.int .i64 t681) := (zJ BK683.out 1).trans rfl
      have hfz57_0 := zK BK683.out 0
      have hfz57_1 := zK BK683.out 1
      go_wp2
      go_ret
      exact ⟨by first | rfl | (simp [errW_none, errW_some] <;> rfl) | (simp [*, errW_none, errW_some] <;> rfl), by repeat (first | (with_reducible first | exact HB.out | apply zG | apply zE | apply zF | refine zH ?_ GE674.out | refine zH ?_ GE675.out | refine zH ?_ GE679.out | refine zH ?_ GE683.out) | exact HB.out)⟩
     ·rw [if_neg c50] at H
      exact absurd H (by simp)
    ·replace c49 := Bool.eq_false_iff.mpr c49
     subst c49
     have H1 : ((impl_DecMul.f kj5 t676 t677 t671 t672).bind fun bt684 => ((impl_DecSub.f kj5 t669 t670 bt684.1 bt684.2.1).bind fun bt688 => ((laws_chAbs.f t671 t672).bind fun bt692 => ((impl_DecMul.f kj5 bt692.1 bt692.2 1 (wrap64 (-t673))).bind fun bt694 => (if t677 < (wrap64 (-t673)) then (laws_FnDecDiv.j1 kj5 bt684.2.2 bt688.2.2 bt694.2.2 true t669 t670 bt684.1 bt684.2.1 bt688.1 bt688.2.1 bt694.1 bt694.2.1) else (if t676 = 0 then (laws_FnDecDiv.j1 kj5 bt684.2.2 bt688.2.2 bt694.2.2 false t669 t670 bt684.1 bt684.2.1 bt688.1 bt688.2.1 bt694.1 bt694.2.1) else (laws_FnDecDiv.j1 kj5 bt684.2.2 bt688.2.2 bt694.2.2 ((decide (t676 < 0)) != ((decide (t669 < 0)) != (decide (t671 < 0)))) t669 t670 bt684.1 bt684.2.1 bt688.1 bt688.2.1 bt694.1 bt694.2.1))))))) = some r := by rw [if_neg (show ¬ (false = true) by decide)] at H; exact H
     clear H
     have H := H1
     clear H1
     replace H := Option.bind_eq_some_iff.mp H
     obtain ⟨⟨t684, t685, t686⟩, A580, H⟩ := H
     replace H : ((impl_DecSub.f kj5 t669 t670 t684 t685).bind fun bt688 => ((laws_chAbs.f t671 t672).bind fun bt692 => ((impl_DecMul.f kj5 bt692.1 bt692.2 1 (wrap64 (-t673))).bind fun bt694 => (if t677 < (wrap64 (-t673)) then (laws_FnDecDiv.j1 kj5 t686 bt688.2.2 bt694.2.2 true t669 t670 t684 t685 bt688.1 bt688.2.1 bt694.1 bt694.2.1) else (if t676 = 0 then (laws_FnDecDiv.j1 kj5 t686 bt688.2.2 bt694.2.2 false t669 t670 t684 t685 bt688.1 bt688.2.1 bt694.1 bt694.2.1) else (laws_FnDecDiv.j1 kj5 t686 bt688.2.2 bt694.2.2 ((decide (t676 < 0)) != ((decide (t669 < 0)) != (decide (t671 < 0)))) t669 t670 t684 t685 bt688.1 bt688.2.1 bt694.1 bt694.2.1)))))) = some r := H
     have A58 := zA A580
     clear A580
     replace H := Option.bind_eq_some_iff.mp H
     obtain ⟨⟨t688, t689, t690⟩, A590, H⟩ := H
     replace H : ((laws_chAbs.f t671 t672).bind fun bt692 => ((impl_DecMul.f kj5 bt692.1 bt692.2 1 (wrap64 (-t673))).bind fun bt694 => (if t677 < (wrap64 (-t673)) then (laws_FnDecDiv.j1 kj5 t686 t690 bt694.2.2 true t669 t670 t684 t685 t688 t689 bt694.1 bt694.2.1) else (if t676 = 0 then (laws_FnDecDiv.j1 kj5 t686 t690 bt694.2.2 false t669 t670 t684 t685 t688 t689 bt694.1 bt694.2.1) else (laws_FnDecDiv.j1 kj5 t686 t690 bt694.2.2 ((decide (t676 < 0)) != ((decide (t669 < 0)) != (decide (t671 < 0)))) t669 t670 t684 t685 t688 t689 bt694.1 bt694.2.1))))) = some r := H
     have A59 := zA A590
     clear A590
     replace H := Option.bind_eq_some_iff.mp H
     obtain ⟨⟨t692, t693⟩, A600, H⟩ := H
     replace H : ((impl_DecMul.f kj5 t692 t693 1 (wrap64 (-t673))).bind fun bt694 => (if t677 < (wrap64 (-t673)) then (laws_FnDecDiv.j1 kj5 t686 t690 bt694.2.2 true t669 t670 t684 t685 t688 t689 bt694.1 bt694.2.1) else (if t676 = 0 then (laws_FnDecDiv.j1 kj5 t686 t690 bt694.2.2 false t669 t670 t684 t685 t688 t689 bt694.1 bt694.2.1) else (laws_FnDecDiv.j1 kj5 t686 t690 bt694.2.2 ((decide (t676 < 0)) != ((decide (t669 < 0)) != (decide (t671 < 0)))) t669 t670 t684 t685 t688 t689 bt694.1 bt694.2.1)))) = some r := H
     have A60 := zA A600
     clear A600
     replace H := Option.bind_eq_some_iff.mp H
     obtain ⟨⟨t694, t695, t696⟩, A610, H⟩ := H
     replace H : (if t677 < (wrap64 (-t673)) then (laws_FnDecDiv.j1 kj5 t686 t690 t696 true t669 t670 t684 t685 t688 t689 t694 t695) else (if t676 = 0 then (laws_FnDecDiv.j1 kj5 t686 t690 t696 false t669 t670 t684 t685 t688 t689 t694 t695) else (laws_FnDecDiv.j1 kj5 t686 t690 t696 ((decide (t676 < 0)) != ((decide (t669 < 0)) != (decide (t671 < 0)))) t669 t670 t684 t685 t688 t689 t694 t695))) = some r := H
     have A61 := zA A610
     clear A610
     have HC62 := zA H
     clear H
     have hnb63 := NB679_674.out
     have hnc63 := NB674_679.out
     have hnb64 := NB679_675.out
     have hnc64 := NB675_679.out
     have hnb65 := NB679_683.out
     have hnc65 := NB683_679.out
     have hcz66_0 : wc.cell? ⟨gb679, 0, none⟩ = some (.int .i64 t676) := (zJ BK679.out 0).trans rfl
     have hcz66_1 : wc.cell? ⟨gb679, 1, none⟩ = some (.int .i64 t677) := (zJ BK679.out 1).trans rfl
     have hfz66_0 := zK BK679.out 0
     have hfz66_1 := zK BK679.out 1
     have hnb67 := NB675_674.out
     have hnc67 := NB674_675.out
     have hnb68 := NB675_683.out
     have hnc68 := NB683_675.out
     have hcz69_0 : wc.cell? ⟨gb675, 0, none⟩ = some (.int .i64 t671) := (zJ BK675.out 0).trans rfl
     have hcz69_1 : wc.cell? ⟨gb675, 1, none⟩ = some (.int .i64 t672) := (zJ BK675.out 1).trans rfl
     have hfz69_0 := zK BK675.out 0
     have hfz69_1 := zK BK675.out 1
     go_upto_region 11 with (first | ((with_reducible refine zT (f := 18) rfl ?_); refine goesL_ (some 62) rfl rfl Try.func18 (by kernel_rfl) rfl #[.agg #[.int .i64 t676, .int .i64 t677], .agg #[.int .i64 t671, .int .i64 t672]] rfl (by (try simp only [List.map_toArray, List.map_cons, List.map_nil]); first | done | rfl | (simp only [List.length_drop, List.length_take]; rfl)) ?_; (with_reducible refine (impl_DecMul.calls kj5 t676 t677 t671 t672 t684 t685 t686 _ A58.out).mono ?_); rintro e w70 ⟨rfl, hb⟩; refine ⟨_, rfl, ?_⟩; have n0_ := zA (zP (g := gb674) (o := .cells #[.int .i64 t669, .int .i64 t670] 26 (0, 0)) (by (with_reducible repeat (first | refine zB ?_ _ | refine zD ?_ | refine zC ?_ _)); exact BK674.out) hb); have n1_ := zA (zP (g := gb675) (o := .cells #[.int .i64 t671, .int .i64 t672] 26 (0, 0)) (by (with_reducible repeat (first | refine zB ?_ _ | refine zD ?_ | refine zC ?_ _)); exact BK675.out) hb); have n2_ := zA (zP (g := gb679) (o := .cells #[.int .i64 t676, .int .i64 t677] 26 (0, 0)) (by (with_reducible repeat (first | refine zB ?_ _ | refine zD ?_ | refine zC ?_ _)); exact BK679.out) hb); have n3_ := zA (zP (g := gb683) (o := .cells #[.int .i64 t680, .int .i64 t681] 26 (0, 0)) (by (with_reducible repeat (first | refine zB ?_ _ | refine zD ?_ | refine zC ?_ _)); exact BK683.out) hb); have n4_ := zA (zQ (by repeat (first | (with_reducible first | exact HB.out | apply zG | apply zE | apply zF | refine zH ?_ GE674.out | refine zH ?_ GE675.out | refine zH ?_ GE679.out | refine zH ?_ GE683.out) | exact HB.out)) hb); clear BK674; clear BK675; clear BK679; clear BK683; clear HB; have BK674 := n0_; have BK675 := n1_; have BK679 := n2_; have BK683 := n3_; have HB := n4_; clear n0_ n1_ n2_ n3_ n4_; (try clear hb); (try clear hb2); (try clear hk); (try clear hi)) | ((with_reducible refine zS (N := 10) rfl ?_); refine zV ?hg (N := 10) ?hd (cs := #[.int .i64 0, .int .i64 0]) (t := 26) ?hr ?_; (case hd => rfl); (case hg => rfl); (case hr => first | (go_simp; done) | (go_simp; rfl)); intro gb687 hg w71 hbox hb; have n0_ := zA (zP (g := gb674) (o := .cells #[.int .i64 t669, .int .i64 t670] 26 (0, 0)) (by (with_reducible repeat (first | refine zB ?_ _ | refine zD ?_ | refine zC ?_ _)); exact BK674.out) hb); have n1_ := zA (zP (g := gb675) (o := .cells #[.int .i64 t671, .int .i64 t672] 26 (0, 0)) (by (with_reducible repeat (first | refine zB ?_ _ | refine zD ?_ | refine zC ?_ _)); exact BK675.out) hb); have n2_ := zA (zP (g := gb679) (o := .cells #[.int .i64 t676, .int .i64 t677] 26 (0, 0)) (by (with_reducible repeat (first | refine zB ?_ _ | refine zD ?_ | refine zC ?_ _)); exact BK679.out) hb); have n3_ := zA (zP (g := gb683) (o := .cells #[.int .i64 t680, .int .i64 t681] 26 (0, 0)) (by (with_reducible repeat (first | refine zB ?_ _ | refine zD ?_ | refine zC ?_ _)); exact BK683.out) hb); have n4_ := zA (zQ (by repeat (first | (with_reducible first | exact HB.out | apply zG | apply zE | apply zF | refine zH ?_ GE674.out | refine zH ?_ GE675.out | refine zH ?_ GE679.out | refine zH ?_ GE683.out) | exact HB.out)) hb); have n5_ := zA (hbox); have n6_ := zA ((by rw [hg]; exact (zR (by repeat (first | (with_reducible first | exact HB.out | apply zG | apply zE | apply zF | refine zH ?_ GE674.out | refine zH ?_ GE675.out | refine zH ?_ GE679.out | refine zH ?_ GE683.out) | exact HB.out))) : w.heap.size ≤ gb687)); have n7_ := zA ((by rw [hg]; exact (zR (by repeat (first | (with_reducible first | exact HB.out | apply zG | apply zE | apply zF | refine zH ?_ GE674.out | refine zH ?_ GE675.out | refine zH ?_ GE679.out | refine zH ?_ GE683.out) | exact HB.out))) : w.heap.size ≤ gb687)); have n8_ := zA ((by rw [hg]; exact Nat.ne_of_lt (blk_lt (g := gb674) (o := .cells #[.int .i64 t669, .int .i64 t670] 26 (0, 0)) (by (with_reducible repeat (first | refine zB ?_ _ | refine zD ?_ | refine zC ?_ _)); exact BK674.out)) : gb674 ≠ gb687)); have n9_ := zA ((by rw [hg]; exact Nat.ne_of_gt (blk_lt (g := gb674) (o := .cells #[.int .i64 t669, .int .i64 t670] 26 (0, 0)) (by (with_reducible repeat (first | refine zB ?_ _ | refine zD ?_ | refine zC ?_ _)); exact BK674.out)) : gb687 ≠ gb674)); have n10_ := zA ((by rw [hg]; exact Nat.ne_of_lt (blk_lt (g := gb675) (o := .cells #[.int .i64 t671, .int .i64 t672] 26 (0, 0)) (by (with_reducible repeat (first | refine zB ?_ _ | refine zD ?_ | refine zC ?_ _)); exact BK675.out)) : gb675 ≠ gb687)); have n11_ := zA ((by rw [hg]; exact Nat.ne_of_gt (blk_lt (g := gb675) (o := .cells #[.int .i64 t671, .int .i64 t672] 26 (0, 0)) (by (with_reducible repeat (first | refine zB ?_ _ | refine zD ?_ | refine zC ?_ _)); exact BK675.out)) : gb687 ≠ gb675)); have n12_ := zA ((by rw [hg]; exact Nat.ne_of_lt (blk_lt (g := gb679) (o := .cells #[.int .i64 t676, .int .i64 t677] 26 (0, 0)) (by (with_reducible repeat (first | refine zB ?_ _ | refine zD ?_ | refine zC ?_ _)); exact BK679.out)) : gb679 ≠ gb687)); have n13_ := zA ((by rw [hg]; exact Nat.ne_of_gt (blk_lt (g := gb679) (o := .cells #[.int .i64 t676, .int .i64 t677] 26 (0, 0)) (by (with_reducible repeat (first | refine zB ?_ _ | refine zD ?_ | refine zC ?_ _)); exact BK679.out)) : gb687 ≠ gb679)); have n14_ := zA ((by rw [hg]; exact Nat.ne_of_lt (blk_lt (g := gb683) (o := .cells #[.int .i64 t680, .int .i64 t681] 26 (0, 0)) (by (with_reducible repeat (first | refine zB ?_ _ | refine zD ?_ | refine zC ?_ _)); exact BK683.out)) : gb683 ≠ gb687)); have n15_ := zA ((by rw [hg]; exact Nat.ne_of_gt (blk_lt (g := gb683) (o := .cells #[.int .i64 t680, .int .i64 t681] 26 (0, 0)) (by (with_reducible repeat (first | refine zB ?_ _ | refine zD ?_ | refine zC ?_ _)); exact BK683.out)) : gb687 ≠ gb683)); clear BK674; clear BK675; clear BK679; clear BK683; clear HB; have BK674 := n0_; have BK675 := n1_; have BK679 := n2_; have BK683 := n3_; have HB := n4_; have BK687 := n5_; have GW687 := n6_; have GE687 := n7_; have NB674_687 := n8_; have NB687_674 := n9_; have NB675_687 := n10_; have NB687_675 := n11_; have NB679_687 := n12_; have NB687_679 := n13_; have NB683_687 := n14_; have NB687_683 := n15_; clear n0_ n1_ n2_ n3_ n4_ n5_ n6_ n7_ n8_ n9_ n10_ n11_ n12_ n13_ n14_ n15_; clear hb hbox hg; have hnb72 := NB687_674.out; have hnc72 := NB674_687.out; have hnb73 := NB687_675.out; have hnc73 := NB675_687.out; have hnb74 := NB687_679.out; have hnc74 := NB679_687.out; have hnb75 := NB687_683.out; have hnc75 := NB683_687.out; have hcz76_0 : w71.cell? ⟨gb687, 0, none⟩ = some (.int .i64 0) := (zJ BK687.out 0).trans rfl; have hcz76_1 : w71.cell? ⟨gb687, 1, none⟩ = some (.int .i64 0) := (zJ BK687.out 1).trans rfl; have hfz76_0 := zK BK687.out 0; have hfz76_1 := zK BK687.out 1; have hnb77 := NB674_683.out; have hnc77 := NB683_674.out; have hcz78_0 : w71.cell? ⟨gb674, 0, none⟩ = some (.int .i64 t669) := (zJ BK674.out 0).trans rfl; have hcz78_1 : w71.cell? ⟨gb674, 1, none⟩ = some (.int .i64 t670) := (zJ BK674.out 1).trans rfl; have hfz78_0 := zK BK674.out 0; have hfz78_1 := zK BK674.out 1) | ((with_reducible refine zT (f := 24) rfl ?_); refine goesL_ (some 68) rfl rfl Try.func24 (by kernel_rfl) rfl #[.agg #[.int .i64 t669, .int .i64 t670], .agg #[.int .i64 t684, .int .i64 t685]] rfl (by (try simp only [List.map_toArray, List.map_cons, List.map_nil]); first | done | rfl | (simp only [List.length_drop, List.length_take]; rfl)) ?_; (with_reducible refine (impl_DecSub.calls kj5 t669 t670 t684 t685 t688 t689 t690 _ A59.out).mono ?_); rintro e w79 ⟨rfl, hb⟩; refine ⟨_, rfl, ?_⟩; have n0_ := zA (zP (g := gb674) (o := .cells #[.int .i64 t669, .int .i64 t670] 26 (0, 0)) (by (with_reducible repeat (first | refine zB ?_ _ | refine zD ?_ | refine zC ?_ _)); refine blk_far ?_ NB674_687.out _; (with_reducible repeat (first | refine zB ?_ _ | refine zD ?_ | refine zC ?_ _)); refine blk_far ?_ NB674_687.out _; (with_reducible repeat (first | refine zB ?_ _ | refine zD ?_ | refine zC ?_ _)); exact BK674.out) hb); have n1_ := zA (zP (g := gb675) (o := .cells #[.int .i64 t671, .int .i64 t672] 26 (0, 0)) (by (with_reducible repeat (first | refine zB ?_ _ | refine zD ?_ | refine zC ?_ _)); refine blk_far ?_ NB675_687.out _; (with_reducible repeat (first | refine zB ?_ _ | refine zD ?_ | refine zC ?_ _)); refine blk_far ?_ NB675_687.out _; (with_reducible repeat (first | refine zB ?_ _ | refine zD ?_ | refine zC ?_ _)); exact BK675.out) hb); have n2_ := zA (zP (g := gb679) (o := .cells #[.int .i64 t676, .int .i64 t677] 26 (0, 0)) (by (with_reducible repeat (first | refine zB ?_ _ | refine zD ?_ | refine zC ?_ _)); refine blk_far ?_ NB679_687.out _; (with_reducible repeat (first | refine zB ?_ _ | refine zD ?_ | refine zC ?_ _)); refine blk_far ?_ NB679_687.out _; (with_reducible repeat (first | refine zB ?_ _ | refine zD ?_ | refine zC ?_ _)); exact BK679.out) hb); have n3_ := zA (zP (g := gb683) (o := .cells #[.int .i64 t680, .int .i64 t681] 26 (0, 0)) (by (with_reducible repeat (first | refine zB ?_ _ | refine zD ?_ | refine zC ?_ _)); refine blk_far ?_ NB683_687.out _; (with_reducible repeat (first | refine zB ?_ _ | refine zD ?_ | refine zC ?_ _)); refine blk_far ?_ NB683_687.out _; (with_reducible repeat (first | refine zB ?_ _ | refine zD ?_ | refine zC ?_ _)); exact BK683.out) hb); have n4_ := zA (zP (g := gb687) (o := .cells #[.int .i64 t684, .int .i64 t685] 26 (0, 0)) (by (with_reducible repeat (first | refine zB ?_ _ | refine zD ?_ | refine zC ?_ _)); refine blk_put (cs := #[.int .i64 t684, .int .i64 0]) ?_ 1 _ rfl; (with_reducible repeat (first | refine zB ?_ _ | refine zD ?_ | refine zC ?_ _)); refine blk_put (cs := #[.int .i64 0, .int .i64 0]) ?_ 0 _ rfl; (with_reducible repeat (first | refine zB ?_ _ | refine zD ?_ | refine zC ?_ _)); exact BK687.out) hb); have n5_ := zA (zQ (by repeat (first | (with_reducible first | exact HB.out | apply zG | apply zE | apply zF | refine zH ?_ GE674.out | refine zH ?_ GE675.out | refine zH ?_ GE679.out | refine zH ?_ GE683.out | refine zH ?_ GE687.out) | exact HB.out)) hb); clear BK674; clear BK675; clear BK679; clear BK683; clear BK687; clear HB; have BK674 := n0_; have BK675 := n1_; have BK679 := n2_; have BK683 := n3_; have BK687 := n4_; have HB := n5_; clear n0_ n1_ n2_ n3_ n4_ n5_; (try clear hb); (try clear hb2); (try clear hk); (try clear hi)) | ((with_reducible refine zS (N := 12) rfl ?_); refine zV ?hg (N := 12) ?hd (cs := #[.int .i64 0, .int .i64 0]) (t := 26) ?hr ?_; (case hd => rfl); (case hg => rfl); (case hr => first | (go_simp; done) | (go_simp; rfl)); intro gb691 hg w80 hbox hb; have n0_ := zA (zP (g := gb674) (o := .cells #[.int .i64 t669, .int .i64 t670] 26 (0, 0)) (by (with_reducible repeat (first | refine zB ?_ _ | refine zD ?_ | refine zC ?_ _)); exact BK674.out) hb); have n1_ := zA (zP (g := gb675) (o := .cells #[.int .i64 t671, .int .i64 t672] 26 (0, 0)) (by (with_reducible repeat (first | refine zB ?_ _ | refine zD ?_ | refine zC ?_ _)); exact BK675.out) hb); have n2_ := zA (zP (g := gb679) (o := .cells #[.int .i64 t676, .int .i64 t677] 26 (0, 0)) (by (with_reducible repeat (first | refine zB ?_ _ | refine zD ?_ | refine zC ?_ _)); exact BK679.out) hb); have n3_ := zA (zP (g := gb683) (o := .cells #[.int .i64 t680, .int .i64 t681] 26 (0, 0)) (by (with_reducible repeat (first | refine zB ?_ _ | refine zD ?_ | refine zC ?_ _)); exact BK683.out) hb); have n4_ := zA (zP (g := gb687) (o := .cells #[.int .i64 t684, .int .i64 t685] 26 (0, 0)) (by (with_reducible repeat (first | refine zB ?_ _ | refine zD ?_ | refine zC ?_ _)); exact BK687.out) hb); have n5_ := zA (zQ (by repeat (first | (with_reducible first | exact HB.out | apply zG | apply zE | apply zF | refine zH ?_ GE674.out | refine zH ?_ GE675.out | refine zH ?_ GE679.out | refine zH ?_ GE683.out | refine zH ?_ GE687.out) | exact HB.out)) hb); have n6_ := zA (hbox); have n7_ := zA ((by rw [hg]; exact (zR (by repeat (first | (with_reducible first | exact HB.out | apply zG | apply zE | apply zF | refine zH ?_ GE674.out | refine zH ?_ GE675.out | refine zH ?_ GE679.out | refine zH ?_ GE683.out | refine zH ?_ GE687.out) | exact HB.out))) : w.heap.size ≤ gb691)); have n8_ := zA ((by rw [hg]; exact (zR (by repeat (first | (with_reducible first | exact HB.out | apply zG | apply zE | apply zF | refine zH ?_ GE674.out | refine zH ?_ GE675.out | refine zH ?_ GE679.out | refine zH ?_ GE683.out | refine zH ?_ GE687.out) | exact HB.out))) : w.heap.size ≤ gb691)); have n9_ := zA ((by rw [hg]; exact Nat.ne_of_lt (blk_lt (g := gb674) (o := .cells #[.int .i64 t669, .int .i64 t670] 26 (0, 0)) (by (with_reducible repeat (first | refine zB ?_ _ | refine zD ?_ | refine zC ?_ _)); exact BK674.out)) : gb674 ≠ gb691)); have n10_ := zA ((by rw [hg]; exact Nat.ne_of_gt (blk_lt (g := gb674) (o := .cells #[.int .i64 t669, .int .i64 t670] 26 (0, 0)) (by (with_reducible repeat (first | refine zB ?_ _ | refine zD ?_ | refine zC ?_ _)); exact BK674.out)) : gb691 ≠ gb674)); have n11_ := zA ((by rw [hg]; exact Nat.ne_of_lt (blk_lt (g := gb675) (o := .cells #[.int .i64 t671, .int .i64 t672] 26 (0, 0)) (by (with_reducible repeat (first | refine zB ?_ _ | refine zD ?_ | refine zC ?_ _)); exact BK675.out)) : gb675 ≠ gb691)); have n12_ := zA ((by rw [hg]; exact Nat.ne_of_gt (blk_lt (g := gb675) (o := .cells #[.int .i64 t671, .int .i64 t672] 26 (0, 0)) (by (with_reducible repeat (first | refine zB ?_ _ | refine zD ?_ | refine zC ?_ _)); exact BK675.out)) : gb691 ≠ gb675)); have n13_ := zA ((by rw [hg]; exact Nat.ne_of_lt (blk_lt (g := gb679) (o := .cells #[.int .i64 t676, .int .i64 t677] 26 (0, 0)) (by (with_reducible repeat (first | refine zB ?_ _ | refine zD ?_ | refine zC ?_ _)); exact BK679.out)) : gb679 ≠ gb691)); have n14_ := zA ((by rw [hg]; exact Nat.ne_of_gt (blk_lt (g := gb679) (o := .cells #[.int .i64 t676, .int .i64 t677] 26 (0, 0)) (by (with_reducible repeat (first | refine zB ?_ _ | refine zD ?_ | refine zC ?_ _)); exact BK679.out)) : gb691 ≠ gb679)); have n15_ := zA ((by rw [hg]; exact Nat.ne_of_lt (blk_lt (g := gb683) (o := .cells #[.int .i64 t680, .int .i64 t681] 26 (0, 0)) (by (with_reducible repeat (first | refine zB ?_ _ | refine zD ?_ | refine zC ?_ _)); exact BK683.out)) : gb683 ≠ gb691)); have n16_ := zA ((by rw [hg]; exact Nat.ne_of_gt (blk_lt (g := gb683) (o := .cells #[.int .i64 t680, .int .i64 t681] 26 (0, 0)) (by (with_reducible repeat (first | refine zB ?_ _ | refine zD ?_ | refine zC ?_ _)); exact BK683.out)) : gb691 ≠ gb683)); have n17_ := zA ((by rw [hg]; exact Nat.ne_of_lt (blk_lt (g := gb687) (o := .cells #[.int .i64 t684, .int .i64 t685] 26 (0, 0)) (by (with_reducible repeat (first | refine zB ?_ _ | refine zD ?_ | refine zC ?_ _)); exact BK687.out)) : gb687 ≠ gb691)); have n18_ := zA ((by rw [hg]; exact Nat.ne_of_gt (blk_lt (g := gb687) (o := .cells #[.int .i64 t684, .int .i64 t685] 26 (0, 0)) (by (with_reducible repeat (first | refine zB ?_ _ | refine zD ?_ | refine zC ?_ _)); exact BK687.out)) : gb691 ≠ gb687)); clear BK674; clear BK675; clear BK679; clear BK683; clear BK687; clear HB; have BK674 := n0_; have BK675 := n1_; have BK679 := n2_; have BK683 := n3_; have BK687 := n4_; have HB := n5_; have BK691 := n6_; have GW691 := n7_; have GE691 := n8_; have NB674_691 := n9_; have NB691_674 := n10_; have NB675_691 := n11_; have NB691_675 := n12_; have NB679_691 := n13_; have NB691_679 := n14_; have NB683_691 := n15_; have NB691_683 := n16_; have NB687_691 := n17_; have NB691_687 := n18_; clear n0_ n1_ n2_ n3_ n4_ n5_ n6_ n7_ n8_ n9_ n10_ n11_ n12_ n13_ n14_ n15_ n16_ n17_ n18_; clear hb hbox hg; have hnb81 := NB691_674.out; have hnc81 := NB674_691.out; have hnb82 := NB691_675.out; have hnc82 := NB675_691.out; have hnb83 := NB691_679.out; have hnc83 := NB679_691.out; have hnb84 := NB691_683.out; have hnc84 := NB683_691.out; have hnb85 := NB691_687.out; have hnc85 := NB687_691.out; have hcz86_0 : w80.cell? ⟨gb691, 0, none⟩ = some (.int .i64 0) := (zJ BK691.out 0).trans rfl; have hcz86_1 : w80.cell? ⟨gb691, 1, none⟩ = some (.int .i64 0) := (zJ BK691.out 1).trans rfl; have hfz86_0 := zK BK691.out 0; have hfz86_1 := zK BK691.out 1; have hcz87_0 : w80.cell? ⟨gb675, 0, none⟩ = some (.int .i64 t671) := (zJ BK675.out 0).trans rfl; have hcz87_1 : w80.cell? ⟨gb675, 1, none⟩ = some (.int .i64 t672) := (zJ BK675.out 1).trans rfl; have hfz87_0 := zK BK675.out 0; have hfz87_1 := zK BK675.out 1) | ((with_reducible refine zT (f := 39) rfl ?_); refine goesL_ (some 73) rfl rfl Try.func39 (by kernel_rfl) rfl #[.agg #[.int .i64 t671, .int .i64 t672]] rfl (by (try simp only [List.map_toArray, List.map_cons, List.map_nil]); first | done | rfl | (simp only [List.length_drop, List.length_take]; rfl)) ?_; (with_reducible refine (laws_chAbs.calls t671 t672 t692 t693 _ A60.out).mono ?_); rintro e w88 ⟨rfl, hb⟩; refine ⟨_, rfl, ?_⟩; have n0_ := zA (zP (g := gb674) (o := .cells #[.int .i64 t669, .int .i64 t670] 26 (0, 0)) (by (with_reducible repeat (first | refine zB ?_ _ | refine zD ?_ | refine zC ?_ _)); refine blk_far ?_ NB674_691.out _; (with_reducible repeat (first | refine zB ?_ _ | refine zD ?_ | refine zC ?_ _)); refine blk_far ?_ NB674_691.out _; (with_reducible repeat (first | refine zB ?_ _ | refine zD ?_ | refine zC ?_ _)); exact BK674.out) hb); have n1_ := zA (zP (g := gb675) (o := .cells #[.int .i64 t671, .int .i64 t672] 26 (0, 0)) (by (with_reducible repeat (first | refine zB ?_ _ | refine zD ?_ | refine zC ?_ _)); refine blk_far ?_ NB675_691.out _; (with_reducible repeat (first | refine zB ?_ _ | refine zD ?_ | refine zC ?_ _)); refine blk_far ?_ NB675_691.out _; (with_reducible repeat (first | refine zB ?_ _ | refine zD ?_ | refine zC ?_ _)); exact BK675.out) hb); have n2_ := zA (zP (g := gb679) (o := .cells #[.int .i64 t676, .int .i64 t677] 26 (0, 0)) (by (with_reducible repeat (first | refine zB ?_ _ | refine zD ?_ | refine zC ?_ _)); refine blk_far ?_ NB679_691.out _; (with_reducible repeat (first | refine zB ?_ _ | refine zD ?_ | refine zC ?_ _)); refine blk_far ?_ NB679_691.out _; (with_reducible repeat (first | refine zB ?_ _ | refine zD ?_ | refine zC ?_ _)); exact BK679.out) hb); have n3_ := zA (zP (g := gb683) (o := .cells #[.int .i64 t680, .int .i64 t681] 26 (0, 0)) (by (with_reducible repeat (first | refine zB ?_ _ | refine zD ?_ | refine zC ?_ _)); refine blk_far ?_ NB683_691.out _; (with_reducible repeat (first | refine zB ?_ _ | refine zD ?_ | refine zC ?_ _)); refine blk_far ?_ NB683_691.out _; (with_reducible repeat (first | refine zB ?_ _ | refine zD ?_ | refine zC ?_ _)); exact BK683.out) hb); have n4_ := zA (zP (g := gb687) (o := .cells #[.int .i64 t684, .int .i64 t685] 26 (0, 0)) (by (with_reducible repeat (first | refine zB ?_ _ | refine zD ?_ | refine zC ?_ _)); refine blk_far ?_ NB687_691.out _; (with_reducible repeat (first | refine zB ?_ _ | refine zD ?_ | refine zC ?_ _)); refine blk_far ?_ NB687_691.out _; (with_reducible repeat (first | refine zB ?_ _ | refine zD ?_ | refine zC ?_ _)); exact BK687.out) hb); have n5_ := zA (zP (g := gb691) (o := .cells #[.int .i64 t688, .int .i64 t689] 26 (0, 0)) (by (with_reducible repeat (first | refine zB ?_ _ | refine zD ?_ | refine zC ?_ _)); refine blk_put (cs := #[.int .i64 t688, .int .i64 0]) ?_ 1 _ rfl; (with_reducible repeat (first | refine zB ?_ _ | refine zD ?_ | refine zC ?_ _)); refine blk_put (cs := #[.int .i64 0, .int .i64 0]) ?_ 0 _ rfl; (with_reducible repeat (first | refine zB ?_ _ | refine zD ?_ | refine zC ?_ _)); exact BK691.out) hb); have n6_ := zA (zQ (by repeat (first | (with_reducible first | exact HB.out | apply zG | apply zE | apply zF | refine zH ?_ GE674.out | refine zH ?_ GE675.out | refine zH ?_ GE679.out | refine zH ?_ GE683.out | refine zH ?_ GE687.out | refine zH ?_ GE691.out) | exact HB.out)) hb); clear BK674; clear BK675; clear BK679; clear BK683; clear BK687; clear BK691; clear HB; have BK674 := n0_; have BK675 := n1_; have BK679 := n2_; have BK683 := n3_; have BK687 := n4_; have BK691 := n5_; have HB := n6_; clear n0_ n1_ n2_ n3_ n4_ n5_ n6_; (try clear hb); (try clear hb2); (try clear hk); (try clear hi)) | ((with_reducible refine zT (f := 18) rfl ?_); refine goesL_ (some 77) rfl rfl Try.func18 (by kernel_rfl) rfl #[.agg #[.int .i64 t692, .int .i64 t693], .agg #[.int .i64 1, .int .i64 (wrap64 (-t673))]] rfl (by (try simp only [List.map_toArray, List.map_cons, List.map_nil]); first | done | rfl | (simp only [List.length_drop, List.length_take]; rfl)) ?_; (with_reducible refine (impl_DecMul.calls kj5 t692 t693 1 (wrap64 (-t673)) t694 t695 t696 _ A61.out).mono ?_); rintro e w89 ⟨rfl, hb⟩; refine ⟨_, rfl, ?_⟩; have n0_ := zA (zP (g := gb674) (o := .cells #[.int .i64 t669, .int .i64 t670] 26 (0, 0)) (by (with_reducible repeat (first | refine zB ?_ _ | refine zD ?_ | refine zC ?_ _)); exact BK674.out) hb); have n1_ := zA (zP (g := gb675) (o := .cells #[.int .i64 t671, .int .i64 t672] 26 (0, 0)) (by (with_reducible repeat (first | refine zB ?_ _ | refine zD ?_ | refine zC ?_ _)); exact BK675.out) hb); have n2_ := zA (zP (g := gb679) (o := .cells #[.int .i64 t676, .int .i64 t677] 26 (0, 0)) (by (with_reducible repeat (first | refine zB ?_ _ | refine zD ?_ | refine zC ?_ _)); exact BK679.out) hb); have n3_ := zA (zP (g := gb683) (o := .cells #[.int .i64 t680, .int .i64 t681] 26 (0, 0)) (by (with_reducible repeat (first | refine zB ?_ _ | refine zD ?_ | refine zC ?_ _)); exact BK683.out) hb); have n4_ := zA (zP (g := gb687) (o := .cells #[.int .i64 t684, .int .i64 t685] 26 (0, 0)) (by (with_reducible repeat (first | refine zB ?_ _ | refine zD ?_ | refine zC ?_ _)); exact BK687.out) hb); have n5_ := zA (zP (g := gb691) (o := .cells #[.int .i64 t688, .int .i64 t689] 26 (0, 0)) (by (with_reducible repeat (first | refine zB ?_ _ | refine zD ?_ | refine zC ?_ _)); exact BK691.out) hb); have n6_ := zA (zQ (by repeat (first | (with_reducible first | exact HB.out | apply zG | apply zE | apply zF | refine zH ?_ GE674.out | refine zH ?_ GE675.out | refine zH ?_ GE679.out | refine zH ?_ GE683.out | refine zH ?_ GE687.out | refine zH ?_ GE691.out) | exact HB.out)) hb); clear BK674; clear BK675; clear BK679; clear BK683; clear BK687; clear BK691; clear HB; have BK674 := n0_; have BK675 := n1_; have BK679 := n2_; have BK683 := n3_; have BK687 := n4_; have BK691 := n5_; have HB := n6_; clear n0_ n1_ n2_ n3_ n4_ n5_ n6_; (try clear hb); (try clear hb2); (try clear hk); (try clear hi)) | ((with_reducible refine zS (N := 14) rfl ?_); refine zV ?hg (N := 14) ?hd (cs := #[.int .i64 0, .int .i64 0]) (t := 26) ?hr ?_; (case hd => rfl); (case hg => rfl); (case hr => first | (go_simp; done) | (go_simp; rfl)); intro gb697 hg w90 hbox hb; have n0_ := zA (zP (g := gb674) (o := .cells #[.int .i64 t669, .int .i64 t670] 26 (0, 0)) (by (with_reducible repeat (first | refine zB ?_ _ | refine zD ?_ | refine zC ?_ _)); exact BK674.out) hb); have n1_ := zA (zP (g := gb675) (o := .cells #[.int .i64 t671, .int .i64 t672] 26 (0, 0)) (by (with_reducible repeat (first | refine zB ?_ _ | refine zD ?_ | refine zC ?_ _)); exact BK675.out) hb); have n2_ := zA (zP (g := gb679) (o := .cells #[.int .i64 t676, .int .i64 t677] 26 (0, 0)) (by (with_reducible repeat (first | refine zB ?_ _ | refine zD ?_ | refine zC ?_ _)); exact BK679.out) hb); have n3_ := zA (zP (g := gb683) (o := .cells #[.int .i64 t680, .int .i64 t681] 26 (0, 0)) (by (with_reducible repeat (first | refine zB ?_ _ | refine zD ?_ | refine zC ?_ _)); exact BK683.out) hb); have n4_ := zA (zP (g := gb687) (o := .cells #[.int .i64 t684, .int .i64 t685] 26 (0, 0)) (by (with_reducible repeat (first | refine zB ?_ _ | refine zD ?_ | refine zC ?_ _)); exact BK687.out) hb); have n5_ := zA (zP (g := gb691) (o := .cells #[.int .i64 t688, .int .i64 t689] 26 (0, 0)) (by (with_reducible repeat (first | refine zB ?_ _ | refine zD ?_ | refine zC ?_ _)); exact BK691.out) hb); have n6_ := zA (zQ (by repeat (first | (with_reducible first | exact HB.out | apply zG | apply zE | apply zF | refine zH ?_ GE674.out | refine zH ?_ GE675.out | refine zH ?_ GE679.out | refine zH ?_ GE683.out | refine zH ?_ GE687.out | refine zH ?_ GE691.out) | exact HB.out)) hb); have n7_ := zA (hbox); have n8_ := zA ((by rw [hg]; exact (zR (by repeat (first | (with_reducible first | exact HB.out | apply zG | apply zE | apply zF | refine zH ?_ GE674.out | refine zH ?_ GE675.out | refine zH ?_ GE679.out | refine zH ?_ GE683.out | refine zH ?_ GE687.out | refine zH ?_ GE691.out) | exact HB.out))) : w.heap.size ≤ gb697)); have n9_ := zA ((by rw [hg]; exact (zR (by repeat (first | (with_reducible first | exact HB.out | apply zG | apply zE | apply zF | refine zH ?_ GE674.out | refine zH ?_ GE675.out | refine zH ?_ GE679.out | refine zH ?_ GE683.out | refine zH ?_ GE687.out | refine zH ?_ GE691.out) | exact HB.out))) : w.heap.size ≤ gb697)); have n10_ := zA ((by rw [hg]; exact Nat.ne_of_lt (blk_lt (g := gb674) (o := .cells #[.int .i64 t669, .int .i64 t670] 26 (0, 0)) (by (with_reducible repeat (first | refine zB ?_ _ | refine zD ?_ | refine zC ?_ _)); exact BK674.out)) : gb674 ≠ gb697)); have n11_ := zA ((by rw [hg]; exact Nat.ne_of_gt (blk_lt (g := gb674) (o := .cells #[.int .i64 t669, .int .i64 t670] 26 (0, 0)) (by (with_reducible repeat (first | refine zB ?_ _ | refine zD ?_ | refine zC ?_ _)); exact BK674.out)) : gb697 ≠ gb674)); have n12_ := zA ((by rw [hg]; exact Nat.ne_of_lt (blk_lt (g := gb675) (o := .cells #[.int .i64 t671, .int .i64 t672] 26 (0, 0)) (by (with_reducible repeat (first | refine zB ?_ _ | refine zD ?_ | refine zC ?_ _)); exact BK675.out)) : gb675 ≠ gb697)); have n13_ := zA ((by rw [hg]; exact Nat.ne_of_gt (blk_lt (g := gb675) (o := .cells #[.int .i64 t671, .int .i64 t672] 26 (0, 0)) (by (with_reducible repeat (first | refine zB ?_ _ | refine zD ?_ | refine zC ?_ _)); exact BK675.out)) : gb697 ≠ gb675)); have n14_ := zA ((by rw [hg]; exact Nat.ne_of_lt (blk_lt (g := gb679) (o := .cells #[.int .i64 t676, .int .i64 t677] 26 (0, 0)) (by (with_reducible repeat (first | refine zB ?_ _ | refine zD ?_ | refine zC ?_ _)); exact BK679.out)) : gb679 ≠ gb697)); have n15_ := zA ((by rw [hg]; exact Nat.ne_of_gt (blk_lt (g := gb679) (o := .cells #[.int .i64 t676, .int .i64 t677] 26 (0, 0)) (by (with_reducible repeat (first | refine zB ?_ _ | refine zD ?_ | refine zC ?_ _)); exact BK679.out)) : gb697 ≠ gb679)); have n16_ := zA ((by rw [hg]; exact Nat.ne_of_lt (blk_lt (g := gb683) (o := .cells #[.int .i64 t680, .int .i64 t681] 26 (0, 0)) (by (with_reducible repeat (first | refine zB ?_ _ | refine zD ?_ | refine zC ?_ _)); exact BK683.out)) : gb683 ≠ gb697)); have n17_ := zA ((by rw [hg]; exact Nat.ne_of_gt (blk_lt (g := gb683) (o := .cells #[.int .i64 t680, .int .i64 t681] 26 (0, 0)) (by (with_reducible repeat (first | refine zB ?_ _ | refine zD ?_ | refine zC ?_ _)); exact BK683.out)) : gb697 ≠ gb683)); have n18_ := zA ((by rw [hg]; exact Nat.ne_of_lt (blk_lt (g := gb687) (o := .cells #[.int .i64 t684, .int .i64 t685] 26 (0, 0)) (by (with_reducible repeat (first | refine zB ?_ _ | refine zD ?_ | refine zC ?_ _)); exact BK687.out)) : gb687 ≠ gb697)); have n19_ := zA ((by rw [hg]; exact Nat.ne_of_gt (blk_lt (g := gb687) (o := .cells #[.int .i64 t684, .int .i64 t685] 26 (0, 0)) (by (with_reducible repeat (first | refine zB ?_ _ | refine zD ?_ | refine zC ?_ _)); exact BK687.out)) : gb697 ≠ gb687)); have n20_ := zA ((by rw [hg]; exact Nat.ne_of_lt (blk_lt (g := gb691) (o := .cells #[.int .i64 t688, .int .i64 t689] 26 (0, 0)) (by (with_reducible repeat (first | refine zB ?_ _ | refine zD ?_ | refine zC ?_ _)); exact BK691.out)) : gb691 ≠ gb697)); have n21_ := zA ((by rw [hg]; exact Nat.ne_of_gt (blk_lt (g := gb691) (o := .cells #[.int .i64 t688, .int .i64 t689] 26 (0, 0)) (by (with_reducible repeat (first | refine zB ?_ _ | refine zD ?_ | refine zC ?_ _)); exact BK691.out)) : gb697 ≠ gb691)); clear BK674; clear BK675; clear BK679; clear BK683; clear BK687; clear BK691; clear HB; have BK674 := n0_; have BK675 := n1_; have BK679 := n2_; have BK683 := n3_; have BK687 := n4_; have BK691 := n5_; have HB := n6_; have BK697 := n7_; have GW697 := n8_; have GE697 := n9_; have NB674_697 := n10_; have NB697_674 := n11_; have NB675_697 := n12_; have NB697_675 := n13_; have NB679_697 := n14_; have NB697_679 := n15_; have NB683_697 := n16_; have NB697_683 := n17_; have NB687_697 := n18_; have NB697_687 := n19_; have NB691_697 := n20_; have NB697_691 := n21_; clear n0_ n1_ n2_ n3_ n4_ n5_ n6_ n7_ n8_ n9_ n10_ n11_ n12_ n13_ n14_ n15_ n16_ n17_ n18_ n19_ n20_ n21_; clear hb hbox hg; have hnb91 := NB697_674.out; have hnc91 := NB674_697.out; have hnb92 := NB697_675.out; have hnc92 := NB675_697.out; have hnb93 := NB697_679.out; have hnc93 := NB679_697.out; have hnb94 := NB697_683.out; have hnc94 := NB683_697.out; have hnb95 := NB697_687.out; have hnc95 := NB687_697.out; have hnb96 := NB697_691.out; have hnc96 := NB691_697.out; have hcz97_0 : w90.cell? ⟨gb697, 0, none⟩ = some (.int .i64 0) := (zJ BK697.out 0).trans rfl; have hcz97_1 : w90.cell? ⟨gb697, 1, none⟩ = some (.int .i64 0) := (zJ BK697.out 1).trans rfl; have hfz97_0 := zK BK697.out 0; have hfz97_1 := zK BK697.out 1))
     (try simp only [Act.put, zL, zM, zN])
     go_cut [102] (fun v102 wc => ∃ (kq : Nat) (x102_61 : Bool), v102 = .bool x102_61 ∧ Aside0 (laws_FnDecDiv.j1 kq t686 t690 t696 x102_61 t669 t670 t684 t685 t688 t689 t694 t695 = some r) ∧ Aside0 (kq ≤ kj5) ∧ Aside0 (wc.heap[gb674]? = some (.cells #[.int .i64 t669, .int .i64 t670] 26 (0, 0))) ∧ Aside0 (wc.heap[gb675]? = some (.cells #[.int .i64 t671, .int .i64 t672] 26 (0, 0))) ∧ Aside0 (wc.heap[gb679]? = some (.cells #[.int .i64 t676, .int .i64 t677] 26 (0, 0))) ∧ Aside0 (wc.heap[gb683]? = some (.cells #[.int .i64 t680, .int .i64 t681] 26 (0, 0))) ∧ Aside0 (wc.heap[gb687]? = some (.cells #[.int .i64 t684, .int .i64 t685] 26 (0, 0))) ∧ Aside0 (wc.heap[gb691]? = some (.cells #[.int .i64 t688, .int .i64 t689] 26 (0, 0))) ∧ Aside0 (wc.heap[gb697]? = some (.cells #[.int .i64 t694, .int .i64 t695] 26 (0, 0))) ∧ Aside0 (Below w.heap.size w wc))
     case first =>
      have H := HC62.out
      clear HC62
      by_cases c98 : t677 < (wrap64 (-t673))
      ·rw [if_pos c98] at H
       have c98b0 : decide (t677 < (wrap64 (-t673))) = true := decide_eq_true c98
       clear c98
       (first | rw [c98b0] | (simp only [i64_w, i32_w]; rw [c98b0]) | skip)
       have H' := zA H
       clear H
       have hnb99 := NB679_674.out
       have hnc99 := NB674_679.out
       have hnb100 := NB679_675.out
       have hnc100 := NB675_679.out
       have hnb101 := NB679_683.out
       have hnc101 := NB683_679.out
       have hnb102 := NB679_687.out
       have hnc102 := NB687_679.out
       have hnb103 := NB679_691.out
       have hnc103 := NB691_679.out
       have hnb104 := NB679_697.out
       have hnc104 := NB697_679.out
       have hcz105_0 : w90.cell? ⟨gb679, 0, none⟩ = some (.int .i64 t676) := (zJ BK679.out 0).trans rfl
       have hcz105_1 : w90.cell? ⟨gb679, 1, none⟩ = some (.int .i64 t677) := (zJ BK679.out 1).trans rfl
       have hfz105_0 := zK BK679.out 0
       have hfz105_1 := zK BK679.out 1
       go_wp2
       go_meet
       case rel => exact ⟨_, (true), (by first | rfl | (simp; done) | (simp [*]; done)), H', ⟨by have := HJ5.out; first | omega | exact Nat.le_refl _⟩, ⟨by (with_reducible repeat (first | refine zB ?_ _ | refine zD ?_ | refine zC ?_ _)); refine blk_far ?_ NB674_697.out _; (with_reducible repeat (first | refine zB ?_ _ | refine zD ?_ | refine zC ?_ _)); refine blk_far ?_ NB674_697.out _; (with_reducible repeat (first | refine zB ?_ _ | refine zD ?_ | refine zC ?_ _)); exact BK674.out⟩, ⟨by (with_reducible repeat (first | refine zB ?_ _ | refine zD ?_ | refine zC ?_ _)); refine blk_far ?_ NB675_697.out _; (with_reducible repeat (first | refine zB ?_ _ | refine zD ?_ | refine zC ?_ _)); refine blk_far ?_ NB675_697.out _; (with_reducible repeat (first | refine zB ?_ _ | refine zD ?_ | refine zC ?_ _)); exact BK675.out⟩, ⟨by (with_reducible repeat (first | refine zB ?_ _ | refine zD ?_ | refine zC ?_ _)); refine blk_far ?_ NB679_697.out _; (with_reducible repeat (first | refine zB ?_ _ | refine zD ?_ | refine zC ?_ _)); refine blk_far ?_ NB679_697.out _; (with_reducible repeat (first | refine zB ?_ _ | refine zD ?_ | refine zC ?_ _)); exact BK679.out⟩, ⟨by (with_reducible repeat (first | refine zB ?_ _ | refine zD ?_ | refine zC ?_ _)); refine blk_far ?_ NB683_697.out _; (with_reducible repeat (first | refine zB ?_ _ | refine zD ?_ | refine zC ?_ _)); refine blk_far ?_ NB683_697.out _; (with_reducible repeat (first | refine zB ?_ _ | refine zD ?_ | refine zC ?_ _)); exact BK683.out⟩, ⟨by (with_reducible repeat (first | refine zB ?_ _ | refine zD ?_ | refine zC ?_ _)); refine blk_far ?_ NB687_697.out _; (with_reducible repeat (first | refine zB ?_ _ | refine zD ?_ | refine zC ?_ _)); refine blk_far ?_ NB687_697.out _; (with_reducible repeat (first | refine zB ?_ _ | refine zD ?_ | refine zC ?_ _)); exact BK687.out⟩, ⟨by (with_reducible repeat (first | refine zB ?_ _ | refine zD ?_ | refine zC ?_ _)); refine blk_far ?_ NB691_697.out _; (with_reducible repeat (first | refine zB ?_ _ | refine zD ?_ | refine zC ?_ _)); refine blk_far ?_ NB691_697.out _; (with_reducible repeat (first | refine zB ?_ _ | refine zD ?_ | refine zC ?_ _)); exact BK691.out⟩, ⟨by (with_reducible repeat (first | refine zB ?_ _ | refine zD ?_ | refine zC ?_ _)); refine blk_put (cs := #[.int .i64 t694, .int .i64 0]) ?_ 1 _ rfl; (with_reducible repeat (first | refine zB ?_ _ | refine zD ?_ | refine zC ?_ _)); refine blk_put (cs := #[.int .i64 0, .int .i64 0]) ?_ 0 _ rfl; (with_reducible repeat (first | refine zB ?_ _ | refine zD ?_ | refine zC ?_ _)); exact BK697.out⟩, ⟨by repeat (first | (with_reducible first | exact HB.out | apply zG | apply zE | apply zF | refine zH ?_ GE674.out | refine zH ?_ GE675.out | refine zH ?_ GE679.out | refine zH ?_ GE683.out | refine zH ?_ GE687.out | refine zH ?_ GE691.out | refine zH ?_ GE697.out) | exact HB.out)⟩⟩
      ·rw [if_neg c98] at H
       have c98b0 : decide (t677 < (wrap64 (-t673))) = false := decide_eq_false c98
       clear c98
       (first | rw [c98b0] | (simp only [i64_w, i32_w]; rw [c98b0]) | skip)
       by_cases c106 : t676 = 0
       ·rw [if_pos c106] at H
        have c106b0 : (t676 == 0) = true := beq_iff_eq.mpr c106
        have c106b1 : (t676 != 0) = false := bne_eq_false_iff_eq.mpr c106
        clear c106
        have H' := zA H
        clear H
        have hnb107 := NB679_674.out
        have hnc107 := NB674_679.out
        have hnb108 := NB679_675.out
        have hnc108 := NB675_679.out
        have hnb109 := NB679_683.out
        have hnc109 := NB683_679.out
        have hnb110 := NB679_687.out
        have hnc110 := NB687_679.out
        have hnb111 := NB679_691.out
        have hnc111 := NB691_679.out
        have hnb112 := NB679_697.out
        have hnc112 := NB697_679.out
        have hcz113_0 : w90.cell? ⟨gb679, 0, none⟩ = some (.int .i64 t676) := (zJ BK679.out 0).trans rfl
        have hcz113_1 : w90.cell? ⟨gb679, 1, none⟩ = some (.int .i64 t677) := (zJ BK679.out 1).trans rfl
        have hfz113_0 := zK BK679.out 0
        have hfz113_1 := zK BK679.out 1
        go_wp2
        go_meet
        case rel => exact ⟨_, (false), (by first | rfl | (simp; done) | (simp [*]; done)), H', ⟨by have := HJ5.out; first | omega | exact Nat.le_refl _⟩, ⟨by (with_reducible repeat (first | refine zB ?_ _ | refine zD ?_ | refine zC ?_ _)); refine blk_far ?_ NB674_697.out _; (with_reducible repeat (first | refine zB ?_ _ | refine zD ?_ | refine zC ?_ _)); refine blk_far ?_ NB674_697.out _; (with_reducible repeat (first | refine zB ?_ _ | refine zD ?_ | refine zC ?_ _)); exact BK674.out⟩, ⟨by (with_reducible repeat (first | refine zB ?_ _ | refine zD ?_ | refine zC ?_ _)); refine blk_far ?_ NB675_697.out _; (with_reducible repeat (first | refine zB ?_ _ | refine zD ?_ | refine zC ?_ _)); refine blk_far ?_ NB675_697.out _; (with_reducible repeat (first | refine zB ?_ _ | refine zD ?_ | refine zC ?_ _)); exact BK675.out⟩, ⟨by (with_reducible repeat (first | refine zB ?_ _ | refine zD ?_ | refine zC ?_ _)); refine blk_far ?_ NB679_697.out _; (with_reducible repeat (first | refine zB ?_ _ | refine zD ?_ | refine zC ?_ _)); refine blk_far ?_ NB679_697.out _; (with_reducible repeat (first | refine zB ?_ _ | refine zD ?_ | refine zC ?_ _)); exact BK679.out⟩, ⟨by (with_reducible repeat (first | refine zB ?_ _ | refine zD ?_ | refine zC ?_ _)); refine blk_far ?_ NB683_697.out _; (with_reducible repeat (first | refine zB ?_ _ | refine zD ?_ | refine zC ?_ _)); refine blk_far ?_ NB683_697.out _; (with_reducible repeat (first | refine zB ?_ _ | refine zD ?_ | refine zC ?_ _)); exact BK683.out⟩, ⟨by (with_reducible repeat (first | refine zB ?_ _ | refine zD ?_ | refine zC ?_ _)); refine blk_far ?_ NB687_697.out _; (with_reducible repeat (first | refine zB ?_ _ | refine zD ?_ | refine zC ?_ _)); refine blk_far ?_ NB687_697.out _; (with_reducible repeat (first | refine zB ?_ _ | refine zD ?_ | refine zC ?_ _)); exact BK687.out⟩, ⟨by (with_reducible repeat (first | refine zB ?_ _ | refine zD ?_ | refine zC ?_ _)); refine blk_far ?_ NB691_697.out _; (with_reducible repeat (first | refine zB ?_ _ | refine zD ?_ | refine zC ?_ _)); refine blk_far ?_ NB691_697.out _; (with_reducible repeat (first | refine zB ?_ _ | refine zD ?_ | refine zC ?_ _)); exact BK691.out⟩, ⟨by (with_reducible repeat (first | refine zB ?_ _ | refine zD ?_ | refine zC ?_ _)); refine blk_put (cs := #[.int .i64 t694, .int .i64 0]) ?_ 1 _ rfl; (with_reducible repeat (first | refine zB ?_ _ | refine zD ?_ | refine zC ?_ _)); refine blk_put (cs := #[.int .i64 0, .int .i64 0]) ?_ 0 _ rfl; (with_reducible repeat (first | refine zB ?_ _ | refine zD ?_ | refine zC ?_ _)); exact BK697.out⟩, ⟨by repeat (first | (with_reducible first | exact HB.out | apply zG | apply zE | apply zF | refine zH ?_ GE674.out | refine zH ?_ GE675.out | refine zH ?_ GE679.out | refine zH ?_ GE683.out | refine zH ?_ GE687.out | refine zH ?_ GE691.out | refine zH ?_ GE697.out) | exact HB.out)⟩⟩
       ·rw [if_neg c106] at H
        have c106b0 : (t676 == 0) = false := beq_eq_false_iff_ne.mpr c106
        have c106b1 : (t676 != 0) = true := bne_iff_ne.mpr c106
        have H' := zA H
        clear H
        have hnb114 := NB679_674.out
        have hnc114 := NB674_679.out
        have hnb115 := NB679_675.out
        have hnc115 := NB675_679.out
        have hnb116 := NB679_683.out
        have hnc116 := NB683_679.out
        have hnb117 := NB679_687.out
        have hnc117 := NB687_679.out
        have hnb118 := NB679_691.out
        have hnc118 := NB691_679.out
        have hnb119 := NB679_697.out
        have hnc119 := NB697_679.out
        have hcz120_0 : w90.cell? ⟨gb679, 0, none⟩ = some (.int .i64 t676) := (zJ BK679.out 0).trans rfl
        have hcz120_1 : w90.cell? ⟨gb679, 1, none⟩ = some (.int .i64 t677) := (zJ BK679.out 1).trans rfl
        have hfz120_0 := zK BK679.out 0
        have hfz120_1 := zK BK679.out 1
        have hnb121 := NB674_675.out
        have hnc121 := NB675_674.out
        have hnb122 := NB674_683.out
        have hnc122 := NB683_674.out
        have hnb123 := NB674_687.out
        have hnc123 := NB687_674.out
        have hnb124 := NB674_691.out
        have hnc124 := NB691_674.out
        have hnb125 := NB674_697.out
        have hnc125 := NB697_674.out
        have hcz126_0 : w90.cell? ⟨gb674, 0, none⟩ = some (.int .i64 t669) := (zJ BK674.out 0).trans rfl
        have hcz126_1 : w90.cell? ⟨gb674, 1, none⟩ = some (.int .i64 t670) := (zJ BK674.out 1).trans rfl
        have hfz126_0 := zK BK674.out 0
        have hfz126_1 := zK BK674.out 1
        have hnb127 := NB675_683.out
        have hnc127 := NB683_675.out
        have hnb128 := NB675_687.out
        have hnc128 := NB687_675.out
        have hnb129 := NB675_691.out
        have hnc129 := NB691_675.out
        have hnb130 := NB675_697.out
        have hnc130 := NB697_675.out
        have hcz131_0 : w90.cell? ⟨gb675, 0, none⟩ = some (.int .i64 t671) := (zJ BK675.out 0).trans rfl
        have hcz131_1 : w90.cell? ⟨gb675, 1, none⟩ = some (.int .i64 t672) := (zJ BK675.out 1).trans rfl
        have hfz131_0 := zK BK675.out 0
        have hfz131_1 := zK BK675.out 1
        go_wp2
        go_meet
        case rel => exact ⟨_, (((decide (t676 < 0)) != ((decide (t669 < 0)) != (decide (t671 < 0))))), (by first | rfl | (simp; done) | (simp [*]; done)), H', ⟨by have := HJ5.out; first | omega | exact Nat.le_refl _⟩, ⟨by (with_reducible repeat (first | refine zB ?_ _ | refine zD ?_ | refine zC ?_ _)); refine blk_far ?_ NB674_697.out _; (with_reducible repeat (first | refine zB ?_ _ | refine zD ?_ | refine zC ?_ _)); refine blk_far ?_ NB674_697.out _; (with_reducible repeat (first | refine zB ?_ _ | refine zD ?_ | refine zC ?_ _)); exact BK674.out⟩, ⟨by (with_reducible repeat (first | refine zB ?_ _ | refine zD ?_ | refine zC ?_ _)); refine blk_far ?_ NB675_697.out _; (with_reducible repeat (first | refine zB ?_ _ | refine zD ?_ | refine zC ?_ _)); refine blk_far ?_ NB675_697.out _; (with_reducible repeat (first | refine zB ?_ _ | refine zD ?_ | refine zC ?_ _)); exact BK675.out⟩, ⟨by (with_reducible repeat (first | refine zB ?_ _ | refine zD ?_ | refine zC ?_ _)); refine blk_far ?_ NB679_697.out _; (with_reducible repeat (first | refine zB ?_ _ | refine zD ?_ | refine zC ?_ _)); refine blk_far ?_ NB679_697.out _; (with_reducible repeat (first | refine zB ?_ _ | refine zD ?_ | refine zC ?_ _)); exact BK679.out⟩, ⟨by (with_reducible repeat (first | refine zB ?_ _ | refine zD ?_ | refine zC ?_ _)); refine blk_far ?_ NB683_697.out _; (with_reducible repeat (first | refine zB ?_ _ | refine zD ?_ | refine zC ?_ _)); refine blk_far ?_ NB683_697.out _; (with_reducible repeat (first | refine zB ?_ _ | refine zD ?_ | refine zC ?_ _)); exact BK683.out⟩, ⟨by (with_reducible repeat (first | refine zB ?_ _ | refine zD ?_ | refine zC ?_ _)); refine blk_far ?_ NB687_697.out _; (with_reducible repeat (first | refine zB ?_ _ | refine zD ?_ | refine zC ?_ _)); refine blk_far ?_ NB687_697.out _; (with_reducible repeat (first | refine zB ?_ _ | refine zD ?_ | refine zC ?_ _)); exact BK687.out⟩, ⟨by (with_reducible repeat (first | refine zB ?_ _ | refine zD ?_ | refine zC ?_ _)); refine blk_far ?_ NB691_697.out _; (with_reducible repeat (first | refine zB ?_ _ | refine zD ?_ | refine zC ?_ _)); refine blk_far ?_ NB691_697.out _; (with_reducible repeat (first | refine zB ?_ _ | refine zD ?_ | refine zC ?_ _)); exact BK691.out⟩, ⟨by (with_reducible repeat (first | refine zB ?_ _ | refine zD ?_ | refine zC ?_ _)); refine blk_put (cs := #[.int .i64 t694, .int .i64 0]) ?_ 1 _ rfl; (with_reducible repeat (first | refine zB ?_ _ | refine zD ?_ | refine zC ?_ _)); refine blk_put (cs := #[.int .i64 0, .int .i64 0]) ?_ 0 _ rfl; (with_reducible repeat (first | refine zB ?_ _ | refine zD ?_ | refine zC ?_ _)); exact BK697.out⟩, ⟨by repeat (first | (with_reducible first | exact HB.out | apply zG | apply zE | apply zF | refine zH ?_ GE674.out | refine zH ?_ GE675.out | refine zH ?_ GE679.out | refine zH ?_ GE683.out | refine zH ?_ GE687.out | refine zH ?_ GE691.out | refine zH ?_ GE697.out) | exact HB.out)⟩⟩
     case rest =>
      clear HC62
      try clear c1
      try clear c2
      try clear c2b0
      try clear c2b1
      try clear p2
      try clear c3
      try clear c4
      try clear c5
      try clear c6
      try clear p6
      try clear c7
      try clear c8
      try clear c9
      try clear c10
      try clear c11
      try clear c12
      try clear c13
      try clear c15
      try clear c16
      try clear c18
      try clear c22
      try clear c23
      try clear c24
      try clear c26
      try clear c26b0
      try clear c27
      try clear c28
      try clear c29
      try clear c31
      try clear c32
      try clear c34
      try clear c34b0
      try clear c34b1
      try clear c34b2
      try clear c35
      try clear c36
      try clear c37
      try clear c38
      try clear c39
      try clear c40
      try clear c42
      try clear c43
      try clear c44
      try clear c46
      try clear c47
      try clear c49
      try clear c50
      try clear c50b0
      try clear c50b1
      try clear c50b2
      try clear c51
      try clear c52
      try clear c53
      try clear c55
      try clear c56
      try clear c63
      try clear c64
      try clear p64
      try clear c65
      try clear c67
      try clear c68
      try clear c72
      try clear c73
      try clear c74
      try clear c75
      try clear c77
      try clear c81
      try clear c82
      try clear c83
      try clear c84
      try clear c85
      try clear c91
      try clear c92
      try clear c93
      try clear c94
      try clear c95
      try clear c96
      try clear c98
      try clear c98b0
      try clear c99
      try clear c100
      try clear c101
      try clear c102
      try clear c103
      try clear c104
      try clear c106
      try clear c106b0
      try clear c106b1
      try clear c107
      try clear c108
      try clear c109
      try clear c110
      try clear c111
      try clear c112
      try clear c114
      try clear c115
      try clear c116
      try clear c117
      try clear c118
      try clear c119
      try clear c121
      try clear c122
      try clear c123
      try clear c124
      try clear c125
      try clear c127
      try clear c128
      try clear c129
      try clear c130
      try clear hcz105_0
      try clear hcz105_1
      try clear hcz113_0
      try clear hcz113_1
      try clear hcz11_0
      try clear hcz11_1
      try clear hcz120_0
      try clear hcz120_1
      try clear hcz126_0
      try clear hcz126_1
      try clear hcz12_0
      try clear hcz12_1
      try clear hcz131_0
      try clear hcz131_1
      try clear hcz17_0
      try clear hcz17_1
      try clear hcz18_0
      try clear hcz18_1
      try clear hcz19_0
      try clear hcz19_1
      try clear hcz25_0
      try clear hcz25_1
      try clear hcz30_0
      try clear hcz30_1
      try clear hcz33_0
      try clear hcz33_1
      try clear hcz38_0
      try clear hcz38_1
      try clear hcz41_0
      try clear hcz41_1
      try clear hcz45_0
      try clear hcz45_1
      try clear hcz48_0
      try clear hcz48_1
      try clear hcz54_0
      try clear hcz54_1
      try clear hcz57_0
      try clear hcz57_1
      try clear hcz66_0
      try clear hcz66_1
      try clear hcz69_0
      try clear hcz69_1
      try clear hcz76_0
      try clear hcz76_1
      try clear hcz78_0
      try clear hcz78_1
      try clear hcz86_0
      try clear hcz86_1
      try clear hcz87_0
      try clear hcz87_1
      try clear hcz97_0
      try clear hcz97_1
      try clear hfz105_0
      try clear hfz105_1
      try clear hfz113_0
      try clear hfz113_1
      try clear hfz11_0
      try clear hfz11_1
      try clear hfz120_0
      try clear hfz120_1
      try clear hfz126_0
      try clear hfz126_1
      try clear hfz12_0
      try clear hfz12_1
      try clear hfz131_0
      try clear hfz131_1
      try clear hfz17_0
      try clear hfz17_1
      try clear hfz18_0
      try clear hfz18_1
      try clear hfz19_0
      try clear hfz19_1
      try clear hfz25_0
      try clear hfz25_1
      try clear hfz30_0
      try clear hfz30_1
      try clear hfz33_0
      try clear hfz33_1
      try clear hfz38_0
      try clear hfz38_1
      try clear hfz41_0
      try clear hfz41_1
      try clear hfz45_0
      try clear hfz45_1
      try clear hfz48_0
      try clear hfz48_1
      try clear hfz54_0
      try clear hfz54_1
      try clear hfz57_0
      try clear hfz57_1
      try clear hfz66_0
      try clear hfz66_1
      try clear hfz69_0
      try clear hfz69_1
      try clear hfz76_0
      try clear hfz76_1
      try clear hfz78_0
      try clear hfz78_1
      try clear hfz86_0
      try clear hfz86_1
      try clear hfz87_0
      try clear hfz87_1
      try clear hfz97_0
      try clear hfz97_1
      try clear p2
      obtain ⟨kq, x102_61, rfl, HA, HJ61, BK674, BK675, BK679, BK683, BK687, BK691, BK697, HB⟩ := hcut
      cases kq with
      | zero => exact absurd HA.out (by simp [laws_FnDecDiv.j1])
      | succ kj61 =>
       have H := HA.out
       clear HA
       simp only [laws_FnDecDiv.j1] at H
       by_cases c132 : x102_61 = true
       ·subst c132
        have H1 : (none) = some r := by rw [if_pos rfl] at H; exact H
        clear H
        have H := H1
        clear H1
        exact absurd H (by simp)
       ·replace c132 := Bool.eq_false_iff.mpr c132
        subst c132
        have H1 : (if t686 = true then (if t690 = true then (if t696 = true then ((laws_chAbs.f t688 t689).bind fun bt698 => ((impl_DecCmp.f kj61 bt698.1 bt698.2 t694 t695).bind fun t700 => (if t700 < 0 then ((laws_chAbs.f t684 t685).bind fun bt701 => ((laws_chAbs.f t669 t670).bind fun bt703 => ((impl_DecCmp.f kj61 bt701.1 bt701.2 bt703.1 bt703.2).bind fun t705 => (some (decide (t705 ≤ 0)))))) else (none)))) else (some true)) else (some true)) else (some true)) = some r := by rw [if_neg (show ¬ (false = true) by decide)] at H; exact H
        clear H
        have H := H1
        clear H1
        by_cases c133 : t686 = true
        ·subst c133
         have H1 : (if t690 = true then (if t696 = true then ((laws_chAbs.f t688 t689).bind fun bt698 => ((impl_DecCmp.f kj61 bt698.1 bt698.2 t694 t695).bind fun t700 => (if t700 < 0 then ((laws_chAbs.f t684 t685).bind fun bt701 => ((laws_chAbs.f t669 t670).bind fun bt703 => ((impl_DecCmp.f kj61 bt701.1 bt701.2 bt703.1 bt703.2).bind fun t705 => (some (decide (t705 ≤ 0)))))) else (none)))) else (some true)) else (some true)) = some r := by rw [if_pos rfl] at H; exact H
         clear H
         have H := H1
         clear H1
         by_cases c134 : t690 = true
         ·subst c134
          have H1 : (if t696 = true then ((laws_chAbs.f t688 t689).bind fun bt698 => ((impl_DecCmp.f kj61 bt698.1 bt698.2 t694 t695).bind fun t700 => (if t700 < 0 then ((laws_chAbs.f t684 t685).bind fun bt701 => ((laws_chAbs.f t669 t670).bind fun bt703 => ((impl_DecCmp.f kj61 bt701.1 bt701.2 bt703.1 bt703.2).bind fun t705 => (some (decide (t705 ≤ 0)))))) else (none)))) else (some true)) = some r := by rw [if_pos rfl] at H; exact H
          clear H
          have H := H1
          clear H1
          by_cases c135 : t696 = true
          ·subst c135
           have H1 : ((laws_chAbs.f t688 t689).bind fun bt698 => ((impl_DecCmp.f kj61 bt698.1 bt698.2 t694 t695).bind fun t700 => (if t700 < 0 then ((laws_chAbs.f t684 t685).bind fun bt701 => ((laws_chAbs.f t669 t670).bind fun bt703 => ((impl_DecCmp.f kj61 bt701.1 bt701.2 bt703.1 bt703.2).bind fun t705 => (some (decide (t705 ≤ 0)))))) else (none)))) = some r := by rw [if_pos rfl] at H; exact H
           clear H
           have H := H1
           clear H1
           replace H := Option.bind_eq_some_iff.mp H
           obtain ⟨⟨t698, t699⟩, A1360, H⟩ := H
           replace H : ((impl_DecCmp.f kj61 t698 t699 t694 t695).bind fun t700 => (if t700 < 0 then ((laws_chAbs.f t684 t685).bind fun bt701 => ((laws_chAbs.f t669 t670).bind fun bt703 => ((impl_DecCmp.f kj61 bt701.1 bt701.2 bt703.1 bt703.2).bind fun t705 => (some (decide (t705 ≤ 0)))))) else (none))) = some r := H
           have A136 := zA A1360
           clear A1360
           replace H := Option.bind_eq_some_iff.mp H
           obtain ⟨t700, A1370, H⟩ := H
           replace H : (if t700 < 0 then ((laws_chAbs.f t684 t685).bind fun bt701 => ((laws_chAbs.f t669 t670).bind fun bt703 => ((impl_DecCmp.f kj61 bt701.1 bt701.2 bt703.1 bt703.2).bind fun t705 => (some (decide (t705 ≤ 0)))))) else (none)) = some r := H
           have A137 := zA A1370
           clear A1370
           by_cases c138 : t700 < 0
           ·rw [if_pos c138] at H
            have c138b0 : decide (t700 < 0) = true := decide_eq_true c138
            clear c138
            replace H := Option.bind_eq_some_iff.mp H
            obtain ⟨⟨t701, t702⟩, A1390, H⟩ := H
            replace H : ((laws_chAbs.f t669 t670).bind fun bt703 => ((impl_DecCmp.f kj61 t701 t702 bt703.1 bt703.2).bind fun t705 => (some (decide (t705 ≤ 0))))) = some r := H
            have A139 := zA A1390
            clear A1390
            replace H := Option.bind_eq_some_iff.mp H
            obtain ⟨⟨t703, t704⟩, A1400, H⟩ := H
            replace H : ((impl_DecCmp.f kj61 t701 t702 t703 t704).bind fun t705 => (some (decide (t705 ≤ 0)))) = some r := H
            have A140 := zA A1400
            clear A1400
            replace H := Option.bind_eq_some_iff.mp H
            obtain ⟨t705, A1410, H⟩ := H
            replace H : (some (decide (t705 ≤ 0))) = some r := H
            have A141 := zA A1410
            clear A1410
            obtain rfl := Option.some.inj H
            try go_wp2
            have n0_ := zA (zD BK674.out)
            have n1_ := zA (zD BK675.out)
            have n2_ := zA (zD BK679.out)
            have n3_ := zA (zD BK683.out)
            have n4_ := zA (zD BK687.out)
            have n5_ := zA (zD BK691.out)
            have n6_ := zA (zD BK697.out)
            have n7_ := zA (zF HB.out)
            clear BK674
            clear BK675
            clear BK679
            clear BK683
            clear BK687
            clear BK691
            clear BK697
            clear HB
            have BK674 := n0_
            have BK675 := n1_
            have BK679 := n2_
            have BK683 := n3_
            have BK687 := n4_
            have BK691 := n5_
            have BK697 := n6_
            have HB := n7_
            clear n0_ n1_ n2_ n3_ n4_ n5_ n6_ n7_
            refine start_ (n := 26) (S := fun w' => w'.cell? ⟨gb691, 0, none⟩ = some (.int .i64 t688) ∧ w'.cell? ⟨gb691, 1, none⟩ = some (.int .i64 t689) ∧ w'.cell? ⟨gb697, 0, none⟩ = some (.int .i64 t694) ∧ w'.cell? ⟨gb697, 1, none⟩ = some (.int .i64 t695) ∧ w'.cell? ⟨gb687, 0, none⟩ = some (.int .i64 t684) ∧ w'.cell? ⟨gb687, 1, none⟩ = some (.int .i64 t685) ∧ w'.cell? ⟨gb674, 0, none⟩ = some (.int .i64 t669) ∧ w'.cell? ⟨gb674, 1, none⟩ = some (.int .i64 t670)) (ds := []) #[false, false, false, false, false, false, false, false, false, false, false, false, false, false, false, false, false, false, false, false, false, false, false, false, false, false] (by kernel_rfl) rfl rfl ⟨(zJ BK691.out 0).trans rfl, (zJ BK691.out 1).trans rfl, (zJ BK697.out 0).trans rfl, (zJ BK697.out 1).trans rfl, (zJ BK687.out 0).trans rfl, (zJ BK687.out 1).trans rfl, (zJ BK674.out 0).trans rfl, (zJ BK674.out 1).trans rfl⟩ (fun hHeld => ?_); refine with_tabW laws_FnDecDiv.tab13 laws_FnDecDiv.bits13 (fun HT_ HW_ => ?_)
            generalize wc.drew = w142 at BK674 BK675 BK679 BK683 BK687 BK691 BK697 HB hHeld ⊢
            refine pure_ (i := 0) (N := some 103) (v := ?_) (a' := ?_) #[true, false, false, false, false, false, false, false, false, false, false, false, false, false, false, false, false, false, false, false, false, false, false, false, false, false] rfl rfl (any_of HT_.out (by kernel_rfl)) (fun _ _ _ h => h) (Or.inl ⟨by rfl, ?_⟩) ?_ ?_
            rotate_left
            ·intro w'
             go_simp
             with_reducible rfl
            rotate_left
            ·simp only [Act.put, zL, zM, zN, i64_w, i32_w]
             rfl
            refine pure_ (i := 1) (N := some 104) (v := ?_) (a' := ?_) #[true, true, false, false, false, false, false, false, false, false, false, false, false, false, false, false, false, false, false, false, false, false, false, false, false, false] rfl rfl (any_of HT_.out (by kernel_rfl)) (fun _ _ _ h => h) (Or.inl ⟨by rfl, ?_⟩) ?_ ?_
            rotate_left
            ·intro w'
             go_simp
             with_reducible rfl
            rotate_left
            ·simp only [Act.put, zL, zM, zN, i64_w, i32_w]
             rfl
            refine pure_ (i := 2) (N := some 105) (v := ?_) (a' := ?_) #[true, true, true, false, false, false, false, false, false, false, false, false, false, false, false, false, false, false, false, false, false, false, false, false, false, false] rfl rfl (any_of HT_.out (by kernel_rfl)) (fun _ _ _ h => h) (Or.inl ⟨by rfl, ?_⟩) ?_ ?_
            rotate_left
            ·intro w'
             go_simp
             with_reducible rfl
            rotate_left
            ·simp only [Act.put, zL, zM, zN, i64_w, i32_w]
             rfl
            refine pure_ (i := 3) (N := some 106) (v := ?_) (a' := ?_) #[true, true, true, true, false, false, false, false, false, false, false, false, false, false, false, false, false, false, false, false, false, false, false, false, false, false] rfl rfl (any_of HT_.out (by kernel_rfl)) (fun _ _ _ h => h) (Or.inl ⟨by rfl, ?_⟩) ?_ ?_
            rotate_left
            ·intro w'
             go_simp
             with_reducible rfl
            rotate_left
            ·simp only [Act.put, zL, zM, zN, i64_w, i32_w]
             rfl
            refine pure_ (i := 4) (N := some 107) (v := ?_) (a' := ?_) #[true, true, true, true, true, false, false, false, false, false, false, false, false, false, false, false, false, false, false, false, false, false, false, false, false, false] rfl rfl (any_of HT_.out (by kernel_rfl)) (fun _ _ _ h => h) (Or.inl ⟨by rfl, ?_⟩) ?_ ?_
            rotate_left
            ·intro w'
             go_simp
             with_reducible rfl
            rotate_left
            ·simp only [Act.put, zL, zM, zN, i64_w, i32_w]
             rfl
            refine pure_ (i := 5) (N := some 108) (v := ?_) (a' := ?_) #[true, true, true, true, true, true, false, false, false, false, false, false, false, false, false, false, false, false, false, false, false, false, false, false, false, false] rfl rfl (any_of HT_.out (by kernel_rfl)) (fun _ _ _ h => h) (Or.inl ⟨by rfl, ?_⟩) ?_ ?_
            rotate_left
            ·intro w'
             go_simp
             with_reducible rfl
            rotate_left
            ·simp only [Act.put, zL, zM, zN, i64_w, i32_w]
             rfl
            refine pure_ (i := 6) (N := some 109) (v := ?_) (a' := ?_) #[true, true, true, true, true, true, true, false, false, false, false, false, false, false, false, false, false, false, false, false, false, false, false, false, false, false] rfl rfl (any_of HT_.out (by kernel_rfl)) (fun _ _ _ h => h) (Or.inl ⟨by rfl, ?_⟩) ?_ ?_
            rotate_left
            ·intro w'
             go_simp
             with_reducible rfl
            rotate_left
            ·simp only [Act.put, zL, zM, zN, i64_w, i32_w]
             rfl
            refine pure_ (i := 7) (N := some 110) (v := ?_) (a' := ?_) #[true, true, true, true, true, true, true, true, false, false, false, false, false, false, false, false, false, false, false, false, false, false, false, false, false, false] rfl rfl (any_of HT_.out (by kernel_rfl)) (fun _ _ _ h => h) (Or.inl ⟨by rfl, ?_⟩) ?_ ?_
            rotate_left
            ·intro w'
             go_simp
             with_reducible rfl
            rotate_left
            ·simp only [Act.put, zL, zM, zN, i64_w, i32_w]
             rfl
            refine pure_ (i := 8) (N := some 111) (v := ?_) (a' := ?_) #[true, true, true, true, true, true, true, true, true, false, false, false, false, false, false, false, false, false, false, false, false, false, false, false, false, false] rfl rfl (any_of HT_.out (by kernel_rfl)) (fun _ _ _ h => h) (Or.inl ⟨by rfl, ?_⟩) ?_ ?_
            rotate_left
            ·intro w'
             go_simp
             with_reducible rfl
            rotate_left
            ·simp only [Act.put, zL, zM, zN, i64_w, i32_w]
             rfl
            refine pure_ (i := 9) (N := some 112) (v := ?_) (a' := ?_) #[true, true, true, true, true, true, true, true, true, true, false, false, false, false, false, false, false, false, false, false, false, false, false, false, false, false] rfl rfl (any_of HT_.out (by kernel_rfl)) (fun _ _ _ h => h) (Or.inl ⟨by rfl, ?_⟩) ?_ ?_
            rotate_left
            ·intro w'
             go_simp
             with_reducible rfl
            rotate_left
            ·simp only [Act.put, zL, zM, zN, i64_w, i32_w]
             rfl
            refine pure_ (i := 10) (N := some 113) (v := ?_) (a' := ?_) #[true, true, true, true, true, true, true, true, true, true, true, false, false, false, false, false, false, false, false, false, false, false, false, false, false, false] rfl rfl (any_of HT_.out (by kernel_rfl)) (fun _ _ _ h => h) (Or.inl ⟨by rfl, ?_⟩) ?_ ?_
            rotate_left
            ·intro w'
             go_simp
             with_reducible rfl
            rotate_left
            ·simp only [Act.put, zL, zM, zN, i64_w, i32_w]
             rfl
            refine take_ (i := 11) (N := some 114) (v := ?_) (a' := ?_) #[true, true, true, true, true, true, true, true, true, true, true, true, false, false, false, false, false, false, false, false, false, false, false, false, false, false] rfl rfl (take_ofW HT_.out HW_.out (by kernel_rfl)) (fun _ _ _ h => h) (Or.inl ⟨by rfl, ?_⟩) hHeld ?_ ?_
            rotate_left
            ·rintro w' ⟨s0, s1, s2, s3, s4, s5, s6, s7⟩
             go_simp
             with_reducible rfl
            rotate_left
            ·simp only [Act.put, zL, zM, zN, i64_w, i32_w]
             rfl
            refine take_ (i := 13) (N := some 116) (v := ?_) (a' := ?_) #[true, true, true, true, true, true, true, true, true, true, true, true, false, true, false, false, false, false, false, false, false, false, false, false, false, false] rfl rfl (take_ofW HT_.out HW_.out (by kernel_rfl)) (fun _ _ _ h => h) (Or.inl ⟨by rfl, ?_⟩) hHeld ?_ ?_
            rotate_left
            ·rintro w' ⟨s0, s1, s2, s3, s4, s5, s6, s7⟩
             go_simp
             with_reducible rfl
            rotate_left
            ·simp only [Act.put, zL, zM, zN, i64_w, i32_w]
             rfl
            refine one_ (i := 12) (N := some 115) #[true, true, true, true, true, true, true, true, true, true, true, true, true, true, false, false, false, false, false, false, false, false, false, false, false, false] rfl rfl (one_of HT_.out (by kernel_rfl)) (by decide) (fun K hK => ?_)
            refine goes_ Try.func39 (by kernel_rfl) rfl #[.agg #[.int .i64 t688, .int .i64 t689]] (by rfl) rfl rfl (by (try simp only [List.map_toArray, List.map_cons, List.map_nil]); first | done | rfl | (simp only [List.length_drop, List.length_take]; rfl)) ?_
            with_reducible refine (laws_chAbs.calls t688 t689 t698 t699 _ A136.out).mono ?_
            rintro e w143 ⟨rfl, hb⟩
            refine ⟨_, rfl, ?_⟩
            have n0_ := zA (zP (g := gb674) (o := .cells #[.int .i64 t669, .int .i64 t670] 26 (0, 0)) (by (with_reducible repeat (first | refine zB ?_ _ | refine zD ?_ | refine zC ?_ _)); exact BK674.out) hb)
            have n1_ := zA (zP (g := gb675) (o := .cells #[.int .i64 t671, .int .i64 t672] 26 (0, 0)) (by (with_reducible repeat (first | refine zB ?_ _ | refine zD ?_ | refine zC ?_ _)); exact BK675.out) hb)
            have n2_ := zA (zP (g := gb679) (o := .cells #[.int .i64 t676, .int .i64 t677] 26 (0, 0)) (by (with_reducible repeat (first | refine zB ?_ _ | refine zD ?_ | refine zC ?_ _)); exact BK679.out) hb)
            have n3_ := zA (zP (g := gb683) (o := .cells #[.int .i64 t680, .int .i64 t681] 26 (0, 0)) (by (with_reducible repeat (first | refine zB ?_ _ | refine zD ?_ | refine zC ?_ _)); exact BK683.out) hb)
            have n4_ := zA (zP (g := gb687) (o := .cells #[.int .i64 t684, .int .i64 t685] 26 (0, 0)) (by (with_reducible repeat (first | refine zB ?_ _ | refine zD ?_ | refine zC ?_ _)); exact BK687.out) hb)
            have n5_ := zA (zP (g := gb691) (o := .cells #[.int .i64 t688, .int .i64 t689] 26 (0, 0)) (by (with_reducible repeat (first | refine zB ?_ _ | refine zD ?_ | refine zC ?_ _)); exact BK691.out) hb)
            have n6_ := zA (zP (g := gb697) (o := .cells #[.int .i64 t694, .int .i64 t695] 26 (0, 0)) (by (with_reducible repeat (first | refine zB ?_ _ | refine zD ?_ | refine zC ?_ _)); exact BK697.out) hb)
            have n7_ := zA (zQ (by repeat (first | (with_reducible first | exact HB.out | apply zG | apply zE | apply zF | refine zH ?_ GE674.out | refine zH ?_ GE675.out | refine zH ?_ GE679.out | refine zH ?_ GE683.out | refine zH ?_ GE687.out | refine zH ?_ GE691.out | refine zH ?_ GE697.out) | exact HB.out)) hb)
            clear BK674
            clear BK675
            clear BK679
            clear BK683
            clear BK687
            clear BK691
            clear BK697
            clear HB
            have BK674 := n0_
            have BK675 := n1_
            have BK679 := n2_
            have BK683 := n3_
            have BK687 := n4_
            have BK691 := n5_
            have BK697 := n6_
            have HB := n7_
            clear n0_ n1_ n2_ n3_ n4_ n5_ n6_ n7_
            (try clear hb)
            (try clear hb2)
            (try clear hk)
            (try clear hi)
            refine hK.out _ _ ⟨(zJ BK691.out 0).trans rfl, (zJ BK691.out 1).trans rfl, (zJ BK697.out 0).trans rfl, (zJ BK697.out 1).trans rfl, (zJ BK687.out 0).trans rfl, (zJ BK687.out 1).trans rfl, (zJ BK674.out 0).trans rfl, (zJ BK674.out 1).trans rfl⟩ (fun hHeld => ?_)
            clear hK K
            refine norm_ (a' := ?_) ?_ ?_
            rotate_left
            ·show Act.put _ (some 115) _ = _
             simp only [Act.put, zL, zM, zN, i64_w, i32_w]
             rfl
            refine one_ (i := 14) (N := some 117) #[true, true, true, true, true, true, true, true, true, true, true, true, true, true, true, false, false, false, false, false, false, false, false, false, false, false] rfl rfl (one_of HT_.out (by kernel_rfl)) (by decide) (fun K hK => ?_)
            refine goes_ Try.func34 (by kernel_rfl) rfl #[.agg #[.int .i64 t698, .int .i64 t699], .agg #[.int .i64 t694, .int .i64 t695]] (by rfl) rfl rfl (by (try simp only [List.map_toArray, List.map_cons, List.map_nil]); first | done | rfl | (simp only [List.length_drop, List.length_take]; rfl)) ?_
            with_reducible refine (impl_DecCmp.calls kj61 t698 t699 t694 t695 t700 _ A137.out).mono ?_
            rintro e w144 ⟨rfl, hb⟩
            refine ⟨_, rfl, ?_⟩
            have n0_ := zA (zP (g := gb674) (o := .cells #[.int .i64 t669, .int .i64 t670] 26 (0, 0)) (by (with_reducible repeat (first | refine zB ?_ _ | refine zD ?_ | refine zC ?_ _)); exact BK674.out) hb)
            have n1_ := zA (zP (g := gb675) (o := .cells #[.int .i64 t671, .int .i64 t672] 26 (0, 0)) (by (with_reducible repeat (first | refine zB ?_ _ | refine zD ?_ | refine zC ?_ _)); exact BK675.out) hb)
            have n2_ := zA (zP (g := gb679) (o := .cells #[.int .i64 t676, .int .i64 t677] 26 (0, 0)) (by (with_reducible repeat (first | refine zB ?_ _ | refine zD ?_ | refine zC ?_ _)); exact BK679.out) hb)
            have n3_ := zA (zP (g := gb683) (o := .cells #[.int .i64 t680, .int .i64 t681] 26 (0, 0)) (by (with_reducible repeat (first | refine zB ?_ _ | refine zD ?_ | refine zC ?_ _)); exact BK683.out) hb)
            have n4_ := zA (zP (g := gb687) (o := .cells #[.int .i64 t684, .int .i64 t685] 26 (0, 0)) (by (with_reducible repeat (first | refine zB ?_ _ | refine zD ?_ | refine zC ?_ _)); exact BK687.out) hb)
            have n5_ := zA (zP (g := gb691) (o := .cells #[.int .i64 t688, .int .i64 t689] 26 (0, 0)) (by (with_reducible repeat (first | refine zB ?_ _ | refine zD ?_ | refine zC ?_ _)); exact BK691.out) hb)
            have n6_ := zA (zP (g := gb697) (o := .cells #[.int .i64 t694, .int .i64 t695] 26 (0, 0)) (by (with_reducible repeat (first | refine zB ?_ _ | refine zD ?_ | refine zC ?_ _)); exact BK697.out) hb)
            have n7_ := zA (zQ (by repeat (first | (with_reducible first | exact HB.out | apply zG | apply zE | apply zF | refine zH ?_ GE674.out | refine zH ?_ GE675.out | refine zH ?_ GE679.out | refine zH ?_ GE683.out | refine zH ?_ GE687.out | refine zH ?_ GE691.out | refine zH ?_ GE697.out) | exact HB.out)) hb)
            clear BK674
            clear BK675
            clear BK679
            clear BK683
            clear BK687
            clear BK691
            clear BK697
            clear HB
            have BK674 := n0_
            have BK675 := n1_
            have BK679 := n2_
            have BK683 := n3_
            have BK687 := n4_
            have BK691 := n5_
            have BK697 := n6_
            have HB := n7_
            clear n0_ n1_ n2_ n3_ n4_ n5_ n6_ n7_
            (try clear hb)
            (try clear hb2)
            (try clear hk)
            (try clear hi)
            refine hK.out _ _ ⟨(zJ BK691.out 0).trans rfl, (zJ BK691.out 1).trans rfl, (zJ BK697.out 0).trans rfl, (zJ BK697.out 1).trans rfl, (zJ BK687.out 0).trans rfl, (zJ BK687.out 1).trans rfl, (zJ BK674.out 0).trans rfl, (zJ BK674.out 1).trans rfl⟩ (fun hHeld => ?_)
            clear hK K
            refine norm_ (a' := ?_) ?_ ?_
            rotate_left
            ·show Act.put _ (some 117) _ = _
             simp only [Act.put, zL, zM, zN, i64_w, i32_w]
             rfl
            refine pure_ (i := 15) (N := some 118) (v := ?_) (a' := ?_) #[true, true, true, true, true, true, true, true, true, true, true, true, true, true, true, true, false, false, false, false, false, false, false, false, false, false] rfl rfl (any_of HT_.out (by kernel_rfl)) (fun _ _ _ h => h) (Or.inl ⟨by rfl, ?_⟩) ?_ ?_
            rotate_left
            ·intro w'
             go_simp
             with_reducible rfl
            rotate_left
            ·simp only [Act.put, zL, zM, zN, i64_w, i32_w]
             rfl
            refine pure_ (i := 16) (N := some 119) (v := ?_) (a' := ?_) #[true, true, true, true, true, true, true, true, true, true, true, true, true, true, true, true, true, false, false, false, false, false, false, false, false, false] rfl rfl (any_of HT_.out (by kernel_rfl)) (fun _ _ _ h => h) (Or.inl ⟨by rfl, ?_⟩) ?_ ?_
            rotate_left
            ·intro w'
             go_simp
             with_reducible rfl
            rotate_left
            ·simp only [Act.put, zL, zM, zN, i64_w, i32_w]
             rfl
            refine take_ (i := 17) (N := some 120) (v := ?_) (a' := ?_) #[true, true, true, true, true, true, true, true, true, true, true, true, true, true, true, true, true, true, false, false, false, false, false, false, false, false] rfl rfl (take_ofW HT_.out HW_.out (by kernel_rfl)) (fun _ _ _ h => h) (Or.inl ⟨by rfl, ?_⟩) hHeld ?_ ?_
            rotate_left
            ·rintro w' ⟨s0, s1, s2, s3, s4, s5, s6, s7⟩
             go_simp
             with_reducible rfl
            rotate_left
            ·simp only [Act.put, zL, zM, zN, i64_w, i32_w]
             rfl
            refine take_ (i := 19) (N := some 122) (v := ?_) (a' := ?_) #[true, true, true, true, true, true, true, true, true, true, true, true, true, true, true, true, true, true, false, true, false, false, false, false, false, false] rfl rfl (take_ofW HT_.out HW_.out (by kernel_rfl)) (fun _ _ _ h => h) (Or.inl ⟨by rfl, ?_⟩) hHeld ?_ ?_
            rotate_left
            ·rintro w' ⟨s0, s1, s2, s3, s4, s5, s6, s7⟩
             go_simp
             with_reducible rfl
            rotate_left
            ·simp only [Act.put, zL, zM, zN, i64_w, i32_w]
             rfl
            refine one_ (i := 18) (N := some 121) #[true, true, true, true, true, true, true, true, true, true, true, true, true, true, true, true, true, true, true, true, false, false, false, false, false, false] rfl rfl (one_of HT_.out (by kernel_rfl)) (by decide) (fun K hK => ?_)
            refine goes_ Try.func39 (by kernel_rfl) rfl #[.agg #[.int .i64 t684, .int .i64 t685]] (by rfl) rfl rfl (by (try simp only [List.map_toArray, List.map_cons, List.map_nil]); first | done | rfl | (simp only [List.length_drop, List.length_take]; rfl)) ?_
            with_reducible refine (laws_chAbs.calls t684 t685 t701 t702 _ A139.out).mono ?_
            rintro e w145 ⟨rfl, hb⟩
            refine ⟨_, rfl, ?_⟩
            have n0_ := zA (zP (g := gb674) (o := .cells #[.int .i64 t669, .int .i64 t670] 26 (0, 0)) (by (with_reducible repeat (first | refine zB ?_ _ | refine zD ?_ | refine zC ?_ _)); exact BK674.out) hb)
            have n1_ := zA (zP (g := gb675) (o := .cells #[.int .i64 t671, .int .i64 t672] 26 (0, 0)) (by (with_reducible repeat (first | refine zB ?_ _ | refine zD ?_ | refine zC ?_ _)); exact BK675.out) hb)
            have n2_ := zA (zP (g := gb679) (o := .cells #[.int .i64 t676, .int .i64 t677] 26 (0, 0)) (by (with_reducible repeat (first | refine zB ?_ _ | refine zD ?_ | refine zC ?_ _)); exact BK679.out) hb)
            have n3_ := zA (zP (g := gb683) (o := .cells #[.int .i64 t680, .int .i64 t681] 26 (0, 0)) (by (with_reducible repeat (first | refine zB ?_ _ | refine zD ?_ | refine zC ?_ _)); exact BK683.out) hb)
            have n4_ := zA (zP (g := gb687) (o := .cells #[.int .i64 t684, .int .i64 t685] 26 (0, 0)) (by (with_reducible repeat (first | refine zB ?_ _ | refine zD ?_ | refine zC ?_ _)); exact BK687.out) hb)
            have n5_ := zA (zP (g := gb691) (o := .cells #[.int .i64 t688, .int .i64 t689] 26 (0, 0)) (by (with_reducible repeat (first | refine zB ?_ _ | refine zD ?_ | refine zC ?_ _)); exact BK691.out) hb)
            have n6_ := zA (zP (g := gb697) (o := .cells #[.int .i64 t694, .int .i64 t695] 26 (0, 0)) (by (with_reducible repeat (first | refine zB ?_ _ | refine zD ?_ | refine zC ?_ _)); exact BK697.out) hb)
            have n7_ := zA (zQ (by repeat (first | (with_reducible first | exact HB.out | apply zG | apply zE | apply zF | refine zH ?_ GE674.out | refine zH ?_ GE675.out | refine zH ?_ GE679.out | refine zH ?_ GE683.out | refine zH ?_ GE687.out | refine zH ?_ GE691.out | refine zH ?_ GE697.out) | exact HB.out)) hb)
            clear BK674
            clear BK675
            clear BK679
            clear BK683
            clear BK687
            clear BK691
            clear BK697
            clear HB
            have BK674 := n0_
            have BK675 := n1_
            have BK679 := n2_
            have BK683 := n3_
            have BK687 := n4_
            have BK691 := n5_
            have BK697 := n6_
            have HB := n7_
            clear n0_ n1_ n2_ n3_ n4_ n5_ n6_ n7_
            (try clear hb)
            (try clear hb2)
            (try clear hk)
            (try clear hi)
            refine hK.out _ _ ⟨(zJ BK691.out 0).trans rfl, (zJ BK691.out 1).trans rfl, (zJ BK697.out 0).trans rfl, (zJ BK697.out 1).trans rfl, (zJ BK687.out 0).trans rfl, (zJ BK687.out 1).trans rfl, (zJ BK674.out 0).trans rfl, (zJ BK674.out 1).trans rfl⟩ (fun hHeld => ?_)
            clear hK K
            refine norm_ (a' := ?_) ?_ ?_
            rotate_left
            ·show Act.put _ (some 121) _ = _
             simp only [Act.put, zL, zM, zN, i64_w, i32_w]
             rfl
            refine one_ (i := 20) (N := some 123) #[true, true, true, true, true, true, true, true, true, true, true, true, true, true, true, true, true, true, true, true, true, false, false, false, false, false] rfl rfl (one_of HT_.out (by kernel_rfl)) (by decide) (fun K hK => ?_)
            refine goes_ Try.func39 (by kernel_rfl) rfl #[.agg #[.int .i64 t669, .int .i64 t670]] (by rfl) rfl rfl (by (try simp only [List.map_toArray, List.map_cons, List.map_nil]); first | done | rfl | (simp only [List.length_drop, List.length_take]; rfl)) ?_
            with_reducible refine (laws_chAbs.calls t669 t670 t703 t704 _ A140.out).mono ?_
            rintro e w146 ⟨rfl, hb⟩
            refine ⟨_, rfl, ?_⟩
            have n0_ := zA (zP (g := gb674) (o := .cells #[.int .i64 t669, .int .i64 t670] 26 (0, 0)) (by (with_reducible repeat (first | refine zB ?_ _ | refine zD ?_ | refine zC ?_ _)); exact BK674.out) hb)
            have n1_ := zA (zP (g := gb675) (o := .cells #[.int .i64 t671, .int .i64 t672] 26 (0, 0)) (by (with_reducible repeat (first | refine zB ?_ _ | refine zD ?_ | refine zC ?_ _)); exact BK675.out) hb)
            have n2_ := zA (zP (g := gb679) (o := .cells #[.int .i64 t676, .int .i64 t677] 26 (0, 0)) (by (with_reducible repeat (first | refine zB ?_ _ | refine zD ?_ | refine zC ?_ _)); exact BK679.out) hb)
            have n3_ := zA (zP (g := gb683) (o := .cells #[.int .i64 t680, .int .i64 t681] 26 (0, 0)) (by (with_reducible repeat (first | refine zB ?_ _ | refine zD ?_ | refine zC ?_ _)); exact BK683.out) hb)
            have n4_ := zA (zP (g := gb687) (o := .cells #[.int .i64 t684, .int .i64 t685] 26 (0, 0)) (by (with_reducible repeat (first | refine zB ?_ _ | refine zD ?_ | refine zC ?_ _)); exact BK687.out) hb)
            have n5_ := zA (zP (g := gb691) (o := .cells #[.int .i64 t688, .int .i64 t689] 26 (0, 0)) (by (with_reducible repeat (first | refine zB ?_ _ | refine zD ?_ | refine zC ?_ _)); exact BK691.out) hb)
            have n6_ := zA (zP (g := gb697) (o := .cells #[.int .i64 t694, .int .i64 t695] 26 (0, 0)) (by (with_reducible repeat (first | refine zB ?_ _ | refine zD ?_ | refine zC ?_ _)); exact BK697.out) hb)
            have n7_ := zA (zQ (by repeat (first | (with_reducible first | exact HB.out | apply zG | apply zE | apply zF | refine zH ?_ GE674.out | refine zH ?_ GE675.out | refine zH ?_ GE679.out | refine zH ?_ GE683.out | refine zH ?_ GE687.out | refine zH ?_ GE691.out | refine zH ?_ GE697.out) | exact HB.out)) hb)
            clear BK674
            clear BK675
            clear BK679
            clear BK683
            clear BK687
            clear BK691
            clear BK697
            clear HB
            have BK674 := n0_
            have BK675 := n1_
            have BK679 := n2_
            have BK683 := n3_
            have BK687 := n4_
            have BK691 := n5_
            have BK697 := n6_
            have HB := n7_
            clear n0_ n1_ n2_ n3_ n4_ n5_ n6_ n7_
            (try clear hb)
            (try clear hb2)
            (try clear hk)
            (try clear hi)
            refine hK.out _ _ ⟨(zJ BK691.out 0).trans rfl, (zJ BK691.out 1).trans rfl, (zJ BK697.out 0).trans rfl, (zJ BK697.out 1).trans rfl, (zJ BK687.out 0).trans rfl, (zJ BK687.out 1).trans rfl, (zJ BK674.out 0).trans rfl, (zJ BK674.out 1).trans rfl⟩ (fun hHeld => ?_)
            clear hK K
            refine norm_ (a' := ?_) ?_ ?_
            rotate_left
            ·show Act.put _ (some 123) _ = _
             simp only [Act.put, zL, zM, zN, i64_w, i32_w]
             rfl
            refine one_ (i := 21) (N := some 124) #[true, true, true, true, true, true, true, true, true, true, true, true, true, true, true, true, true, true, true, true, true, true, false, false, false, false] rfl rfl (one_of HT_.out (by kernel_rfl)) (by decide) (fun K hK => ?_)
            refine goes_ Try.func34 (by kernel_rfl) rfl #[.agg #[.int .i64 t701, .int .i64 t702], .agg #[.int .i64 t703, .int .i64 t704]] (by rfl) rfl rfl (by (try simp only [List.map_toArray, List.map_cons, List.map_nil]); first | done | rfl | (simp only [List.length_drop, List.length_take]; rfl)) ?_
            with_reducible refine (impl_DecCmp.calls kj61 t701 t702 t703 t704 t705 _ A141.out).mono ?_
            rintro e w147 ⟨rfl, hb⟩
            refine ⟨_, rfl, ?_⟩
            have n0_ := zA (zP (g := gb674) (o := .cells #[.int .i64 t669, .int .i64 t670] 26 (0, 0)) (by (with_reducible repeat (first | refine zB ?_ _ | refine zD ?_ | refine zC ?_ _)); exact BK674.out) hb)
            have n1_ := zA (zP (g := gb675) (o := .cells #[.int .i64 t671, .int .i64 t672] 26 (0, 0)) (by (with_reducible repeat (first | refine zB ?_ _ | refine zD ?_ | refine zC ?_ _)); exact BK675.out) hb)
            have n2_ := zA (zP (g := gb679) (o := .cells #[.int .i64 t676, .int .i64 t677] 26 (0, 0)) (by (with_reducible repeat (first | refine zB ?_ _ | refine zD ?_ | refine zC ?_ _)); exact BK679.out) hb)
            have n3_ := zA (zP (g := gb683) (o := .cells #[.int .i64 t680, .int .i64 t681] 26 (0, 0)) (by (with_reducible repeat (first | refine zB ?_ _ | refine zD ?_ | refine zC ?_ _)); exact BK683.out) hb)
            have n4_ := zA (zP (g := gb687) (o := .cells #[.int .i64 t684, .int .i64 t685] 26 (0, 0)) (by (with_reducible repeat (first | refine zB ?_ _ | refine zD ?_ | refine zC ?_ _)); exact BK687.out) hb)
            have n5_ := zA (zP (g := gb691) (o := .cells #[.int .i64 t688, .int .i64 t689] 26 (0, 0)) (by (with_reducible repeat (first | refine zB ?_ _ | refine zD ?_ | refine zC ?_ _)); exact BK691.out) hb)
            have n6_ := zA (zP (g := gb697) (o := .cells #[.int .i64 t694, .int .i64 t695] 26 (0, 0)) (by (with_reducible repeat (first | refine zB ?_ _ | refine zD ?_ | refine zC ?_ _)); exact BK697.out) hb)
            have n7_ := zA (zQ (by repeat (first | (with_reducible first | exact HB.out | apply zG | apply zE | apply zF | refine zH ?_ GE674.out | refine zH ?_ GE675.out | refine zH ?_ GE679.out | refine zH ?_ GE683.out | refine zH ?_ GE687.out | refine zH ?_ GE691.out | refine zH ?_ GE697.out) | exact HB.out)) hb)
            clear BK674
            clear BK675
            clear BK679
            clear BK683
            clear BK687
            clear BK691
            clear BK697
            clear HB
            have BK674 := n0_
            have BK675 := n1_
            have BK679 := n2_
            have BK683 := n3_
            have BK687 := n4_
            have BK691 := n5_
            have BK697 := n6_
            have HB := n7_
            clear n0_ n1_ n2_ n3_ n4_ n5_ n6_ n7_
            (try clear hb)
            (try clear hb2)
            (try clear hk)
            (try clear hi)
            refine hK.out _ _ ⟨(zJ BK691.out 0).trans rfl, (zJ BK691.out 1).trans rfl, (zJ BK697.out 0).trans rfl, (zJ BK697.out 1).trans rfl, (zJ BK687.out 0).trans rfl, (zJ BK687.out 1).trans rfl, (zJ BK674.out 0).trans rfl, (zJ BK674.out 1).trans rfl⟩ (fun hHeld => ?_)
            clear hK K
            refine norm_ (a' := ?_) ?_ ?_
            rotate_left
            ·show Act.put _ (some 124) _ = _
             simp only [Act.put, zL, zM, zN, i64_w, i32_w]
             rfl
            refine pure_ (i := 22) (N := some 125) (v := ?_) (a' := ?_) #[true, true, true, true, true, true, true, true, true, true, true, true, true, true, true, true, true, true, true, true, true, true, true, false, false, false] rfl rfl (any_of HT_.out (by kernel_rfl)) (fun _ _ _ h => h) (Or.inl ⟨by rfl, ?_⟩) ?_ ?_
            rotate_left
            ·intro w'
             go_simp
             with_reducible rfl
            rotate_left
            ·simp only [Act.put, zL, zM, zN, i64_w, i32_w]
             rfl
            refine pure_ (i := 23) (N := some 126) (v := ?_) (a' := ?_) #[true, true, true, true, true, true, true, true, true, true, true, true, true, true, true, true, true, true, true, true, true, true, true, true, false, false] rfl rfl (any_of HT_.out (by kernel_rfl)) (fun _ _ _ h => h) (Or.inl ⟨by rfl, ?_⟩) ?_ ?_
            rotate_left
            ·intro w'
             go_simp
             with_reducible rfl
            rotate_left
            ·simp only [Act.put, zL, zM, zN, i64_w, i32_w]
             rfl
            refine pure_ (i := 24) (N := some 127) (v := ?_) (a' := ?_) #[true, true, true, true, true, true, true, true, true, true, true, true, true, true, true, true, true, true, true, true, true, true, true, true, true, false] rfl rfl (any_of HT_.out (by kernel_rfl)) (fun _ _ _ h => h) (Or.inl ⟨by rfl, ?_⟩) ?_ ?_
            rotate_left
            ·intro w'
             go_simp
             with_reducible rfl
            rotate_left
            ·simp only [Act.put, zL, zM, zN, i64_w, i32_w]
             rfl
            refine pure_ (i := 25) (N := some 2) (v := ?_) (a' := ?_) #[true, true, true, true, true, true, true, true, true, true, true, true, true, true, true, true, true, true, true, true, true, true, true, true, true, true] rfl rfl (any_of HT_.out (by kernel_rfl)) (fun _ _ _ h => h) (Or.inl ⟨by rfl, ?_⟩) ?_ ?_
            rotate_left
            ·intro w'
             go_simp
             with_reducible rfl
            rotate_left
            ·simp only [Act.put, zL, zM, zN, i64_w, i32_w]
             rfl
            refine done_ (done_of HT_.out (by kernel_rfl)) ?_
            try go_wp2
            go_ret
            exact ⟨by first | rfl | (simp [errW_none, errW_some] <;> rfl) | (simp [*, errW_none, errW_some] <;> rfl), by repeat (first | (with_reducible first | exact HB.out | apply zG | apply zE | apply zF | refine zH ?_ GE674.out | refine zH ?_ GE675.out | refine zH ?_ GE679.out | refine zH ?_ GE683.out | refine zH ?_ GE687.out | refine zH ?_ GE691.out | refine zH ?_ GE697.out) | exact HB.out)⟩
           ·rw [if_neg c138] at H
            have c138b0 : decide (t700 < 0) = false := decide_eq_false c138
            clear c138
            exact absurd H (by simp)
          ·replace c135 := Bool.eq_false_iff.mpr c135
           subst c135
           have H1 : (some true) = some r := by rw [if_neg (show ¬ (false = true) by decide)] at H; exact H
           clear H
           have H := H1
           clear H1
           obtain rfl := Option.some.inj H
           try go_wp2
           have n0_ := zA (zD BK674.out)
           have n1_ := zA (zD BK675.out)
           have n2_ := zA (zD BK679.out)
           have n3_ := zA (zD BK683.out)
           have n4_ := zA (zD BK687.out)
           have n5_ := zA (zD BK691.out)
           have n6_ := zA (zD BK697.out)
           have n7_ := zA (zF HB.out)
           clear BK674
           clear BK675
           clear BK679
           clear BK683
           clear BK687
           clear BK691
           clear BK697
           clear HB
           have BK674 := n0_
           have BK675 := n1_
           have BK679 := n2_
           have BK683 := n3_
           have BK687 := n4_
           have BK691 := n5_
           have BK697 := n6_
           have HB := n7_
           clear n0_ n1_ n2_ n3_ n4_ n5_ n6_ n7_
           refine start_ (n := 26) (S := fun w' => True) (ds := []) #[false, false, false, false, false, false, false, false, false, false, false, false, false, false, false, false, false, false, false, false, false, false, false, false, false, false] (by kernel_rfl) rfl rfl trivial (fun hHeld => ?_); refine with_tabW laws_FnDecDiv.tab13 laws_FnDecDiv.bits13 (fun HT_ HW_ => ?_)
           generalize wc.drew = w148 at BK674 BK675 BK679 BK683 BK687 BK691 BK697 HB hHeld ⊢
           refine pure_ (i := 0) (N := some 103) (v := ?_) (a' := ?_) #[true, false, false, false, false, false, false, false, false, false, false, false, false, false, false, false, false, false, false, false, false, false, false, false, false, false] rfl rfl (any_of HT_.out (by kernel_rfl)) (fun _ _ _ h => h) (Or.inl ⟨by rfl, ?_⟩) ?_ ?_
           rotate_left
           ·intro w'
            go_simp
            with_reducible rfl
           rotate_left
           ·simp only [Act.put, zL, zM, zN, i64_w, i32_w]
            rfl
           refine pure_ (i := 1) (N := some 104) (v := ?_) (a' := ?_) #[true, true, false, false, false, false, false, false, false, false, false, false, false, false, false, false, false, false, false, false, false, false, false, false, false, false] rfl rfl (any_of HT_.out (by kernel_rfl)) (fun _ _ _ h => h) (Or.inl ⟨by rfl, ?_⟩) ?_ ?_
           rotate_left
           ·intro w'
            go_simp
            with_reducible rfl
           rotate_left
           ·simp only [Act.put, zL, zM, zN, i64_w, i32_w]
            rfl
           refine pure_ (i := 2) (N := some 105) (v := ?_) (a' := ?_) #[true, true, true, false, false, false, false, false, false, false, false, false, false, false, false, false, false, false, false, false, false, false, false, false, false, false] rfl rfl (any_of HT_.out (by kernel_rfl)) (fun _ _ _ h => h) (Or.inl ⟨by rfl, ?_⟩) ?_ ?_
           rotate_left
           ·intro w'
            go_simp
            with_reducible rfl
           rotate_left
           ·simp only [Act.put, zL, zM, zN, i64_w, i32_w]
            rfl
           refine pure_ (i := 3) (N := some 106) (v := ?_) (a' := ?_) #[true, true, true, true, false, false, false, false, false, false, false, false, false, false, false, false, false, false, false, false, false, false, false, false, false, false] rfl rfl (any_of HT_.out (by kernel_rfl)) (fun _ _ _ h => h) (Or.inl ⟨by rfl, ?_⟩) ?_ ?_
           rotate_left
           ·intro w'
            go_simp
            with_reducible rfl
           rotate_left
           ·simp only [Act.put, zL, zM, zN, i64_w, i32_w]
            rfl
           refine pure_ (i := 4) (N := some 107) (v := ?_) (a' := ?_) #[true, true, true, true, true, false, false, false, false, false, false, false, false, false, false, false, false, false, false, false, false, false, false, false, false, false] rfl rfl (any_of HT_.out (by kernel_rfl)) (fun _ _ _ h => h) (Or.inl ⟨by rfl, ?_⟩) ?_ ?_
           rotate_left
           ·intro w'
            go_simp
            with_reducible rfl
           rotate_left
           ·simp only [Act.put, zL, zM, zN, i64_w, i32_w]
            rfl
           refine pure_ (i := 5) (N := some 108) (v := ?_) (a' := ?_) #[true, true, true, true, true, true, false, false, false, false, false, false, false, false, false, false, false, false, false, false, false, false, false, false, false, false] rfl rfl (any_of HT_.out (by kernel_rfl)) (fun _ _ _ h => h) (Or.inl ⟨by rfl, ?_⟩) ?_ ?_
           rotate_left
           ·intro w'
            go_simp
            with_reducible rfl
           rotate_left
           ·simp only [Act.put, zL, zM, zN, i64_w, i32_w]
            rfl
           refine pure_ (i := 6) (N := some 109) (v := ?_) (a' := ?_) #[true, true, true, true, true, true, true, false, false, false, false, false, false, false, false, false, false, false, false, false, false, false, false, false, false, false] rfl rfl (any_of HT_.out (by kernel_rfl)) (fun _ _ _ h => h) (Or.inl ⟨by rfl, ?_⟩) ?_ ?_
           rotate_left
           ·intro w'
            go_simp
            with_reducible rfl
           rotate_left
           ·simp only [Act.put, zL, zM, zN, i64_w, i32_w]
            rfl
           refine pure_ (i := 7) (N := some 110) (v := ?_) (a' := ?_) #[true, true, true, true, true, true, true, true, false, false, false, false, false, false, false, false, false, false, false, false, false, false, false, false, false, false] rfl rfl (any_of HT_.out (by kernel_rfl)) (fun _ _ _ h => h) (Or.inl ⟨by rfl, ?_⟩) ?_ ?_
           rotate_left
           ·intro w'
            go_simp
            with_reducible rfl
           rotate_left
           ·simp only [Act.put, zL, zM, zN, i64_w, i32_w]
            rfl
           refine pure_ (i := 8) (N := some 111) (v := ?_) (a' := ?_) #[true, true, true, true, true, true, true, true, true, false, false, false, false, false, false, false, false, false, false, false, false, false, false, false, false, false] rfl rfl (any_of HT_.out (by kernel_rfl)) (fun _ _ _ h => h) (Or.inl ⟨by rfl, ?_⟩) ?_ ?_
           rotate_left
           ·intro w'
            go_simp
            with_reducible rfl
           rotate_left
           ·simp only [Act.put, zL, zM, zN, i64_w, i32_w]
            rfl
           refine pure_ (i := 9) (N := some 112) (v := ?_) (a' := ?_) #[true, true, true, true, true, true, true, true, true, true, false, false, false, false, false, false, false, false, false, false, false, false, false, false, false, false] rfl rfl (any_of HT_.out (by kernel_rfl)) (fun _ _ _ h => h) (Or.inl ⟨by rfl, ?_⟩) ?_ ?_
           rotate_left
           ·intro w'
            go_simp
            with_reducible rfl
           rotate_left
           ·simp only [Act.put, zL, zM, zN, i64_w, i32_w]
            rfl
           refine pure_ (i := 10) (N := some 113) (v := ?_) (a' := ?_) #[true, true, true, true, true, true, true, true, true, true, true, false, false, false, false, false, false, false, false, false, false, false, false, false, false, false] rfl rfl (any_of HT_.out (by kernel_rfl)) (fun _ _ _ h => h) (Or.inl ⟨by rfl, ?_⟩) ?_ ?_
           rotate_left
           ·intro w'
            go_simp
            with_reducible rfl
           rotate_left
           ·simp only [Act.put, zL, zM, zN, i64_w, i32_w]
            rfl
           refine pure_ (i := 11) (N := some 114) (v := undef) (a' := ?_) #[true, true, true, true, true, true, true, true, true, true, true, true, false, false, false, false, false, false, false, false, false, false, false, false, false, false] rfl rfl (any_of HT_.out (by kernel_rfl)) (fun _ _ _ h => h) (Or.inr ⟨by rfl, rfl⟩) ?_ ?_
           rotate_left
           ·simp only [Act.put, zL, zM, zN, i64_w, i32_w]
            rfl
           refine pure_ (i := 12) (N := some 115) (v := undef) (a' := ?_) #[true, true, true, true, true, true, true, true, true, true, true, true, true, false, false, false, false, false, false, false, false, false, false, false, false, false] rfl rfl (any_of HT_.out (by kernel_rfl)) (fun _ _ _ h => h) (Or.inr ⟨by rfl, rfl⟩) ?_ ?_
           rotate_left
           ·simp only [Act.put, zL, zM, zN, i64_w, i32_w]
            rfl
           refine pure_ (i := 13) (N := some 116) (v := undef) (a' := ?_) #[true, true, true, true, true, true, true, true, true, true, true, true, true, true, false, false, false, false, false, false, false, false, false, false, false, false] rfl rfl (any_of HT_.out (by kernel_rfl)) (fun _ _ _ h => h) (Or.inr ⟨by rfl, rfl⟩) ?_ ?_
           rotate_left
           ·simp only [Act.put, zL, zM, zN, i64_w, i32_w]
            rfl
           refine pure_ (i := 14) (N := some 117) (v := undef) (a' := ?_) #[true, true, true, true, true, true, true, true, true, true, true, true, true, true, true, false, false, false, false, false, false, false, false, false, false, false] rfl rfl (any_of HT_.out (by kernel_rfl)) (fun _ _ _ h => h) (Or.inr ⟨by rfl, rfl⟩) ?_ ?_
           rotate_left
           ·simp only [Act.put, zL, zM, zN, i64_w, i32_w]
            rfl
           refine pure_ (i := 15) (N := some 118) (v := undef) (a' := ?_) #[true, true, true, true, true, true, true, true, true, true, true, true, true, true, true, true, false, false, false, false, false, false, false, false, false, false] rfl rfl (any_of HT_.out (by kernel_rfl)) (fun _ _ _ h => h) (Or.inr ⟨by rfl, rfl⟩) ?_ ?_
           rotate_left
           ·simp only [Act.put, zL, zM, zN, i64_w, i32_w]
            rfl
           refine pure_ (i := 16) (N := some 119) (v := undef) (a' := ?_) #[true, true, true, true, true, true, true, true, true, true, true, true, true, true, true, true, true, false, false, false, false, false, false, false, false, false] rfl rfl (any_of HT_.out (by kernel_rfl)) (fun _ _ _ h => h) (Or.inr ⟨by rfl, rfl⟩) ?_ ?_
           rotate_left
           ·simp only [Act.put, zL, zM, zN, i64_w, i32_w]
            rfl
           refine pure_ (i := 17) (N := some 120) (v := undef) (a' := ?_) #[true, true, true, true, true, true, true, true, true, true, true, true, true, true, true, true, true, true, false, false, false, false, false, false, false, false] rfl rfl (any_of HT_.out (by kernel_rfl)) (fun _ _ _ h => h) (Or.inr ⟨by rfl, rfl⟩) ?_ ?_
           rotate_left
           ·simp only [Act.put, zL, zM, zN, i64_w, i32_w]
            rfl
           refine pure_ (i := 18) (N := some 121) (v := undef) (a' := ?_) #[true, true, true, true, true, true, true, true, true, true, true, true, true, true, true, true, true, true, true, false, false, false, false, false, false, false] rfl rfl (any_of HT_.out (by kernel_rfl)) (fun _ _ _ h => h) (Or.inr ⟨by rfl, rfl⟩) ?_ ?_
           rotate_left
           ·simp only [Act.put, zL, zM, zN, i64_w, i32_w]
            rfl
           refine pure_ (i := 19) (N := some 122) (v := undef) (a' := ?_) #[true, true, true, true, true, true, true, true, true, true, true, true, true, true, true, true, true, true, true, true, false, false, false, false, false, false] rfl rfl (any_of HT_.out (by kernel_rfl)) (fun _ _ _ h => h) (Or.inr ⟨by rfl, rfl⟩) ?_ ?_
           rotate_left
           ·simp only [Act.put, zL, zM, zN, i64_w, i32_w]
            rfl
           refine pure_ (i := 20) (N := some 123) (v := undef) (a' := ?_) #[true, true, true, true, true, true, true, true, true, true, true, true, true, true, true, true, true, true, true, true, true, false, false, false, false, false] rfl rfl (any_of HT_.out (by kernel_rfl)) (fun _ _ _ h => h) (Or.inr ⟨by rfl, rfl⟩) ?_ ?_
           rotate_left
           ·simp only [Act.put, zL, zM, zN, i64_w, i32_w]
            rfl
           refine pure_ (i := 21) (N := some 124) (v := undef) (a' := ?_) #[true, true, true, true, true, true, true, true, true, true, true, true, true, true, true, true, true, true, true, true, true, true, false, false, false, false] rfl rfl (any_of HT_.out (by kernel_rfl)) (fun _ _ _ h => h) (Or.inr ⟨by rfl, rfl⟩) ?_ ?_
           rotate_left
           ·simp only [Act.put, zL, zM, zN, i64_w, i32_w]
            rfl
           refine pure_ (i := 22) (N := some 125) (v := undef) (a' := ?_) #[true, true, true, true, true, true, true, true, true, true, true, true, true, true, true, true, true, true, true, true, true, true, true, false, false, false] rfl rfl (any_of HT_.out (by kernel_rfl)) (fun _ _ _ h => h) (Or.inr ⟨by rfl, rfl⟩) ?_ ?_
           rotate_left
           ·simp only [Act.put, zL, zM, zN, i64_w, i32_w]
            rfl
           refine pure_ (i := 23) (N := some 126) (v := undef) (a' := ?_) #[true, true, true, true, true, true, true, true, true, true, true, true, true, true, true, true, true, true, true, true, true, true, true, true, false, false] rfl rfl (any_of HT_.out (by kernel_rfl)) (fun _ _ _ h => h) (Or.inr ⟨by rfl, rfl⟩) ?_ ?_
           rotate_left
           ·simp only [Act.put, zL, zM, zN, i64_w, i32_w]
            rfl
           refine pure_ (i := 24) (N := some 127) (v := ?_) (a' := ?_) #[true, true, true, true, true, true, true, true, true, true, true, true, true, true, true, true, true, true, true, true, true, true, true, true, true, false] rfl rfl (any_of HT_.out (by kernel_rfl)) (fun _ _ _ h => h) (Or.inl ⟨by rfl, ?_⟩) ?_ ?_
           rotate_left
           ·intro w'
            go_simp
            with_reducible rfl
           rotate_left
           ·simp only [Act.put, zL, zM, zN, i64_w, i32_w]
            rfl
           refine pure_ (i := 25) (N := some 2) (v := ?_) (a' := ?_) #[true, true, true, true, true, true, true, true, true, true, true, true, true, true, true, true, true, true, true, true, true, true, true, true, true, true] rfl rfl (any_of HT_.out (by kernel_rfl)) (fun _ _ _ h => h) (Or.inl ⟨by rfl, ?_⟩) ?_ ?_
           rotate_left
           ·intro w'
            go_simp
            with_reducible rfl
           rotate_left
           ·simp only [Act.put, zL, zM, zN, i64_w, i32_w]
            rfl
           refine done_ (done_of HT_.out (by kernel_rfl)) ?_
           try go_wp2
           go_ret
           exact ⟨by first | rfl | (simp [errW_none, errW_some] <;> rfl) | (simp [*, errW_none, errW_some] <;> rfl), by repeat (first | (with_reducible first | exact HB.out | apply zG | apply zE | apply zF | refine zH ?_ GE674.out | refine zH ?_ GE675.out | refine zH ?_ GE679.out | refine zH ?_ GE683.out | refine zH ?_ GE687.out | refine zH ?_ GE691.out | refine zH ?_ GE697.out) | exact HB.out)⟩
         ·replace c134 := Bool.eq_false_iff.mpr c134
          subst c134
          have H1 : (some true) = some r := by rw [if_neg (show ¬ (false = true) by decide)] at H; exact H
          clear H
          have H := H1
          clear H1
          obtain rfl := Option.some.inj H
          try go_wp2
          have n0_ := zA (zD BK674.out)
          have n1_ := zA (zD BK675.out)
          have n2_ := zA (zD BK679.out)
          have n3_ := zA (zD BK683.out)
          have n4_ := zA (zD BK687.out)
          have n5_ := zA (zD BK691.out)
          have n6_ := zA (zD BK697.out)
          have n7_ := zA (zF HB.out)
          clear BK674
          clear BK675
          clear BK679
          clear BK683
          clear BK687
          clear BK691
          clear BK697
          clear HB
          have BK674 := n0_
          have BK675 := n1_
          have BK679 := n2_
          have BK683 := n3_
          have BK687 := n4_
          have BK691 := n5_
          have BK697 := n6_
          have HB := n7_
          clear n0_ n1_ n2_ n3_ n4_ n5_ n6_ n7_
          refine start_ (n := 26) (S := fun w' => True) (ds := []) #[false, false, false, false, false, false, false, false, false, false, false, false, false, false, false, false, false, false, false, false, false, false, false, false, false, false] (by kernel_rfl) rfl rfl trivial (fun hHeld => ?_); refine with_tabW laws_FnDecDiv.tab13 laws_FnDecDiv.bits13 (fun HT_ HW_ => ?_)
          generalize wc.drew = w149 at BK674 BK675 BK679 BK683 BK687 BK691 BK697 HB hHeld ⊢
          refine pure_ (i := 0) (N := some 103) (v := ?_) (a' := ?_) #[true, false, false, false, false, false, false, false, false, false, false, false, false, false, false, false, false, false, false, false, false, false, false, false, false, false] rfl rfl (any_of HT_.out (by kernel_rfl)) (fun _ _ _ h => h) (Or.inl ⟨by rfl, ?_⟩) ?_ ?_
          rotate_left
          ·intro w'
           go_simp
           with_reducible rfl
          rotate_left
          ·simp only [Act.put, zL, zM, zN, i64_w, i32_w]
           rfl
          refine pure_ (i := 1) (N := some 104) (v := ?_) (a' := ?_) #[true, true, false, false, false, false, false, false, false, false, false, false, false, false, false, false, false, false, false, false, false, false, false, false, false, false] rfl rfl (any_of HT_.out (by kernel_rfl)) (fun _ _ _ h => h) (Or.inl ⟨by rfl, ?_⟩) ?_ ?_
          rotate_left
          ·intro w'
           go_simp
           with_reducible rfl
          rotate_left
          ·simp only [Act.put, zL, zM, zN, i64_w, i32_w]
           rfl
          refine pure_ (i := 2) (N := some 105) (v := ?_) (a' := ?_) #[true, true, true, false, false, false, false, false, false, false, false, false, false, false, false, false, false, false, false, false, false, false, false, false, false, false] rfl rfl (any_of HT_.out (by kernel_rfl)) (fun _ _ _ h => h) (Or.inl ⟨by rfl, ?_⟩) ?_ ?_
          rotate_left
          ·intro w'
           go_simp
           with_reducible rfl
          rotate_left
          ·simp only [Act.put, zL, zM, zN, i64_w, i32_w]
           rfl
          refine pure_ (i := 3) (N := some 106) (v := ?_) (a' := ?_) #[true, true, true, true, false, false, false, false, false, false, false, false, false, false, false, false, false, false, false, false, false, false, false, false, false, false] rfl rfl (any_of HT_.out (by kernel_rfl)) (fun _ _ _ h => h) (Or.inl ⟨by rfl, ?_⟩) ?_ ?_
          rotate_left
          ·intro w'
           go_simp
           with_reducible rfl
          rotate_left
          ·simp only [Act.put, zL, zM, zN, i64_w, i32_w]
           rfl
          refine pure_ (i := 4) (N := some 107) (v := ?_) (a' := ?_) #[true, true, true, true, true, false, false, false, false, false, false, false, false, false, false, false, false, false, false, false, false, false, false, false, false, false] rfl rfl (any_of HT_.out (by kernel_rfl)) (fun _ _ _ h => h) (Or.inl ⟨by rfl, ?_⟩) ?_ ?_
          rotate_left
          ·intro w'
           go_simp
           with_reducible rfl
          rotate_left
          ·simp only [Act.put, zL, zM, zN, i64_w, i32_w]
           rfl
          refine pure_ (i := 5) (N := some 108) (v := ?_) (a' := ?_) #[true, true, true, true, true, true, false, false, false, false, false, false, false, false, false, false, false, false, false, false, false, false, false, false, false, false] rfl rfl (any_of HT_.out (by kernel_rfl)) (fun _ _ _ h => h) (Or.inl ⟨by rfl, ?_⟩) ?_ ?_
          rotate_left
          ·intro w'
           go_simp
           with_reducible rfl
          rotate_left
          ·simp only [Act.put, zL, zM, zN, i64_w, i32_w]
           rfl
          refine pure_ (i := 6) (N := some 109) (v := ?_) (a' := ?_) #[true, true, true, true, true, true, true, false, false, false, false, false, false, false, false, false, false, false, false, false, false, false, false, false, false, false] rfl rfl (any_of HT_.out (by kernel_rfl)) (fun _ _ _ h => h) (Or.inl ⟨by rfl, ?_⟩) ?_ ?_
          rotate_left
          ·intro w'
           go_simp
           with_reducible rfl
          rotate_left
          ·simp only [Act.put, zL, zM, zN, i64_w, i32_w]
           rfl
          refine pure_ (i := 7) (N := some 110) (v := undef) (a' := ?_) #[true, true, true, true, true, true, true, true, false, false, false, false, false, false, false, false, false, false, false, false, false, false, false, false, false, false] rfl rfl (any_of HT_.out (by kernel_rfl)) (fun _ _ _ h => h) (Or.inr ⟨by rfl, rfl⟩) ?_ ?_
          rotate_left
          ·simp only [Act.put, zL, zM, zN, i64_w, i32_w]
           rfl
          refine pure_ (i := 8) (N := some 111) (v := undef) (a' := ?_) #[true, true, true, true, true, true, true, true, true, false, false, false, false, false, false, false, false, false, false, false, false, false, false, false, false, false] rfl rfl (any_of HT_.out (by kernel_rfl)) (fun _ _ _ h => h) (Or.inr ⟨by rfl, rfl⟩) ?_ ?_
          rotate_left
          ·simp only [Act.put, zL, zM, zN, i64_w, i32_w]
           rfl
          refine pure_ (i := 9) (N := some 112) (v := ?_) (a' := ?_) #[true, true, true, true, true, true, true, true, true, true, false, false, false, false, false, false, false, false, false, false, false, false, false, false, false, false] rfl rfl (any_of HT_.out (by kernel_rfl)) (fun _ _ _ h => h) (Or.inl ⟨by rfl, ?_⟩) ?_ ?_
          rotate_left
          ·intro w'
           go_simp
           with_reducible rfl
          rotate_left
          ·simp only [Act.put, zL, zM, zN, i64_w, i32_w]
           rfl
          refine pure_ (i := 10) (N := some 113) (v := ?_) (a' := ?_) #[true, true, true, true, true, true, true, true, true, true, true, false, false, false, false, false, false, false, false, false, false, false, false, false, false, false] rfl rfl (any_of HT_.out (by kernel_rfl)) (fun _ _ _ h => h) (Or.inl ⟨by rfl, ?_⟩) ?_ ?_
          rotate_left
          ·intro w'
           go_simp
           with_reducible rfl
          rotate_left
          ·simp only [Act.put, zL, zM, zN, i64_w, i32_w]
           rfl
          refine pure_ (i := 11) (N := some 114) (v := undef) (a' := ?_) #[true, true, true, true, true, true, true, true, true, true, true, true, false, false, false, false, false, false, false, false, false, false, false, false, false, false] rfl rfl (any_of HT_.out (by kernel_rfl)) (fun _ _ _ h => h) (Or.inr ⟨by rfl, rfl⟩) ?_ ?_
          rotate_left
          ·simp only [Act.put, zL, zM, zN, i64_w, i32_w]
           rfl
          refine pure_ (i := 12) (N := some 115) (v := undef) (a' := ?_) #[true, true, true, true, true, true, true, true, true, true, true, true, true, false, false, false, false, false, false, false, false, false, false, false, false, false] rfl rfl (any_of HT_.out (by kernel_rfl)) (fun _ _ _ h => h) (Or.inr ⟨by rfl, rfl⟩) ?_ ?_
          rotate_left
          ·simp only [Act.put, zL, zM, zN, i64_w, i32_w]
           rfl
          refine pure_ (i := 13) (N := some 116) (v := undef) (a' := ?_) #[true, true, true, true, true, true, true, true, true, true, true, true, true, true, false, false, false, false, false, false, false, false, false, false, false, false] rfl rfl (any_of HT_.out (by kernel_rfl)) (fun _ _ _ h => h) (Or.inr ⟨by rfl, rfl⟩) ?_ ?_
          rotate_left
          ·simp only [Act.put, zL, zM, zN, i64_w, i32_w]
           rfl
          refine pure_ (i := 14) (N := some 117) (v := undef) (a' := ?_) #[true, true, true, true, true, true, true, true, true, true, true, true, true, true, true, false, false, false, false, false, false, false, false, false, false, false] rfl rfl (any_of HT_.out (by kernel_rfl)) (fun _ _ _ h => h) (Or.inr ⟨by rfl, rfl⟩) ?_ ?_
          rotate_left
          ·simp only [Act.put, zL, zM, zN, i64_w, i32_w]
           rfl
          refine pure_ (i := 15) (N := some 118) (v := undef) (a' := ?_) #[true, true, true, true, true, true, true, true, true, true, true, true, true, true, true, true, false, false, false, false, false, false, false, false, false, false] rfl rfl (any_of HT_.out (by kernel_rfl)) (fun _ _ _ h => h) (Or.inr ⟨by rfl, rfl⟩) ?_ ?_
          rotate_left
          ·simp only [Act.put, zL, zM, zN, i64_w, i32_w]
           rfl
          refine pure_ (i := 16) (N := some 119) (v := undef) (a' := ?_) #[true, true, true, true, true, true, true, true, true, true, true, true, true, true, true, true, true, false, false, false, false, false, false, false, false, false] rfl rfl (any_of HT_.out (by kernel_rfl)) (fun _ _ _ h => h) (Or.inr ⟨by rfl, rfl⟩) ?_ ?_
          rotate_left
          ·simp only [Act.put, zL, zM, zN, i64_w, i32_w]
           rfl
          refine pure_ (i := 17) (N := some 120) (v := undef) (a' := ?_) #[true, true, true, true, true, true, true, true, true, true, true, true, true, true, true, true, true, true, false, false, false, false, false, false, false, false] rfl rfl (any_of HT_.out (by kernel_rfl)) (fun _ _ _ h => h) (Or.inr ⟨by rfl, rfl⟩) ?_ ?_
          rotate_left
          ·simp only [Act.put, zL, zM, zN, i64_w, i32_w]
           rfl
          refine pure_ (i := 18) (N := some 121) (v := undef) (a' := ?_) #[true, true, true, true, true, true, true, true, true, true, true, true, true, true, true, true, true, true, true, false, false, false, false, false, false, false] rfl rfl (any_of HT_.out (by kernel_rfl)) (fun _ _ _ h => h) (Or.inr ⟨by rfl, rfl⟩) ?_ ?_
          rotate_left
          ·simp only [Act.put, zL, zM, zN, i64_w, i32_w]
           rfl
          refine pure_ (i := 19) (N := some 122) (v := undef) (a' := ?_) #[true, true, true, true, true, true, true, true, true, true, true, true, true, true, true, true, true, true, true, true, false, false, false, false, false, false] rfl rfl (any_of HT_.out (by kernel_rfl)) (fun _ _ _ h => h) (Or.inr ⟨by rfl, rfl⟩) ?_ ?_
          rotate_left
          ·simp only [Act.put, zL, zM, zN, i64_w, i32_w]
           rfl
          refine pure_ (i := 20) (N := some 123) (v := undef) (a' := ?_) #[true, true, true, true, true, true, true, true, true, true, true, true, true, true, true, true, true, true, true, true, true, false, false, false, false, false] rfl rfl (any_of HT_.out (by kernel_rfl)) (fun _ _ _ h => h) (Or.inr ⟨by rfl, rfl⟩) ?_ ?_
          rotate_left
          ·simp only [Act.put, zL, zM, zN, i64_w, i32_w]
           rfl
          refine pure_ (i := 21) (N := some 124) (v := undef) (a' := ?_) #[true, true, true, true, true, true, true, true, true, true, true, true, true, true, true, true, true, true, true, true, true, true, false, false, false, false] rfl rfl (any_of HT_.out (by kernel_rfl)) (fun _ _ _ h => h) (Or.inr ⟨by rfl, rfl⟩) ?_ ?_
          rotate_left
          ·simp only [Act.put, zL, zM, zN, i64_w, i32_w]
           rfl
          refine pure_ (i := 22) (N := some 125) (v := undef) (a' := ?_) #[true, true, true, true, true, true, true, true, true, true, true, true, true, true, true, true, true, true, true, true, true, true, true, false, false, false] rfl rfl (any_of HT_.out (by kernel_rfl)) (fun _ _ _ h => h) (Or.inr ⟨by rfl, rfl⟩) ?_ ?_
          rotate_left
          ·simp only [Act.put, zL, zM, zN, i64_w, i32_w]
           rfl
          refine pure_ (i := 23) (N := some 126) (v := undef) (a' := ?_) #[true, true, true, true, true, true, true, true, true, true, true, true, true, true, true, true, true, true, true, true, true, true, true, true, false, false] rfl rfl (any_of HT_.out (by kernel_rfl)) (fun _ _ _ h => h) (Or.inr ⟨by rfl, rfl⟩) ?_ ?_
          rotate_left
          ·simp only [Act.put, zL, zM, zN, i64_w, i32_w]
           rfl
          refine pure_ (i := 24) (N := some 127) (v := ?_) (a' := ?_) #[true, true, true, true, true, true, true, true, true, true, true, true, true, true, true, true, true, true, true, true, true, true, true, true, true, false] rfl rfl (any_of HT_.out (by kernel_rfl)) (fun _ _ _ h => h) (Or.inl ⟨by rfl, ?_⟩) ?_ ?_
          rotate_left
          ·intro w'
           go_simp
           with_reducible rfl
          rotate_left
          ·simp only [Act.put, zL, zM, zN, i64_w, i32_w]
           rfl
          refine pure_ (i := 25) (N := some 2) (v := ?_) (a' := ?_) #[true, true, true, true, true, true, true, true, true, true, true, true, true, true, true, true, true, true, true, true, true, true, true, true, true, true] rfl rfl (any_of HT_.out (by kernel_rfl)) (fun _ _ _ h => h) (Or.inl ⟨by rfl, ?_⟩) ?_ ?_
          rotate_left
          ·intro w'
           go_simp
           with_reducible rfl
          rotate_left
          ·simp only [Act.put, zL, zM, zN, i64_w, i32_w]
           rfl
          refine done_ (done_of HT_.out (by kernel_rfl)) ?_
          try go_wp2
          go_ret
          exact ⟨by first | rfl | (simp [errW_none, errW_some] <;> rfl) | (simp [*, errW_none, errW_some] <;> rfl), by repeat (first | (with_reducible first | exact HB.out | apply zG | apply zE | apply zF | refine zH ?_ GE674.out | refine zH ?_ GE675.out | refine zH ?_ GE679.out | refine zH ?_ GE683.out | refine zH ?_ GE687.out | refine zH ?_ GE691.out | refine zH ?_ GE697.out) | exact HB.out)⟩
        ·replace c133 := Bool.eq_false_iff.mpr c133
         subst c133
         have H1 : (some true) = some r := by rw [if_neg (show ¬ (false = true) by decide)] at H; exact H
         clear H
         have H := H1
         clear H1
         obtain rfl := Option.some.inj H
         try go_wp2
         have n0_ := zA (zD BK674.out)
         have n1_ := zA (zD BK675.out)
         have n2_ := zA (zD BK679.out)
         have n3_ := zA (zD BK683.out)
         have n4_ := zA (zD BK687.out)
         have n5_ := zA (zD BK691.out)
         have n6_ := zA (zD BK697.out)
         have n7_ := zA (zF HB.out)
         clear BK674
         clear BK675
         clear BK679
         clear BK683
         clear BK687
         clear BK691
         clear BK697
         clear HB
         have BK674 := n0_
         have BK675 := n1_
         have BK679 := n2_
         have BK683 := n3_
         have BK687 := n4_
         have BK691 := n5_
         have BK697 := n6_
         have HB := n7_
         clear n0_ n1_ n2_ n3_ n4_ n5_ n6_ n7_
         refine start_ (n := 26) (S := fun w' => True) (ds := []) #[false, false, false, false, false, false, false, false, false, false, false, false, false, false, false, false, false, false, false, false, false, false, false, false, false, false] (by kernel_rfl) rfl rfl trivial (fun hHeld => ?_); refine with_tabW laws_FnDecDiv.tab13 laws_FnDecDiv.bits13 (fun HT_ HW_ => ?_)
         generalize wc.drew = w150 at BK674 BK675 BK679 BK683 BK687 BK691 BK697 HB hHeld ⊢
         refine pure_ (i := 0) (N := some 103) (v := ?_) (a' := ?_) #[true, false, false, false, false, false, false, false, false, false, false, false, false, false, false, false, false, false, false, false, false, false, false, false, false, false] rfl rfl (any_of HT_.out (by kernel_rfl)) (fun _ _ _ h => h) (Or.inl ⟨by rfl, ?_⟩) ?_ ?_
         rotate_left
         ·intro w'
          go_simp
          with_reducible rfl
         rotate_left
         ·simp only [Act.put, zL, zM, zN, i64_w, i32_w]
          rfl
         refine pure_ (i := 1) (N := some 104) (v := ?_) (a' := ?_) #[true, true, false, false, false, false, false, false, false, false, false, false, false, false, false, false, false, false, false, false, false, false, false, false, false, false] rfl rfl (any_of HT_.out (by kernel_rfl)) (fun _ _ _ h => h) (Or.inl ⟨by rfl, ?_⟩) ?_ ?_
         rotate_left
         ·intro w'
          go_simp
          with_reducible rfl
         rotate_left
         ·simp only [Act.put, zL, zM, zN, i64_w, i32_w]
          rfl
         refine pure_ (i := 2) (N := some 105) (v := ?_) (a' := ?_) #[true, true, true, false, false, false, false, false, false, false, false, false, false, false, false, false, false, false, false, false, false, false, false, false, false, false] rfl rfl (any_of HT_.out (by kernel_rfl)) (fun _ _ _ h => h) (Or.inl ⟨by rfl, ?_⟩) ?_ ?_
         rotate_left
         ·intro w'
          go_simp
          with_reducible rfl
         rotate_left
         ·simp only [Act.put, zL, zM, zN, i64_w, i32_w]
          rfl
         refine pure_ (i := 3) (N := some 106) (v := undef) (a' := ?_) #[true, true, true, true, false, false, false, false, false, false, false, false, false, false, false, false, false, false, false, false, false, false, false, false, false, false] rfl rfl (any_of HT_.out (by kernel_rfl)) (fun _ _ _ h => h) (Or.inr ⟨by rfl, rfl⟩) ?_ ?_
         rotate_left
         ·simp only [Act.put, zL, zM, zN, i64_w, i32_w]
          rfl
         refine pure_ (i := 4) (N := some 107) (v := undef) (a' := ?_) #[true, true, true, true, true, false, false, false, false, false, false, false, false, false, false, false, false, false, false, false, false, false, false, false, false, false] rfl rfl (any_of HT_.out (by kernel_rfl)) (fun _ _ _ h => h) (Or.inr ⟨by rfl, rfl⟩) ?_ ?_
         rotate_left
         ·simp only [Act.put, zL, zM, zN, i64_w, i32_w]
          rfl
         refine pure_ (i := 5) (N := some 108) (v := ?_) (a' := ?_) #[true, true, true, true, true, true, false, false, false, false, false, false, false, false, false, false, false, false, false, false, false, false, false, false, false, false] rfl rfl (any_of HT_.out (by kernel_rfl)) (fun _ _ _ h => h) (Or.inl ⟨by rfl, ?_⟩) ?_ ?_
         rotate_left
         ·intro w'
          go_simp
          with_reducible rfl
         rotate_left
         ·simp only [Act.put, zL, zM, zN, i64_w, i32_w]
          rfl
         refine pure_ (i := 6) (N := some 109) (v := ?_) (a' := ?_) #[true, true, true, true, true, true, true, false, false, false, false, false, false, false, false, false, false, false, false, false, false, false, false, false, false, false] rfl rfl (any_of HT_.out (by kernel_rfl)) (fun _ _ _ h => h) (Or.inl ⟨by rfl, ?_⟩) ?_ ?_
         rotate_left
         ·intro w'
          go_simp
          with_reducible rfl
         rotate_left
         ·simp only [Act.put, zL, zM, zN, i64_w, i32_w]
          rfl
         refine pure_ (i := 7) (N := some 110) (v := undef) (a' := ?_) #[true, true, true, true, true, true, true, true, false, false, false, false, false, false, false, false, false, false, false, false, false, false, false, false, false, false] rfl rfl (any_of HT_.out (by kernel_rfl)) (fun _ _ _ h => h) (Or.inr ⟨by rfl, rfl⟩) ?_ ?_
         rotate_left
         ·simp only [Act.put, zL, zM, zN, i64_w, i32_w]
          rfl
         refine pure_ (i := 8) (N := some 111) (v := undef) (a' := ?_) #[true, true, true, true, true, true, true, true, true, false, false, false, false, false, false, false, false, false, false, false, false, false, false, false, false, false] rfl rfl (any_of HT_.out (by kernel_rfl)) (fun _ _ _ h => h) (Or.inr ⟨by rfl, rfl⟩) ?_ ?_
         rotate_left
         ·simp only [Act.put, zL, zM, zN, i64_w, i32_w]
          rfl
         refine pure_ (i := 9) (N := some 112) (v := ?_) (a' := ?_) #[true, true, true, true, true, true, true, true, true, true, false, false, false, false, false, false, false, false, false, false, false, false, false, false, false, false] rfl rfl (any_of HT_.out (by kernel_rfl)) (fun _ _ _ h => h) (Or.inl ⟨by rfl, ?_⟩) ?_ ?_
         rotate_left
         ·intro w'
          go_simp
          with_reducible rfl
         rotate_left
         ·simp only [Act.put, zL, zM, zN, i64_w, i32_w]
          rfl
         refine pure_ (i := 10) (N := some 113) (v := ?_) (a' := ?_) #[true, true, true, true, true, true, true, true, true, true, true, false, false, false, false, false, false, false, false, false, false, false, false, false, false, false] rfl rfl (any_of HT_.out (by kernel_rfl)) (fun _ _ _ h => h) (Or.inl ⟨by rfl, ?_⟩) ?_ ?_
         rotate_left
         ·intro w'
          go_simp
          with_reducible rfl
         rotate_left
         ·simp only [Act.put, zL, zM, zN, i64_w, i32_w]
          rfl
         refine pure_ (i := 11) (N := some 114) (v := undef) (a' := ?_) #[true, true, true, true, true, true, true, true, true, true, true, true, false, false, false, false, false, false, false, false, false, false, false, false, false, false] rfl rfl (any_of HT_.out (by kernel_rfl)) (fun _ _ _ h => h) (Or.inr ⟨by rfl, rfl⟩) ?_ ?_
         rotate_left
         ·simp only [Act.put, zL, zM, zN, i64_w, i32_w]
          rfl
         refine pure_ (i := 12) (N := some 115) (v := undef) (a' := ?_) #[true, true, true, true, true, true, true, true, true, true, true, true, true, false, false, false, false, false, false, false, false, false, false, false, false, false] rfl rfl (any_of HT_.out (by kernel_rfl)) (fun _ _ _ h => h) (Or.inr ⟨by rfl, rfl⟩) ?_ ?_
         rotate_left
         ·simp only [Act.put, zL, zM, zN, i64_w, i32_w]
          rfl
         refine pure_ (i := 13) (N := some 116) (v := undef) (a' := ?_) #[true, true, true, true, true, true, true, true, true, true, true, true, true, true, false, false, false, false, false, false, false, false, false, false, false, false] rfl rfl (any_of HT_.out (by kernel_rfl)) (fun _ _ _ h => h) (Or.inr ⟨by rfl, rfl⟩) ?_ ?_
         rotate_left
         ·simp only [Act.put, zL, zM, zN, i64_w, i32_w]
          rfl
         refine pure_ (i := 14) (N := some 117) (v := undef) (a' := ?_) #[true, true, true, true, true, true, true, true, true, true, true, true, true, true, true, false, false, false, false, false, false, false, false, false, false, false] rfl rfl (any_of HT_.out (by kernel_rfl)) (fun _ _ _ h => h) (Or.inr ⟨by rfl, rfl⟩) ?_ ?_
         rotate_left
         ·simp only [Act.put, zL, zM, zN, i64_w, i32_w]
          rfl
         refine pure_ (i := 15) (N := some 118) (v := undef) (a' := ?_) #[true, true, true, true, true, true, true, true, true, true, true, true, true, true, true, true, false, false, false, false, false, false, false, false, false, false] rfl rfl (any_of HT_.out (by kernel_rfl)) (fun _ _ _ h => h) (Or.inr ⟨by rfl, rfl⟩) ?_ ?_
         rotate_left
         ·simp only [Act.put, zL, zM, zN, i64_w, i32_w]
          rfl
         refine pure_ (i := 16) (N := some 119) (v := undef) (a' := ?_) #[true, true, true, true, true, true, true, true, true, true, true, true, true, true, true, true, true, false, false, false, false, false, false, false, false, false] rfl rfl (any_of HT_.out (by kernel_rfl)) (fun _ _ _ h => h) (Or.inr ⟨by rfl, rfl⟩) ?_ ?_
         rotate_left
         ·simp only [Act.put, zL, zM, zN, i64_w, i32_w]
          rfl
         refine pure_ (i := 17) (N := some 120) (v := undef) (a' := ?_) #[true, true, true, true, true, true, true, true, true, true, true, true, true, true, true, true, true, true, false, false, false, false, false, false, false, false] rfl rfl (any_of HT_.out (by kernel_rfl)) (fun _ _ _ h => h) (Or.inr ⟨by rfl, rfl⟩) ?_ ?_
         rotate_left
         ·simp only [Act.put, zL, zM, zN, i64_w, i32_w]
          rfl
         refine pure_ (i := 18) (N := some 121) (v := undef) (a' := ?_) #[true, true, true, true, true, true, true, true, true, true, true, true, true, true, true, true, true, true, true, false, false, false, false, false, false, false] rfl rfl (any_of HT_.out (by kernel_rfl)) (fun _ _ _ h => h) (Or.inr ⟨by rfl, rfl⟩) ?_ ?_
         rotate_left
         ·simp only [Act.put, zL, zM, zN, i64_w, i32_w]
          rfl
         refine pure_ (i := 19) (N := some 122) (v := undef) (a' := ?_) #[true, true, true, true, true, true, true, true, true, true, true, true, true, true, true, true, true, true, true, true, false, false, false, false, false, false] rfl rfl (any_of HT_.out (by kernel_rfl)) (fun _ _ _ h => h) (Or.inr ⟨by rfl, rfl⟩) ?_ ?_
         rotate_left
         ·simp only [Act.put, zL, zM, zN, i64_w, i32_w]
          rfl
         refine pure_ (i := 20) (N := some 123) (v := undef) (a' := ?_) #[true, true, true, true, true, true, true, true, true, true, true, true, true, true, true, true, true, true, true, true, true, false, false, false, false, false] rfl rfl (any_of HT_.out (by kernel_rfl)) (fun _ _ _ h => h) (Or.inr ⟨by rfl, rfl⟩) ?_ ?_
         rotate_left
         ·simp only [Act.put, zL, zM, zN, i64_w, i32_w]
          rfl
         refine pure_ (i := 21) (N := some 124) (v := undef) (a' := ?_) #[true, true, true, true, true, true, true, true, true, true, true, true, true, true, true, true, true, true, true, true, true, true, false, false, false, false] rfl rfl (any_of HT_.out (by kernel_rfl)) (fun _ _ _ h => h) (Or.inr ⟨by rfl, rfl⟩) ?_ ?_
         rotate_left
         ·simp only [Act.put, zL, zM, zN, i64_w, i32_w]
          rfl
         refine pure_ (i := 22) (N := some 125) (v := undef) (a' := ?_) #[true, true, true, true, true, true, true, true, true, true, true, true, true, true, true, true, true, true, true, true, true, true, true, false, false, false] rfl rfl (any_of HT_.out (by kernel_rfl)) (fun _ _ _ h => h) (Or.inr ⟨by rfl, rfl⟩) ?_ ?_
         rotate_left
         ·simp only [Act.put, zL, zM, zN, i64_w, i32_w]
          rfl
         refine pure_ (i := 23) (N := some 126) (v := undef) (a' := ?_) #[true, true, true, true, true, true, true, true, true, true, true, true, true, true, true, true, true, true, true, true, true, true, true, true, false, false] rfl rfl (any_of HT_.out (by kernel_rfl)) (fun _ _ _ h => h) (Or.inr ⟨by rfl, rfl⟩) ?_ ?_
         rotate_left
         ·simp only [Act.put, zL, zM, zN, i64_w, i32_w]
          rfl
         refine pure_ (i := 24) (N := some 127) (v := ?_) (a' := ?_) #[true, true, true, true, true, true, true, true, true, true, true, true, true, true, true, true, true, true, true, true, true, true, true, true, true, false] rfl rfl (any_of HT_.out (by kernel_rfl)) (fun _ _ _ h => h) (Or.inl ⟨by rfl, ?_⟩) ?_ ?_
         rotate_left
         ·intro w'
          go_simp
          with_reducible rfl
         rotate_left
         ·simp only [Act.put, zL, zM, zN, i64_w, i32_w]
          rfl
         refine pure_ (i := 25) (N := some 2) (v := ?_) (a' := ?_) #[true, true, true, true, true, true, true, true, true, true, true, true, true, true, true, true, true, true, true, true, true, true, true, true, true, true] rfl rfl (any_of HT_.out (by kernel_rfl)) (fun _ _ _ h => h) (Or.inl ⟨by rfl, ?_⟩) ?_ ?_
         rotate_left
         ·intro w'
          go_simp
          with_reducible rfl
         rotate_left
         ·simp only [Act.put, zL, zM, zN, i64_w, i32_w]
          rfl
         refine done_ (done_of HT_.out (by kernel_rfl)) ?_
         try go_wp2
         go_ret
         exact ⟨by first | rfl | (simp [errW_none, errW_some] <;> rfl) | (simp [*, errW_none, errW_some] <;> rfl), by repeat (first | (with_reducible first | exact HB.out | apply zG | apply zE | apply zF | refine zH ?_ GE674.out | refine zH ?_ GE675.out | refine zH ?_ GE679.out | refine zH ?_ GE683.out | refine zH ?_ GE687.out | refine zH ?_ GE691.out | refine zH ?_ GE697.out) | exact HB.out)⟩

/-- THE ONE PURE STATEMENT of laws_FnDecDiv: yours. -/
def laws_FnDecDiv.Pure : Prop := ∀ (l0 : List Int), l0.length ≤ maxLen → l0.length * 1 ≤ 140737488351232 → (∀ x ∈ l0, (Lit.int .u8 x).wf = true) → ∃ k, laws_FnDecDiv.f k l0 = some true
theorem laws_FnDecDiv.walk (P : laws_FnDecDiv.Pure) (a0 : Option Addr) (len0 cap0 : Nat) (z0 : List Int) (w : World) (w0 : (a0 = none ∧ len0 = 0 ∧ cap0 = 0 ∧ z0 = []) ∨ ∃ x, a0 = some x ∧ len0 ≤ cap0 ∧ cap0 ≤ maxLen ∧ z0.length = cap0 ∧ (∀ i, i < z0.length → w.cell? (x.add i) = some (.int .u8 (z0.getD i 0))) ∧ ∀ n ∈ z0, (Lit.int .u8 n).wf = true) (y0 : len0 * 1 ≤ 140737488351232) :
  Calls Try.prog 11 #[.slice a0 len0 cap0] w fun e w' => e = .returned (.bool true) ∧ Below w.heap.size w w' := by
 obtain ⟨l0, rfl, hr0, hm0, hw0, hc0⟩ := ReadsInt.ofRowC w0
 obtain ⟨k, h⟩ := P l0 hm0 y0 hw0
 refine (laws_FnDecDiv.calls k _ _ l0 true w (Kd.C_of_reads (d := (0 : Int)) (h1 := fun _ => rfl) hr0) hc0 h).mono ?_
 rintro e w' ⟨rfl, hd⟩
 exact ⟨rfl, hd⟩

end Go.Proofs.Ytmoaolcioihjnaa.Q

namespace Go.Proofs.Ytmoaolcioihjnaa.Q
open Go.RowKit Go.Proofs.YtmoaolcioihjnaaW.PrintWords Go.Proofs.YtmoaolcioihjnaaW.PrintLast Go.Proofs.YtmoaolcioihjnaaW.PrintMore Go.Proofs.YtmoaolcioihjnaaX
attribute [local go_sem] max2_int min2_int max_two min_two max_three min_three max_four min_four   -- for this text's walks alone
set_option linter.unusedVariables false
set_option linter.unusedSimpArgs false

def spec_DecMul.f (k : Nat) (a0_0 : Int) (a0_1 : Int) (a1_0 : Int) (a1_1 : Int) : Option (Int × Int × Bool) := (spec_DecOk.f a0_0 a0_1).bind fun t225 => (if t225 = true then ((spec_DecOk.f a1_0 a1_1).bind fun t226 => (if t226 = true then ((spec_l1New.f k (wrap64 (a0_0 * a1_0)) (wrap64 (a0_1 + a1_1))).bind fun bt227 => (some (bt227.1, bt227.2.1, bt227.2.2))) else (some (0, 0, false)))) else (some (0, 0, false)))
theorem spec_DecMul.mono : ∀ a0 a1 a2 a3 k, LeO (spec_DecMul.f k a0 a1 a2 a3) (spec_DecMul.f (k + 1) a0 a1 a2 a3) := by
 intro a0 a1 a2 a3 k
 unfold spec_DecMul.f
 repeat' first
   | (with_reducible exact spec_l1New.mono _ _ _)
   | (with_reducible exact LeO.refl _)
   | (with_reducible exact LeO.none _)
   | (with_reducible refine LeO.ite ?_ ?_)
   | (with_reducible refine LeO.bind ?_ (fun _ => ?_))
   | exact spec_l1New.mono _ _ _
   | exact LeO.none _
   | refine LeO.ite ?_ ?_
   | refine LeO.bind ?_ (fun _ => ?_)
set_option maxHeartbeats 8000000 in
set_option maxRecDepth 100000 in
theorem spec_DecMul.calls (k : Nat) (a0_0 : Int) (a0_1 : Int) (a1_0 : Int) (a1_1 : Int) (r1 : Int) (r2 : Int) (r3 : Bool) (w : World) (h : spec_DecMul.f k a0_0 a0_1 a1_0 a1_1 = some (r1, r2, r3)) :
  Calls Try.prog 19 #[.agg #[.int .i64 a0_0, .int .i64 a0_1], .agg #[.int .i64 a1_0, .int .i64 a1_1]] w fun e w' => e = .returned (.tuple #[.agg #[.int .i64 r1, .int .i64 r2], .bool r3]) ∧ Below w.heap.size w w' := by
 have hu26 := Try.underlying26
 have HB := zA (Below.refl w.heap.size w)
 have H : ((spec_DecOk.f a0_0 a0_1).bind fun t225 => (if t225 = true then ((spec_DecOk.f a1_0 a1_1).bind fun t226 => (if t226 = true then ((spec_l1New.f k (wrap64 (a0_0 * a1_0)) (wrap64 (a0_1 + a1_1))).bind fun bt227 => (some (bt227.1, bt227.2.1, bt227.2.2))) else (some (0, 0, false)))) else (some (0, 0, false)))) = some (r1, r2, r3) := h
 clear h
 replace H := Option.bind_eq_some_iff.mp H
 obtain ⟨t225, A30, H⟩ := H
 replace H : (if t225 = true then ((spec_DecOk.f a1_0 a1_1).bind fun t226 => (if t226 = true then ((spec_l1New.f k (wrap64 (a0_0 * a1_0)) (wrap64 (a0_1 + a1_1))).bind fun bt227 => (some (bt227.1, bt227.2.1, bt227.2.2))) else (some (0, 0, false)))) else (some (0, 0, false))) = some (r1, r2, r3) := H
 have A3 := zA A30
 clear A30
 by_cases c4 : t225 = true
 ·subst c4
  have H1 : ((spec_DecOk.f a1_0 a1_1).bind fun t226 => (if t226 = true then ((spec_l1New.f k (wrap64 (a0_0 * a1_0)) (wrap64 (a0_1 + a1_1))).bind fun bt227 => (some (bt227.1, bt227.2.1, bt227.2.2))) else (some (0, 0, false)))) = some (r1, r2, r3) := by rw [if_pos rfl] at H; exact H
  clear H
  have H := H1
  clear H1
  replace H := Option.bind_eq_some_iff.mp H
  obtain ⟨t226, A50, H⟩ := H
  replace H : (if t226 = true then ((spec_l1New.f k (wrap64 (a0_0 * a1_0)) (wrap64 (a0_1 + a1_1))).bind fun bt227 => (some (bt227.1, bt227.2.1, bt227.2.2))) else (some (0, 0, false))) = some (r1, r2, r3) := H
  have A5 := zA A50
  clear A50
  by_cases c6 : t226 = true
  ·subst c6
   have H1 : ((spec_l1New.f k (wrap64 (a0_0 * a1_0)) (wrap64 (a0_1 + a1_1))).bind fun bt227 => (some (bt227.1, bt227.2.1, bt227.2.2))) = some (r1, r2, r3) := by rw [if_pos rfl] at H; exact H
   clear H
   have H := H1
   clear H1
   replace H := Option.bind_eq_some_iff.mp H
   obtain ⟨⟨t227, t228, t229⟩, A70, H⟩ := H
   replace H : (some (t227, t228, t229)) = some (r1, r2, r3) := H
   have A7 := zA A70
   clear A70
   simp only [Option.some.injEq, Prod.mk.injEq] at H
   obtain ⟨rfl, rfl, rfl⟩ := H
   go_enter Try.func19, Try.ntmps19
   go_wp2_with (first | ((with_reducible refine zS (N := 2) rfl ?_); refine zV ?hg (N := 2) ?hd (cs := #[.int .i64 a0_0, .int .i64 a0_1]) (t := 26) ?hr ?_; (case hd => rfl); (case hg => rfl); (case hr => first | (go_simp; done) | (go_simp; rfl)); intro gb222 hg w8 hbox hb; have n0_ := zA (zQ (by repeat (first | (with_reducible first | exact HB.out | apply zG | apply zE | apply zF) | exact HB.out)) hb); have n1_ := zA (hbox); have n2_ := zA ((by rw [hg]; exact (zR (by repeat (first | (with_reducible first | exact HB.out | apply zG | apply zE | apply zF) | exact HB.out))) : w.heap.size ≤ gb222)); have n3_ := zA ((by rw [hg]; exact (zR (by repeat (first | (with_reducible first | exact HB.out | apply zG | apply zE | apply zF) | exact HB.out))) : w.heap.size ≤ gb222)); clear HB; have HB := n0_; have BK222 := n1_; have GW222 := n2_; have GE222 := n3_; clear n0_ n1_ n2_ n3_; clear hb hbox hg) | ((with_reducible refine zS (N := 3) rfl ?_); refine zV ?hg (N := 3) ?hd (cs := #[.int .i64 a1_0, .int .i64 a1_1]) (t := 26) ?hr ?_; (case hd => rfl); (case hg => rfl); (case hr => first | (go_simp; done) | (go_simp; rfl)); intro gb223 hg w9 hbox hb; have n0_ := zA (zP (g := gb222) (o := .cells #[.int .i64 a0_0, .int .i64 a0_1] 26 (0, 0)) (by (with_reducible repeat (first | refine zB ?_ _ | refine zD ?_ | refine zC ?_ _)); exact BK222.out) hb); have n1_ := zA (zQ (by repeat (first | (with_reducible first | exact HB.out | apply zG | apply zE | apply zF | refine zH ?_ GE222.out) | exact HB.out)) hb); have n2_ := zA (hbox); have n3_ := zA ((by rw [hg]; exact (zR (by repeat (first | (with_reducible first | exact HB.out | apply zG | apply zE | apply zF | refine zH ?_ GE222.out) | exact HB.out))) : w.heap.size ≤ gb223)); have n4_ := zA ((by rw [hg]; exact (zR (by repeat (first | (with_reducible first | exact HB.out | apply zG | apply zE | apply zF | refine zH ?_ GE222.out) | exact HB.out))) : w.heap.size ≤ gb223)); have n5_ := zA ((by rw [hg]; exact Nat.ne_of_lt (blk_lt (g := gb222) (o := .cells #[.int .i64 a0_0, .int .i64 a0_1] 26 (0, 0)) (by (with_reducible repeat (first | refine zB ?_ _ | refine zD ?_ | refine zC ?_ _)); exact BK222.out)) : gb222 ≠ gb223)); have n6_ := zA ((by rw [hg]; exact Nat.ne_of_gt (blk_lt (g := gb222) (o := .cells #[.int .i64 a0_0, .int .i64 a0_1] 26 (0, 0)) (by (with_reducible repeat (first | refine zB ?_ _ | refine zD ?_ | refine zC ?_ _)); exact BK222.out)) : gb223 ≠ gb222)); clear BK222; clear HB; have BK222 := n0_; have HB := n1_; have BK223 := n2_; have GW223 := n3_; have GE223 := n4_; have NB222_223 := n5_; have NB223_222 := n6_; clear n0_ n1_ n2_ n3_ n4_ n5_ n6_; clear hb hbox hg) | ((with_reducible refine zS (N := 4) rfl ?_); refine zV ?hg (N := 4) ?hd (cs := #[.int .i64 0, .int .i64 0]) (t := 26) ?hr ?_; (case hd => rfl); (case hg => rfl); (case hr => first | (go_simp; done) | (go_simp; rfl)); intro gb224 hg w10 hbox hb; have n0_ := zA (zP (g := gb222) (o := .cells #[.int .i64 a0_0, .int .i64 a0_1] 26 (0, 0)) (by (with_reducible repeat (first | refine zB ?_ _ | refine zD ?_ | refine zC ?_ _)); exact BK222.out) hb); have n1_ := zA (zP (g := gb223) (o := .cells #[.int .i64 a1_0, .int .i64 a1_1] 26 (0, 0)) (by (with_reducible repeat (first | refine zB ?_ _ | refine zD ?_ | refine zC ?_ _)); exact BK223.out) hb); have n2_ := zA (zQ (by repeat (first | (with_reducible first | exact HB.out | apply zG | apply zE | apply zF | refine zH ?_ GE222.out | refine zH ?_ GE223.out) | exact HB.out)) hb); have n3_ := zA (hbox); have n4_ := zA ((by rw [hg]; exact (zR (by repeat (first | (with_reducible first | exact HB.out | apply zG | apply zE | apply zF | refine zH ?_ GE222.out | refine zH ?_ GE223.out) | exact HB.out))) : w.heap.size ≤ gb224)); have n5_ := zA ((by rw [hg]; exact (zR (by repeat (first | (with_reducible first | exact HB.out | apply zG | apply zE | apply zF | refine zH ?_ GE222.out | refine zH ?_ GE223.out) | exact HB.out))) : w.heap.size ≤ gb224)); have n6_ := zA ((by rw [hg]; exact Nat.ne_of_lt (blk_lt (g := gb222) (o := .cells #[.int .i64 a0_0, .int .i64 a0_1] 26 (0, 0)) (by (with_reducible repeat (first | refine zB ?_ _ | refine zD ?_ | refine zC ?_ _)); exact BK222.out)) : gb222 ≠ gb224)); have n7_ := zA ((by rw [hg]; exact Nat.ne_of_gt (blk_lt (g := gb222) (o := .cells #[.int .i64 a0_0, .int .i64 a0_1] 26 (0, 0)) (by (with_reducible repeat (first | refine zB ?_ _ | refine zD ?_ | refine zC ?_ _)); exact BK222.out)) : gb224 ≠ gb222)); have n8_ := zA ((by rw [hg]; exact Nat.ne_of_lt (blk_lt (g := gb223) (o := .cells #[.int .i64 a1_0, .int .i64 a1_1] 26 (0, 0)) (by (with_reducible repeat (first | refine zB ?_ _ | refine zD ?_ | refine zC ?_ _)); exact BK223.out)) : gb223 ≠ gb224)); have n9_ := zA ((by rw [hg]; exact Nat.ne_of_gt (blk_lt (g := gb223) (o := .cells #[.int .i64 a1_0, .int .i64 a1_1] 26 (0, 0)) (by (with_reducible repeat (first | refine zB ?_ _ | refine zD ?_ | refine zC ?_ _)); exact BK223.out)) : gb224 ≠ gb223)); clear BK222; clear BK223; clear HB; have BK222 := n0_; have BK223 := n1_; have HB := n2_; have BK224 := n3_; have GW224 := n4_; have GE224 := n5_; have NB222_224 := n6_; have NB224_222 := n7_; have NB223_224 := n8_; have NB224_223 := n9_; clear n0_ n1_ n2_ n3_ n4_ n5_ n6_ n7_ n8_ n9_; clear hb hbox hg; have hnb11 := NB222_223.out; have hnc11 := NB223_222.out; have hnb12 := NB222_224.out; have hnc12 := NB224_222.out; have hcz13_0 : w10.cell? ⟨gb222, 0, none⟩ = some (.int .i64 a0_0) := (zJ BK222.out 0).trans rfl; have hcz13_1 : w10.cell? ⟨gb222, 1, none⟩ = some (.int .i64 a0_1) := (zJ BK222.out 1).trans rfl; have hfz13_0 := zK BK222.out 0; have hfz13_1 := zK BK222.out 1) | ((with_reducible refine zT (f := 20) rfl ?_); refine goesL_ (some 7) rfl rfl Try.func20 (by kernel_rfl) rfl #[.agg #[.int .i64 a0_0, .int .i64 a0_1]] rfl (by (try simp only [List.map_toArray, List.map_cons, List.map_nil]); first | done | rfl | (simp only [List.length_drop, List.length_take]; rfl)) ?_; (with_reducible refine (spec_DecOk.calls a0_0 a0_1 true _ A3.out).mono ?_); rintro e w14 ⟨rfl, hb⟩; refine ⟨_, rfl, ?_⟩; have n0_ := zA (zP (g := gb222) (o := .cells #[.int .i64 a0_0, .int .i64 a0_1] 26 (0, 0)) (by (with_reducible repeat (first | refine zB ?_ _ | refine zD ?_ | refine zC ?_ _)); exact BK222.out) hb); have n1_ := zA (zP (g := gb223) (o := .cells #[.int .i64 a1_0, .int .i64 a1_1] 26 (0, 0)) (by (with_reducible repeat (first | refine zB ?_ _ | refine zD ?_ | refine zC ?_ _)); exact BK223.out) hb); have n2_ := zA (zP (g := gb224) (o := .cells #[.int .i64 0, .int .i64 0] 26 (0, 0)) (by (with_reducible repeat (first | refine zB ?_ _ | refine zD ?_ | refine zC ?_ _)); exact BK224.out) hb); have n3_ := zA (zQ (by repeat (first | (with_reducible first | exact HB.out | apply zG | apply zE | apply zF | refine zH ?_ GE222.out | refine zH ?_ GE223.out | refine zH ?_ GE224.out) | exact HB.out)) hb); clear BK222; clear BK223; clear BK224; clear HB; have BK222 := n0_; have BK223 := n1_; have BK224 := n2_; have HB := n3_; clear n0_ n1_ n2_ n3_; (try clear hb); (try clear hb2); (try clear hk); (try clear hi); have hnb15 := NB223_224.out; have hnc15 := NB224_223.out; have hcz16_0 : w14.cell? ⟨gb223, 0, none⟩ = some (.int .i64 a1_0) := (zJ BK223.out 0).trans rfl; have hcz16_1 : w14.cell? ⟨gb223, 1, none⟩ = some (.int .i64 a1_1) := (zJ BK223.out 1).trans rfl; have hfz16_0 := zK BK223.out 0; have hfz16_1 := zK BK223.out 1) | (go_at_call 20; (with_reducible refine (spec_DecOk.calls a1_0 a1_1 true _ A5.out).mono ?_); rintro e w17 ⟨rfl, hb⟩; have n0_ := zA (zP (g := gb222) (o := .cells #[.int .i64 a0_0, .int .i64 a0_1] 26 (0, 0)) (by (with_reducible repeat (first | refine zB ?_ _ | refine zD ?_ | refine zC ?_ _)); exact BK222.out) hb); have n1_ := zA (zP (g := gb223) (o := .cells #[.int .i64 a1_0, .int .i64 a1_1] 26 (0, 0)) (by (with_reducible repeat (first | refine zB ?_ _ | refine zD ?_ | refine zC ?_ _)); exact BK223.out) hb); have n2_ := zA (zP (g := gb224) (o := .cells #[.int .i64 0, .int .i64 0] 26 (0, 0)) (by (with_reducible repeat (first | refine zB ?_ _ | refine zD ?_ | refine zC ?_ _)); exact BK224.out) hb); have n3_ := zA (zQ (by repeat (first | (with_reducible first | exact HB.out | apply zG | apply zE | apply zF | refine zH ?_ GE222.out | refine zH ?_ GE223.out | refine zH ?_ GE224.out) | exact HB.out)) hb); clear BK222; clear BK223; clear BK224; clear HB; have BK222 := n0_; have BK223 := n1_; have BK224 := n2_; have HB := n3_; clear n0_ n1_ n2_ n3_; (try clear hb); (try clear hb2); (try clear hk); (try clear hi); have hcz18_0 : w17.cell? ⟨gb222, 0, none⟩ = some (.int .i64 a0_0) := (zJ BK222.out 0).trans rfl; have hcz18_1 : w17.cell? ⟨gb222, 1, none⟩ = some (.int .i64 a0_1) := (zJ BK222.out 1).trans rfl; have hfz18_0 := zK BK222.out 0; have hfz18_1 := zK BK222.out 1; have hcz19_0 : w17.cell? ⟨gb223, 0, none⟩ = some (.int .i64 a1_0) := (zJ BK223.out 0).trans rfl; have hcz19_1 : w17.cell? ⟨gb223, 1, none⟩ = some (.int .i64 a1_1) := (zJ BK223.out 1).trans rfl; have hfz19_0 := zK BK223.out 0; have hfz19_1 := zK BK223.out 1) | ((with_reducible refine zT (f := 49) rfl ?_); refine goesL_ (some 25) rfl rfl Try.func49 (by kernel_rfl) rfl #[.int .i64 (wrap64 (a0_0 * a1_0)), .int .i64 (wrap64 (a0_1 + a1_1))] rfl (by (try simp only [List.map_toArray, List.map_cons, List.map_nil]); first | done | rfl | (simp only [List.length_drop, List.length_take]; rfl)) ?_; (with_reducible refine (spec_l1New.calls k (wrap64 (a0_0 * a1_0)) (wrap64 (a0_1 + a1_1)) t227 t228 t229 _ A7.out).mono ?_); rintro e w20 ⟨rfl, hb⟩; refine ⟨_, rfl, ?_⟩; have n0_ := zA (zP (g := gb222) (o := .cells #[.int .i64 a0_0, .int .i64 a0_1] 26 (0, 0)) (by (with_reducible repeat (first | refine zB ?_ _ | refine zD ?_ | refine zC ?_ _)); exact BK222.out) hb); have n1_ := zA (zP (g := gb223) (o := .cells #[.int .i64 a1_0, .int .i64 a1_1] 26 (0, 0)) (by (with_reducible repeat (first | refine zB ?_ _ | refine zD ?_ | refine zC ?_ _)); exact BK223.out) hb); have n2_ := zA (zP (g := gb224) (o := .cells #[.int .i64 0, .int .i64 0] 26 (0, 0)) (by (with_reducible repeat (first | refine zB ?_ _ | refine zD ?_ | refine zC ?_ _)); exact BK224.out) hb); have n3_ := zA (zQ (by repeat (first | (with_reducible first | exact HB.out | apply zG | apply zE | apply zF | refine zH ?_ GE222.out | refine zH ?_ GE223.out | refine zH ?_ GE224.out) | exact HB.out)) hb); clear BK222; clear BK223; clear BK224; clear HB; have BK222 := n0_; have BK223 := n1_; have BK224 := n2_; have HB := n3_; clear n0_ n1_ n2_ n3_; (try clear hb); (try clear hb2); (try clear hk); (try clear hi); have hcz21_0 : w20.cell? ⟨gb224, 0, none⟩ = some (.int .i64 0) := (zJ BK224.out 0).trans rfl; have hcz21_1 : w20.cell? ⟨gb224, 1, none⟩ = some (.int .i64 0) := (zJ BK224.out 1).trans rfl; have hfz21_0 := zK BK224.out 0; have hfz21_1 := zK BK224.out 1))
   refine bodyPost_ret (results_ct rfl _ _ gb224 26 #[.int .i64 t227, .int .i64 t228] (0, 0) _ rfl (by (with_reducible repeat (first | refine zB ?_ _ | refine zD ?_ | refine zC ?_ _)); refine blk_put (cs := #[.int .i64 t227, .int .i64 0]) ?_ 1 _ rfl; (with_reducible repeat (first | refine zB ?_ _ | refine zD ?_ | refine zC ?_ _)); refine blk_put (cs := #[.int .i64 0, .int .i64 0]) ?_ 0 _ rfl; (with_reducible repeat (first | refine zB ?_ _ | refine zD ?_ | refine zC ?_ _)); exact BK224.out) Try.underlying26 rfl (by kernel_rfl)) rfl ?_
   exact ⟨by first | rfl | (simp [errW_none, errW_some] <;> rfl) | (simp [*, errW_none, errW_some] <;> rfl), by repeat (first | (with_reducible first | exact HB.out | apply zG | apply zE | apply zF | refine zH ?_ GE222.out | refine zH ?_ GE223.out | refine zH ?_ GE224.out) | exact HB.out)⟩
  ·replace c6 := Bool.eq_false_iff.mpr c6
   subst c6
   have H1 : (some (0, 0, false)) = some (r1, r2, r3) := by rw [if_neg (show ¬ (false = true) by decide)] at H; exact H
   clear H
   have H := H1
   clear H1
   simp only [Option.some.injEq, Prod.mk.injEq] at H
   obtain ⟨rfl, rfl, rfl⟩ := H
   go_enter Try.func19, Try.ntmps19
   go_wp2_with (first | ((with_reducible refine zS (N := 2) rfl ?_); refine zV ?hg (N := 2) ?hd (cs := #[.int .i64 a0_0, .int .i64 a0_1]) (t := 26) ?hr ?_; (case hd => rfl); (case hg => rfl); (case hr => first | (go_simp; done) | (go_simp; rfl)); intro gb222 hg w22 hbox hb; have n0_ := zA (zQ (by repeat (first | (with_reducible first | exact HB.out | apply zG | apply zE | apply zF) | exact HB.out)) hb); have n1_ := zA (hbox); have n2_ := zA ((by rw [hg]; exact (zR (by repeat (first | (with_reducible first | exact HB.out | apply zG | apply zE | apply zF) | exact HB.out))) : w.heap.size ≤ gb222)); have n3_ := zA ((by rw [hg]; exact (zR (by repeat (first | (with_reducible first | exact HB.out | apply zG | apply zE | apply zF) | exact HB.out))) : w.heap.size ≤ gb222)); clear HB; have HB := n0_; have BK222 := n1_; have GW222 := n2_; have GE222 := n3_; clear n0_ n1_ n2_ n3_; clear hb hbox hg) | ((with_reducible refine zS (N := 3) rfl ?_); refine zV ?hg (N := 3) ?hd (cs := #[.int .i64 a1_0, .int .i64 a1_1]) (t := 26) ?hr ?_; (case hd => rfl); (case hg => rfl); (case hr => first | (go_simp; done) | (go_simp; rfl)); intro gb223 hg w23 hbox hb; have n0_ := zA (zP (g := gb222) (o := .cells #[.int .i64 a0_0, .int .i64 a0_1] 26 (0, 0)) (by (with_reducible repeat (first | refine zB ?_ _ | refine zD ?_ | refine zC ?_ _)); exact BK222.out) hb); have n1_ := zA (zQ (by repeat (first | (with_reducible first | exact HB.out | apply zG | apply zE | apply zF | refine zH ?_ GE222.out) | exact HB.out)) hb); have n2_ := zA (hbox); have n3_ := zA ((by rw [hg]; exact (zR (by repeat (first | (with_reducible first | exact HB.out | apply zG | apply zE | apply zF | refine zH ?_ GE222.out) | exact HB.out))) : w.heap.size ≤ gb223)); have n4_ := zA ((by rw [hg]; exact (zR (by repeat (first | (with_reducible first | exact HB.out | apply zG | apply zE | apply zF | refine zH ?_ GE222.out) | exact HB.out))) : w.heap.size ≤ gb223)); have n5_ := zA ((by rw [hg]; exact Nat.ne_of_lt (blk_lt (g := gb222) (o := .cells #[.int .i64 a0_0, .int .i64 a0_1] 26 (0, 0)) (by (with_reducible repeat (first | refine zB ?_ _ | refine zD ?_ | refine zC ?_ _)); exact BK222.out)) : gb222 ≠ gb223)); have n6_ := zA ((by rw [hg]; exact Nat.ne_of_gt (blk_lt (g := gb222) (o := .cells #[.int .i64 a0_0, .int .i64 a0_1] 26 (0, 0)) (by (with_reducible repeat (first | refine zB ?_ _ | refine zD ?_ | refine zC ?_ _)); exact BK222.out)) : gb223 ≠ gb222)); clear BK222; clear HB; have BK222 := n0_; have HB := n1_; have BK223 := n2_; have GW223 := n3_; have GE223 := n4_; have NB222_223 := n5_; have NB223_222 := n6_; clear n0_ n1_ n2_ n3_ n4_ n5_ n6_; clear hb hbox hg) | ((with_reducible refine zS (N := 4) rfl ?_); refine zV ?hg (N := 4) ?hd (cs := #[.int .i64 0, .int .i64 0]) (t := 26) ?hr ?_; (case hd => rfl); (case hg => rfl); (case hr => first | (go_simp; done) | (go_simp; rfl)); intro gb224 hg w24 hbox hb; have n0_ := zA (zP (g := gb222) (o := .cells #[.int .i64 a0_0, .int .i64 a0_1] 26 (0, 0)) (by (with_reducible repeat (first | refine zB ?_ _ | refine zD ?_ | refine zC ?_ _)); exact BK222.out) hb); have n1_ := zA (zP (g := gb223) (o := .cells #[.int .i64 a1_0, .int .i64 a1_1] 26 (0, 0)) (by (with_reducible repeat (first | refine zB ?_ _ | refine zD ?_ | refine zC ?_ _)); exact BK223.out) hb); have n2_ := zA (zQ (by repeat (first | (with_reducible first | exact HB.out | apply zG | apply zE | apply zF | refine zH ?_ GE222.out | refine zH ?_ GE223.out) | exact HB.out)) hb); have n3_ := zA (hbox); have n4_ := zA ((by rw [hg]; exact (zR (by repeat (first | (with_reducible first | exact HB.out | apply zG | apply zE | apply zF | refine zH ?_ GE222.out | refine zH ?_ GE223.out) | exact HB.out))) : w.heap.size ≤ gb224)); have n5_ := zA ((by rw [hg]; exact (zR (by repeat (first | (with_reducible first | exact HB.out | apply zG | apply zE | apply zF | refine zH ?_ GE222.out | refine zH ?_ GE223.out) | exact HB.out))) : w.heap.size ≤ gb224)); have n6_ := zA ((by rw [hg]; exact Nat.ne_of_lt (blk_lt (g := gb222) (o := .cells #[.int .i64 a0_0, .int .i64 a0_1] 26 (0, 0)) (by (with_reducible repeat (first | refine zB ?_ _ | refine zD ?_ | refine zC ?_ _)); exact BK222.out)) : gb222 ≠ gb224)); have n7_ := zA ((by rw [hg]; exact Nat.ne_of_gt (blk_lt (g := gb222) (o := .cells #[.int .i64 a0_0, .int .i64 a0_1] 26 (0, 0)) (by (with_reducible repeat (first | refine zB ?_ _ | refine zD ?_ | refine zC ?_ _)); exact BK222.out)) : gb224 ≠ gb222)); have n8_ := zA ((by rw [hg]; exact Nat.ne_of_lt (blk_lt (g := gb223) (o := .cells #[.int .i64 a1_0, .int .i64 a1_1] 26 (0, 0)) (by (with_reducible repeat (first | refine zB ?_ _ | refine zD ?_ | refine zC ?_ _)); exact BK223.out)) : gb223 ≠ gb224)); have n9_ := zA ((by rw [hg]; exact Nat.ne_of_gt (blk_lt (g := gb223) (o := .cells #[.int .i64 a1_0, .int .i64 a1_1] 26 (0, 0)) (by (with_reducible repeat (first | refine zB ?_ _ | refine zD ?_ | refine zC ?_ _)); exact BK223.out)) : gb224 ≠ gb223)); clear BK222; clear BK223; clear HB; have BK222 := n0_; have BK223 := n1_; have HB := n2_; have BK224 := n3_; have GW224 := n4_; have GE224 := n5_; have NB222_224 := n6_; have NB224_222 := n7_; have NB223_224 := n8_; have NB224_223 := n9_; clear n0_ n1_ n2_ n3_ n4_ n5_ n6_ n7_ n8_ n9_; clear hb hbox hg; have hnb25 := NB222_223.out; have hnc25 := NB223_222.out; have hnb26 := NB222_224.out; have hnc26 := NB224_222.out; have hcz27_0 : w24.cell? ⟨gb222, 0, none⟩ = some (.int .i64 a0_0) := (zJ BK222.out 0).trans rfl; have hcz27_1 : w24.cell? ⟨gb222, 1, none⟩ = some (.int .i64 a0_1) := (zJ BK222.out 1).trans rfl; have hfz27_0 := zK BK222.out 0; have hfz27_1 := zK BK222.out 1) | ((with_reducible refine zT (f := 20) rfl ?_); refine goesL_ (some 7) rfl rfl Try.func20 (by kernel_rfl) rfl #[.agg #[.int .i64 a0_0, .int .i64 a0_1]] rfl (by (try simp only [List.map_toArray, List.map_cons, List.map_nil]); first | done | rfl | (simp only [List.length_drop, List.length_take]; rfl)) ?_; (with_reducible refine (spec_DecOk.calls a0_0 a0_1 true _ A3.out).mono ?_); rintro e w28 ⟨rfl, hb⟩; refine ⟨_, rfl, ?_⟩; have n0_ := zA (zP (g := gb222) (o := .cells #[.int .i64 a0_0, .int .i64 a0_1] 26 (0, 0)) (by (with_reducible repeat (first | refine zB ?_ _ | refine zD ?_ | refine zC ?_ _)); exact BK222.out) hb); have n1_ := zA (zP (g := gb223) (o := .cells #[.int .i64 a1_0, .int .i64 a1_1] 26 (0, 0)) (by (with_reducible repeat (first | refine zB ?_ _ | refine zD ?_ | refine zC ?_ _)); exact BK223.out) hb); have n2_ := zA (zP (g := gb224) (o := .cells #[.int .i64 0, .int .i64 0] 26 (0, 0)) (by (with_reducible repeat (first | refine zB ?_ _ | refine zD ?_ | refine zC ?_ _)); exact BK224.out) hb); have n3_ := zA (zQ (by repeat (first | (with_reducible first | exact HB.out | apply zG | apply zE | apply zF | refine zH ?_ GE222.out | refine zH ?_ GE223.out | refine zH ?_ GE224.out) | exact HB.out)) hb); clear BK222; clear BK223; clear BK224; clear HB; have BK222 := n0_; have BK223 := n1_; have BK224 := n2_; have HB := n3_; clear n0_ n1_ n2_ n3_; (try clear hb); (try clear hb2); (try clear hk); (try clear hi); have hnb29 := NB223_224.out; have hnc29 := NB224_223.out; have hcz30_0 : w28.cell? ⟨gb223, 0, none⟩ = some (.int .i64 a1_0) := (zJ BK223.out 0).trans rfl; have hcz30_1 : w28.cell? ⟨gb223, 1, none⟩ = some (.int .i64 a1_1) := (zJ BK223.out 1).trans rfl; have hfz30_0 := zK BK223.out 0; have hfz30_1 := zK BK223.out 1) | (go_at_call 20; (with_reducible refine (spec_DecOk.calls a1_0 a1_1 false _ A5.out).mono ?_); rintro e w31 ⟨rfl, hb⟩; have n0_ := zA (zP (g := gb222) (o := .cells #[.int .i64 a0_0, .int .i64 a0_1] 26 (0, 0)) (by (with_reducible repeat (first | refine zB ?_ _ | refine zD ?_ | refine zC ?_ _)); exact BK222.out) hb); have n1_ := zA (zP (g := gb223) (o := .cells #[.int .i64 a1_0, .int .i64 a1_1] 26 (0, 0)) (by (with_reducible repeat (first | refine zB ?_ _ | refine zD ?_ | refine zC ?_ _)); exact BK223.out) hb); have n2_ := zA (zP (g := gb224) (o := .cells #[.int .i64 0, .int .i64 0] 26 (0, 0)) (by (with_reducible repeat (first | refine zB ?_ _ | refine zD ?_ | refine zC ?_ _)); exact BK224.out) hb); have n3_ := zA (zQ (by repeat (first | (with_reducible first | exact HB.out | apply zG | apply zE | apply zF | refine zH ?_ GE222.out | refine zH ?_ GE223.out | refine zH ?_ GE224.out) | exact HB.out)) hb); clear BK222; clear BK223; clear BK224; clear HB; have BK222 := n0_; have BK223 := n1_; have BK224 := n2_; have HB := n3_; clear n0_ n1_ n2_ n3_; (try clear hb); (try clear hb2); (try clear hk); (try clear hi); have hcz32_0 : w31.cell? ⟨gb224, 0, none⟩ = some (.int .i64 0) := (zJ BK224.out 0).trans rfl; have hcz32_1 : w31.cell? ⟨gb224, 1, none⟩ = some (.int .i64 0) := (zJ BK224.out 1).trans rfl; have hfz32_0 := zK BK224.out 0; have hfz32_1 := zK BK224.out 1))
   refine bodyPost_ret (results_ct rfl _ _ gb224 26 #[.int .i64 0, .int .i64 0] (0, 0) _ rfl (by (with_reducible repeat (first | refine zB ?_ _ | refine zD ?_ | refine zC ?_ _)); refine blk_put (cs := #[.int .i64 0, .int .i64 0]) ?_ 1 _ rfl; (with_reducible repeat (first | refine zB ?_ _ | refine zD ?_ | refine zC ?_ _)); refine blk_put (cs := #[.int .i64 0, .int .i64 0]) ?_ 0 _ rfl; (with_reducible repeat (first | refine zB ?_ _ | refine zD ?_ | refine zC ?_ _)); exact BK224.out) Try.underlying26 rfl (by kernel_rfl)) rfl ?_
   exact ⟨by first | rfl | (simp [errW_none, errW_some] <;> rfl) | (simp [*, errW_none, errW_some] <;> rfl), by repeat (first | (with_reducible first | exact HB.out | apply zG | apply zE | apply zF | refine zH ?_ GE222.out | refine zH ?_ GE223.out | refine zH ?_ GE224.out) | exact HB.out)⟩
 ·replace c4 := Bool.eq_false_iff.mpr c4
  subst c4
  have H1 : (some (0, 0, false)) = some (r1, r2, r3) := by rw [if_neg (show ¬ (false = true) by decide)] at H; exact H
  clear H
  have H := H1
  clear H1
  simp only [Option.some.injEq, Prod.mk.injEq] at H
  obtain ⟨rfl, rfl, rfl⟩ := H
  go_enter Try.func19, Try.ntmps19
  go_wp2_with (first | ((with_reducible refine zS (N := 2) rfl ?_); refine zV ?hg (N := 2) ?hd (cs := #[.int .i64 a0_0, .int .i64 a0_1]) (t := 26) ?hr ?_; (case hd => rfl); (case hg => rfl); (case hr => first | (go_simp; done) | (go_simp; rfl)); intro gb222 hg w33 hbox hb; have n0_ := zA (zQ (by repeat (first | (with_reducible first | exact HB.out | apply zG | apply zE | apply zF) | exact HB.out)) hb); have n1_ := zA (hbox); have n2_ := zA ((by rw [hg]; exact (zR (by repeat (first | (with_reducible first | exact HB.out | apply zG | apply zE | apply zF) | exact HB.out))) : w.heap.size ≤ gb222)); have n3_ := zA ((by rw [hg]; exact (zR (by repeat (first | (with_reducible first | exact HB.out | apply zG | apply zE | apply zF) | exact HB.out))) : w.heap.size ≤ gb222)); clear HB; have HB := n0_; have BK222 := n1_; have GW222 := n2_; have GE222 := n3_; clear n0_ n1_ n2_ n3_; clear hb hbox hg) | ((with_reducible refine zS (N := 3) rfl ?_); refine zV ?hg (N := 3) ?hd (cs := #[.int .i64 a1_0, .int .i64 a1_1]) (t := 26) ?hr ?_; (case hd => rfl); (case hg => rfl); (case hr => first | (go_simp; done) | (go_simp; rfl)); intro gb223 hg w34 hbox hb; have n0_ := zA (zP (g := gb222) (o := .cells #[.int .i64 a0_0, .int .i64 a0_1] 26 (0, 0)) (by (with_reducible repeat (first | refine zB ?_ _ | refine zD ?_ | refine zC ?_ _)); exact BK222.out) hb); have n1_ := zA (zQ (by repeat (first | (with_reducible first | exact HB.out | apply zG | apply zE | apply zF | refine zH ?_ GE222.out) | exact HB.out)) hb); have n2_ := zA (hbox); have n3_ := zA ((by rw [hg]; exact (zR (by repeat (first | (with_reducible first | exact HB.out | apply zG | apply zE | apply zF | refine zH ?_ GE222.out) | exact HB.out))) : w.heap.size ≤ gb223)); have n4_ := zA ((by rw [hg]; exact (zR (by repeat (first | (with_reducible first | exact HB.out | apply zG | apply zE | apply zF | refine zH ?_ GE222.out) | exact HB.out))) : w.heap.size ≤ gb223)); have n5_ := zA ((by rw [hg]; exact Nat.ne_of_lt (blk_lt (g := gb222) (o := .cells #[.int .i64 a0_0, .int .i64 a0_1] 26 (0, 0)) (by (with_reducible repeat (first | refine zB ?_ _ | refine zD ?_ | refine zC ?_ _)); exact BK222.out)) : gb222 ≠ gb223)); have n6_ := zA ((by rw [hg]; exact Nat.ne_of_gt (blk_lt (g := gb222) (o := .cells #[.int .i64 a0_0, .int .i64 a0_1] 26 (0, 0)) (by (with_reducible repeat (first | refine zB ?_ _ | refine zD ?_ | refine zC ?_ _)); exact BK222.out)) : gb223 ≠ gb222)); clear BK222; clear HB; have BK222 := n0_; have HB := n1_; have BK223 := n2_; have GW223 := n3_; have GE223 := n4_; have NB222_223 := n5_; have NB223_222 := n6_; clear n0_ n1_ n2_ n3_ n4_ n5_ n6_; clear hb hbox hg) | ((with_reducible refine zS (N := 4) rfl ?_); refine zV ?hg (N := 4) ?hd (cs := #[.int .i64 0, .int .i64 0]) (t := 26) ?hr ?_; (case hd => rfl); (case hg => rfl); (case hr => first | (go_simp; done) | (go_simp; rfl)); intro gb224 hg w35 hbox hb; have n0_ := zA (zP (g := gb222) (o := .cells #[.int .i64 a0_0, .int .i64 a0_1] 26 (0, 0)) (by (with_reducible repeat (first | refine zB ?_ _ | refine zD ?_ | refine zC ?_ _)); exact BK222.out) hb); have n1_ := zA (zP (g := gb223) (o := .cells #[.int .i64 a1_0, .int .i64 a1_1] 26 (0, 0)) (by (with_reducible repeat (first | refine zB ?_ _ | refine zD ?_ | refine zC ?_ _)); exact BK223.out) hb); have n2_ := zA (zQ (by repeat (first | (with_reducible first | exact HB.out | apply zG | apply zE | apply zF | refine zH ?_ GE222.out | refine zH ?_ GE223.out) | exact HB.out)) hb); have n3_ := zA (hbox); have n4_ := zA ((by rw [hg]; exact (zR (by repeat (first | (with_reducible first | exact HB.out | apply zG | apply zE | apply zF | refine zH ?_ GE222.out | refine zH ?_ GE223.out) | exact HB.out))) : w.heap.size ≤ gb224)); have n5_ := zA ((by rw [hg]; exact (zR (by repeat (first | (with_reducible first | exact HB.out | apply zG | apply zE | apply zF | refine zH ?_ GE222.out | refine zH ?_ GE223.out) | exact HB.out))) : w.heap.size ≤ gb224)); have n6_ := zA ((by rw [hg]; exact Nat.ne_of_lt (blk_lt (g := gb222) (o := .cells #[.int .i64 a0_0, .int .i64 a0_1] 26 (0, 0)) (by (with_reducible repeat (first | refine zB ?_ _ | refine zD ?_ | refine zC ?_ _)); exact BK222.out)) : gb222 ≠ gb224)); have n7_ := zA ((by rw [hg]; exact Nat.ne_of_gt (blk_lt (g := gb222) (o := .cells #[.int .i64 a0_0, .int .i64 a0_1] 26 (0, 0)) (by (with_reducible repeat (first | refine zB ?_ _ | refine zD ?_ | refine zC ?_ _)); exact BK222.out)) : gb224 ≠ gb222)); have n8_ := zA ((by rw [hg]; exact Nat.ne_of_lt (blk_lt (g := gb223) (o := .cells #[.int .i64 a1_0, .int .i64 a1_1] 26 (0, 0)) (by (with_reducible repeat (first | refine zB ?_ _ | refine zD ?_ | refine zC ?_ _)); exact BK223.out)) : gb223 ≠ gb224)); have n9_ := zA ((by rw [hg]; exact Nat.ne_of_gt (blk_lt (g := gb223) (o := .cells #[.int .i64 a1_0, .int .i64 a1_1] 26 (0, 0)) (by (with_reducible repeat (first | refine zB ?_ _ | refine zD ?_ | refine zC ?_ _)); exact BK223.out)) : gb224 ≠ gb223)); clear BK222; clear BK223; clear HB; have BK222 := n0_; have BK223 := n1_; have HB := n2_; have BK224 := n3_; have GW224 := n4_; have GE224 := n5_; have NB222_224 := n6_; have NB224_222 := n7_; have NB223_224 := n8_; have NB224_223 := n9_; clear n0_ n1_ n2_ n3_ n4_ n5_ n6_ n7_ n8_ n9_; clear hb hbox hg; have hnb36 := NB222_223.out; have hnc36 := NB223_222.out; have hnb37 := NB222_224.out; have hnc37 := NB224_222.out; have hcz38_0 : w35.cell? ⟨gb222, 0, none⟩ = some (.int .i64 a0_0) := (zJ BK222.out 0).trans rfl; have hcz38_1 : w35.cell? ⟨gb222, 1, none⟩ = some (.int .i64 a0_1) := (zJ BK222.out 1).trans rfl; have hfz38_0 := zK BK222.out 0; have hfz38_1 := zK BK222.out 1) | ((with_reducible refine zT (f := 20) rfl ?_); refine goesL_ (some 7) rfl rfl Try.func20 (by kernel_rfl) rfl #[.agg #[.int .i64 a0_0, .int .i64 a0_1]] rfl (by (try simp only [List.map_toArray, List.map_cons, List.map_nil]); first | done | rfl | (simp only [List.length_drop, List.length_take]; rfl)) ?_; (with_reducible refine (spec_DecOk.calls a0_0 a0_1 false _ A3.out).mono ?_); rintro e w39 ⟨rfl, hb⟩; refine ⟨_, rfl, ?_⟩; have n0_ := zA (zP (g := gb222) (o := .cells #[.int .i64 a0_0, .int .i64 a0_1] 26 (0, 0)) (by (with_reducible repeat (first | refine zB ?_ _ | refine zD ?_ | refine zC ?_ _)); exact BK222.out) hb); have n1_ := zA (zP (g := gb223) (o := .cells #[.int .i64 a1_0, .int .i64 a1_1] 26 (0, 0)) (by (with_reducible repeat (first | refine zB ?_ _ | refine zD ?_ | refine zC ?_ _)); exact BK223.out) hb); have n2_ := zA (zP (g := gb224) (o := .cells #[.int .i64 0, .int .i64 0] 26 (0, 0)) (by (with_reducible repeat (first | refine zB ?_ _ | refine zD ?_ | refine zC ?_ _)); exact BK224.out) hb); have n3_ := zA (zQ (by repeat (first | (with_reducible first | exact HB.out | apply zG | apply zE | apply zF | refine zH ?_ GE222.out | refine zH ?_ GE223.out | refine zH ?_ GE224.out) | exact HB.out)) hb); clear BK222; clear BK223; clear BK224; clear HB; have BK222 := n0_; have BK223 := n1_; have BK224 := n2_; have HB := n3_; clear n0_ n1_ n2_ n3_; (try clear hb); (try clear hb2); (try clear hk); (try clear hi); have hnb40 := NB224_223.out; have hnc40 := NB223_224.out; have hcz41_0 : w39.cell? ⟨gb224, 0, none⟩ = some (.int .i64 0) := (zJ BK224.out 0).trans rfl; have hcz41_1 : w39.cell? ⟨gb224, 1, none⟩ = some (.int .i64 0) := (zJ BK224.out 1).trans rfl; have hfz41_0 := zK BK224.out 0; have hfz41_1 := zK BK224.out 1))
  refine bodyPost_ret (results_ct rfl _ _ gb224 26 #[.int .i64 0, .int .i64 0] (0, 0) _ rfl (by (with_reducible repeat (first | refine zB ?_ _ | refine zD ?_ | refine zC ?_ _)); refine blk_put (cs := #[.int .i64 0, .int .i64 0]) ?_ 1 _ rfl; (with_reducible repeat (first | refine zB ?_ _ | refine zD ?_ | refine zC ?_ _)); refine blk_put (cs := #[.int .i64 0, .int .i64 0]) ?_ 0 _ rfl; (with_reducible repeat (first | refine zB ?_ _ | refine zD ?_ | refine zC ?_ _)); exact BK224.out) Try.underlying26 rfl (by kernel_rfl)) rfl ?_
  exact ⟨by first | rfl | (simp [errW_none, errW_some] <;> rfl) | (simp [*, errW_none, errW_some] <;> rfl), by repeat (first | (with_reducible first | exact HB.out | apply zG | apply zE | apply zF | refine zH ?_ GE222.out | refine zH ?_ GE223.out | refine zH ?_ GE224.out) | exact HB.out)⟩

end Go.Proofs.Ytmoaolcioihjnaa.Q

namespace Go.Proofs.Ytmoaolcioihjnaa.Q
open Go.RowKit Go.Proofs.YtmoaolcioihjnaaW.PrintWords Go.Proofs.YtmoaolcioihjnaaW.PrintLast Go.Proofs.YtmoaolcioihjnaaW.PrintMore Go.Proofs.YtmoaolcioihjnaaX
attribute [local go_sem] max2_int min2_int max_two min_two max_three min_three max_four min_four   -- for this text's walks alone
set_option linter.unusedVariables false
set_option linter.unusedSimpArgs false

def spec_l1Least.f (a0 : Int) (a1 : Int) : Option (Int) := if a0 < a1 then (some a0) else (some a1)
set_option maxHeartbeats 8000000 in
set_option maxRecDepth 100000 in
theorem spec_l1Least.calls (a0 : Int) (a1 : Int) (r : Int) (w : World) (h : spec_l1Least.f a0 a1 = some r) :
  Calls Try.prog 66 #[.int .i64 a0, .int .i64 a1] w fun e w' => e = .returned (.int .i64 r) ∧ Drawn0 w w' := by
 have H : (if a0 < a1 then (some a0) else (some a1)) = some r := h
 clear h
 by_cases c3 : a0 < a1
 ·rw [if_pos c3] at H
  have c3b0 : decide (a0 < a1) = true := decide_eq_true c3
  clear c3
  obtain rfl := Option.some.inj H
  go_enter Try.func66, Try.ntmps66
  go_wp2
  go_ret
  exact ⟨by first | rfl | (simp; done) | (simp [*]; done), by repeat (first | exact Drawn0.refl _ | apply Drawn0.step)⟩
 ·rw [if_neg c3] at H
  have c3b0 : decide (a0 < a1) = false := decide_eq_false c3
  clear c3
  obtain rfl := Option.some.inj H
  go_enter Try.func66, Try.ntmps66
  go_wp2
  go_ret
  exact ⟨by first | rfl | (simp; done) | (simp [*]; done), by repeat (first | exact Drawn0.refl _ | apply Drawn0.step)⟩

end Go.Proofs.Ytmoaolcioihjnaa.Q

namespace Go.Proofs.Ytmoaolcioihjnaa.Q
open Go.RowKit Go.Proofs.YtmoaolcioihjnaaW.PrintWords Go.Proofs.YtmoaolcioihjnaaW.PrintLast Go.Proofs.YtmoaolcioihjnaaW.PrintMore Go.Proofs.YtmoaolcioihjnaaX
attribute [local go_sem] max2_int min2_int max_two min_two max_three min_three max_four min_four   -- for this text's walks alone
set_option linter.unusedVariables false
set_option linter.unusedSimpArgs false

def spec_l1Up.l0 : Nat → Int → Int → Option (Int × Bool)
 | 0, _, _ => none
 | k + 1, x0, x1 => if x1 > 0 then (if (wrap64 (x0 * 10)) > 1000000000 then (some (0, false)) else (if (wrap64 (x0 * 10)) < (-1000000000) then (some (0, false)) else (spec_l1Up.l0 k (wrap64 (x0 * 10)) (wrap64 (x1 - 1))))) else (some (x0, true))
def spec_l1Up.f (k : Nat) (a0 : Int) (a1 : Int) : Option (Int × Bool) := spec_l1Up.l0 k a0 a1
theorem spec_l1Up.mono_l : ∀ k, (∀ y0 y1, LeO (spec_l1Up.l0 k y0 y1) (spec_l1Up.l0 (k + 1) y0 y1))
 | 0 => fun _ _ r h => by simp [spec_l1Up.l0] at h
 | k + 1 => by
  have ih0 := spec_l1Up.mono_l k
  ·intro y0 y1
   unfold spec_l1Up.l0
   repeat' first
   | (with_reducible exact ih0 _ _)
   | (with_reducible exact LeO.refl _)
   | (with_reducible exact LeO.none _)
   | (with_reducible refine LeO.ite ?_ ?_)
   | (with_reducible refine LeO.bind ?_ (fun _ => ?_))
   | exact ih0 _ _
   | exact LeO.none _
   | refine LeO.ite ?_ ?_
   | refine LeO.bind ?_ (fun _ => ?_)
theorem spec_l1Up.mono : ∀ a0 a1 k, LeO (spec_l1Up.f k a0 a1) (spec_l1Up.f (k + 1) a0 a1) := by
 intro a0 a1 k
 have ih0 := spec_l1Up.mono_l k
 unfold spec_l1Up.f
 repeat' first
   | (with_reducible exact ih0 _ _)
   | (with_reducible exact LeO.refl _)
   | (with_reducible exact LeO.none _)
   | (with_reducible refine LeO.ite ?_ ?_)
   | (with_reducible refine LeO.bind ?_ (fun _ => ?_))
   | exact ih0 _ _
   | exact LeO.none _
   | refine LeO.ite ?_ ?_
   | refine LeO.bind ?_ (fun _ => ?_)
set_option maxHeartbeats 8000000 in
set_option maxRecDepth 100000 in
theorem spec_l1Up.calls (k : Nat) (a0 : Int) (a1 : Int) (r1 : Int) (r2 : Bool) (w : World) (h : spec_l1Up.f k a0 a1 = some (r1, r2)) :
  Calls Try.prog 67 #[.int .i64 a0, .int .i64 a1] w fun e w' => e = .returned (.tuple #[.int .i64 r1, .bool r2]) ∧ Drawn0 w w' := by
 have H : (spec_l1Up.l0 k a0 a1) = some (r1, r2) := h
 clear h
 have H' := zA H
 clear H
 go_enter Try.func67, Try.ntmps67
 go_wp2
 go_loopg [0, 1] k (fun kq v0 v1 w' => ∃ (x0_1 : Int) (x1_1 : Int), v0 = .int .i64 x0_1 ∧ v1 = .int .i64 x1_1 ∧ Aside0 (spec_l1Up.l0 kq x0_1 x1_1 = some (r1, r2)) ∧ Aside0 (kq ≤ k) ∧ Drawn0 w w')
 case atStart => exact ⟨(a0), (a1), (by first | rfl | (simp; done) | (simp [*]; done)), (by first | rfl | (simp; done) | (simp [*]; done)), H', ⟨Nat.le_refl _⟩, by repeat (first | exact Drawn0.refl _ | apply Drawn0.step)⟩
 case round =>
  clear H'
  try clear p2
  obtain ⟨x0_1, x1_1, rfl, rfl, HA, HK1, ⟨m1, rfl⟩⟩ := hrel
  cases gk with
  | zero => exact absurd HA.out (by simp [spec_l1Up.l0])
  | succ k1 =>
   have H := HA.out
   clear HA
   simp only [spec_l1Up.l0] at H
   by_cases c3 : x1_1 > 0
   ·rw [if_pos c3] at H
    have c3b0 : decide (0 < x1_1) = true := decide_eq_true c3
    clear c3
    by_cases c4 : (wrap64 (x0_1 * 10)) > 1000000000
    ·rw [if_pos c4] at H
     have c4b0 : decide (1000000000 < (wrap64 (x0_1 * 10))) = true := decide_eq_true c4
     clear c4
     simp only [Option.some.injEq, Prod.mk.injEq] at H
     obtain ⟨rfl, rfl⟩ := H
     go_wp2
     go_ret2
     exact ⟨by first | rfl | (simp; done) | (simp [*]; done), by repeat (first | exact Drawn0.refl _ | apply Drawn0.step)⟩
    ·rw [if_neg c4] at H
     have c4b0 : decide (1000000000 < (wrap64 (x0_1 * 10))) = false := decide_eq_false c4
     clear c4
     by_cases c5 : (wrap64 (x0_1 * 10)) < (-1000000000)
     ·rw [if_pos c5] at H
      have c5b0 : decide ((wrap64 (x0_1 * 10)) < (-1000000000)) = true := decide_eq_true c5
      clear c5
      simp only [Option.some.injEq, Prod.mk.injEq] at H
      obtain ⟨rfl, rfl⟩ := H
      go_wp2
      go_ret2
      exact ⟨by first | rfl | (simp; done) | (simp [*]; done), by repeat (first | exact Drawn0.refl _ | apply Drawn0.step)⟩
     ·rw [if_neg c5] at H
      have c5b0 : decide ((wrap64 (x0_1 * 10)) < (-1000000000)) = false := decide_eq_false c5
      clear c5
      have H' := zA H
      clear H
      go_wp2
      go_roundg k1
      case measure => have := HK1.out; omega
      case rel => exact ⟨(wrap64 (x0_1 * 10)), (wrap64 (x1_1 - 1)), (by first | rfl | (simp; done) | (simp [*]; done)), (by first | rfl | (simp; done) | (simp [*]; done)), H', ⟨by have := HK1.out; omega⟩, by repeat (first | exact Drawn0.refl _ | apply Drawn0.step)⟩
   ·rw [if_neg c3] at H
    have c3b0 : decide (0 < x1_1) = false := decide_eq_false c3
    clear c3
    simp only [Option.some.injEq, Prod.mk.injEq] at H
    obtain ⟨rfl, rfl⟩ := H
    go_wp2
    go_ret2
    exact ⟨by first | rfl | (simp; done) | (simp [*]; done), by repeat (first | exact Drawn0.refl _ | apply Drawn0.step)⟩

end Go.Proofs.Ytmoaolcioihjnaa.Q
