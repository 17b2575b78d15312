-- laid by a program of this session (wip/tools) out of the translation; Lean checks it
import Derived.Test.YtmoaolcioihjnaaBFnDecModq3
namespace Go.Proofs.Ytmoaolcioihjnaa.Q
open Go.RowKit Go.Proofs.YtmoaolcioihjnaaW.PrintWords Go.Proofs.YtmoaolcioihjnaaW.PrintLast Go.Proofs.YtmoaolcioihjnaaW.PrintMore Go.Proofs.YtmoaolcioihjnaaX
attribute [local go_sem] max2_int min2_int max_two min_two max_three min_three max_four min_four   -- for this text's walks alone
set_option linter.unusedVariables false
set_option linter.unusedSimpArgs false

attribute [local go_sem high] eqA26
def laws_FnDecMod.j0 : Nat → Bool → Bool → Bool → Int → Int → Int → Int → Int → Int → Int → Int → Option (Bool)
 | 0, _, _, _, _, _, _, _, _, _, _, _ => none
 | k + 1, x6, x8, x42, x749000, x749001, x750000, x750001, x754000, x754001, x758000, x758001 => if x42 = true then (if (x754000 == x758000 && (x754001 == x758001)) = true then (some (x6 == x8)) else (none)) else ((impl_DecMod.f k x754000 x754001 x750000 x750001).bind fun bt758 => ((laws_chAbs.f x754000 x754001).bind fun bt762 => ((laws_chAbs.f x750000 x750001).bind fun bt764 => ((impl_DecCmp.f k bt762.1 bt762.2 bt764.1 bt764.2).bind fun t766 => (if t766 < 0 then (if x754000 = 0 then (if bt758.2.2 = true then (some (bt758.1 == x754000 && (bt758.2.1 == x754001))) else (none)) else (if ((decide (x754000 < 0)) == (decide (x749000 < 0))) = true then (if bt758.2.2 = true then (some (bt758.1 == x754000 && (bt758.2.1 == x754001))) else (none)) else (none))) else (none))))))
def laws_FnDecMod.f (k : Nat) (l0 : List Int) : Option (Bool) := if (l0.length : Int) > 1048576 then (some true) else ((spec_DrawDecMod.f k l0).bind fun bt744 => ((impl_DecMod.f k bt744.1 bt744.2.1 bt744.2.2.1 bt744.2.2.2).bind fun bt750 => ((spec_DecMod.f k bt744.1 bt744.2.1 bt744.2.2.1 bt744.2.2.2).bind fun bt754 => (if (!(bt750.1 == bt754.1) || (!(bt750.2.1 == bt754.2.1))) = true then (laws_FnDecMod.j0 k bt750.2.2 bt754.2.2 true bt744.1 bt744.2.1 bt744.2.2.1 bt744.2.2.2 bt750.1 bt750.2.1 bt754.1 bt754.2.1) else (if (bt750.2.2 != bt754.2.2) = true then (laws_FnDecMod.j0 k bt750.2.2 bt754.2.2 true bt744.1 bt744.2.1 bt744.2.2.1 bt744.2.2.2 bt750.1 bt750.2.1 bt754.1 bt754.2.1) else (laws_FnDecMod.j0 k bt750.2.2 bt754.2.2 (!bt750.2.2) bt744.1 bt744.2.1 bt744.2.2.1 bt744.2.2.2 bt750.1 bt750.2.1 bt754.1 bt754.2.1))))))
theorem laws_FnDecMod.mono_l : ∀ k, (∀ y0 y1 y2 y3 y4 y5 y6 y7 y8 y9 y10, LeO (laws_FnDecMod.j0 k y0 y1 y2 y3 y4 y5 y6 y7 y8 y9 y10) (laws_FnDecMod.j0 (k + 1) y0 y1 y2 y3 y4 y5 y6 y7 y8 y9 y10))
 | 0 => fun _ _ _ _ _ _ _ _ _ _ _ r h => by simp [laws_FnDecMod.j0] at h
 | k + 1 => by
  have ih0 := laws_FnDecMod.mono_l k
  ·intro y0 y1 y2 y3 y4 y5 y6 y7 y8 y9 y10
   unfold laws_FnDecMod.j0
   repeat' first
   | (with_reducible exact ih0 _ _ _ _ _ _ _ _ _ _ _)
   | (with_reducible exact impl_DecCmp.mono _ _ _ _ _)
   | (with_reducible exact impl_DecMod.mono _ _ _ _ _)
   | (with_reducible exact spec_DecMod.mono _ _ _ _ _)
   | (with_reducible exact spec_DrawDecMod.mono _ _)
   | (with_reducible exact LeO.refl _)
   | (with_reducible exact LeO.none _)
   | (with_reducible refine LeO.ite ?_ ?_)
   | (with_reducible refine LeO.bind ?_ (fun _ => ?_))
   | exact ih0 _ _ _ _ _ _ _ _ _ _ _
   | exact impl_DecCmp.mono _ _ _ _ _
   | exact impl_DecMod.mono _ _ _ _ _
   | exact spec_DecMod.mono _ _ _ _ _
   | exact spec_DrawDecMod.mono _ _
   | exact LeO.none _
   | refine LeO.ite ?_ ?_
   | refine LeO.bind ?_ (fun _ => ?_)
theorem laws_FnDecMod.mono : ∀ a0 k, LeO (laws_FnDecMod.f k a0) (laws_FnDecMod.f (k + 1) a0) := by
 intro a0 k
 have ih0 := laws_FnDecMod.mono_l k
 unfold laws_FnDecMod.f
 repeat' first
   | (with_reducible exact ih0 _ _ _ _ _ _ _ _ _ _ _)
   | (with_reducible exact impl_DecCmp.mono _ _ _ _ _)
   | (with_reducible exact impl_DecMod.mono _ _ _ _ _)
   | (with_reducible exact spec_DecMod.mono _ _ _ _ _)
   | (with_reducible exact spec_DrawDecMod.mono _ _)
   | (with_reducible exact LeO.refl _)
   | (with_reducible exact LeO.none _)
   | (with_reducible refine LeO.ite ?_ ?_)
   | (with_reducible refine LeO.bind ?_ (fun _ => ?_))
   | exact ih0 _ _ _ _ _ _ _ _ _ _ _
   | exact impl_DecCmp.mono _ _ _ _ _
   | exact impl_DecMod.mono _ _ _ _ _
   | exact spec_DecMod.mono _ _ _ _ _
   | exact spec_DrawDecMod.mono _ _
   | exact LeO.none _
   | refine LeO.ite ?_ ?_
   | refine LeO.bind ?_ (fun _ => ?_)
def laws_FnDecMod.T9 : Bool × List (List Nat × List Nat) := (true, [([], []), ([0], [0]), ([], []), ([2, 1], [2]), ([1, 3, 3], [1, 3]), ([4], [4]), ([5, 4], [5]), ([6], [6]), ([7, 6], [6, 7]), ([8, 6], [6, 8]), ([9, 6, 6], [6, 9]), ([10], [10]), ([11, 10], [10, 11]), ([12, 10], [10, 12]), ([10], [10]), ([14, 10], [10, 14]), ([15, 10], [10, 15]), ([13, 16, 10], [10, 13, 16]), ([10, 17, 6], [6, 10, 17]), ([6, 18], [6, 18]), ([19, 10], [19]), ([20], [20]), ([20, 21], [20, 21]), ([22, 20], [22]), ([23], [23]), ([23], [23]), ([24, 25, 23], [23, 24, 25]), ([23, 26], [23, 26]), ([27, 23, 0, 1, 2, 3, 4, 5, 6, 7, 8, 9, 10, 11, 12, 13, 14, 15, 16, 17, 18, 19, 20, 21, 22, 23, 24, 25, 26, 27], [27])])
def laws_FnDecMod.B9 : List Nat := [0, 1, 0, 7, 15, 31, 63, 127, 255, 511, 1023, 2047, 4095, 8191, 2047, 18431, 51199, 131071, 262143, 524287, 1048575, 2097151, 4194303, 8388607, 16777215, 16777215, 67108863, 134217727, 268435455]
theorem laws_FnDecMod.tab9 : rtab .any (opsOf Try.f12 9) = laws_FnDecMod.T9 := by kernel_rfl
theorem laws_FnDecMod.bits9 : waitsOk laws_FnDecMod.T9.2 laws_FnDecMod.B9 = true := by kernel_rfl
set_option maxHeartbeats 8000000 in
set_option maxRecDepth 100000 in
theorem laws_FnDecMod.calls (k : Nat) (A0 : Option Addr) (c0 : Nat) (l0 : List Int) (r : Bool) (w : World) (hr0 : Kd.C (Kd.int .u8) w A0 l0.length l0) (hc0 : l0.length ≤ c0) (h : laws_FnDecMod.f k l0 = some r) :
  Calls Try.prog 12 #[.slice A0 l0.length c0] w fun e w' => e = .returned (.bool r) ∧ Below w.heap.size w w' := by
 have hu26 := Try.underlying26
 have HR0 := zA hr0
 have HC0 := zA hc0
 clear hr0 hc0
 have HB := zA (Below.refl w.heap.size w)
 have H : (if (l0.length : Int) > 1048576 then (some true) else ((spec_DrawDecMod.f k l0).bind fun bt744 => ((impl_DecMod.f k bt744.1 bt744.2.1 bt744.2.2.1 bt744.2.2.2).bind fun bt750 => ((spec_DecMod.f k bt744.1 bt744.2.1 bt744.2.2.1 bt744.2.2.2).bind fun bt754 => (if (!(bt750.1 == bt754.1) || (!(bt750.2.1 == bt754.2.1))) = true then (laws_FnDecMod.j0 k bt750.2.2 bt754.2.2 true bt744.1 bt744.2.1 bt744.2.2.1 bt744.2.2.2 bt750.1 bt750.2.1 bt754.1 bt754.2.1) else (if (bt750.2.2 != bt754.2.2) = true then (laws_FnDecMod.j0 k bt750.2.2 bt754.2.2 true bt744.1 bt744.2.1 bt744.2.2.1 bt744.2.2.2 bt750.1 bt750.2.1 bt754.1 bt754.2.1) else (laws_FnDecMod.j0 k bt750.2.2 bt754.2.2 (!bt750.2.2) bt744.1 bt744.2.1 bt744.2.2.1 bt744.2.2.2 bt750.1 bt750.2.1 bt754.1 bt754.2.1))))))) = some r := h
 clear h
 by_cases c2 : (l0.length : Int) > 1048576
 ·rw [if_pos c2] at H
  have c2b0 : decide (1048576 < (l0.length : Int)) = true := decide_eq_true c2
  have c2b1 : decide (1048576 < l0.length) = true := decide_eq_true (by omega)
  clear c2
  obtain rfl := Option.some.inj H
  go_enter Try.func12, Try.ntmps12
  go_wp2
  go_ret
  exact ⟨by first | rfl | (simp [errW_none, errW_some] <;> rfl) | (simp [*, errW_none, errW_some] <;> rfl), by repeat (first | (with_reducible first | exact HB.out | apply zG | apply zE | apply zF) | exact HB.out)⟩
 ·rw [if_neg c2] at H
  have c2b0 : decide (1048576 < (l0.length : Int)) = false := decide_eq_false c2
  have c2b1 : decide (1048576 < l0.length) = false := decide_eq_false (by omega)
  clear c2
  replace H := Option.bind_eq_some_iff.mp H
  obtain ⟨⟨t744, t745, t746, t747⟩, A30, H⟩ := H
  replace H : ((impl_DecMod.f k t744 t745 t746 t747).bind fun bt750 => ((spec_DecMod.f k t744 t745 t746 t747).bind fun bt754 => (if (!(bt750.1 == bt754.1) || (!(bt750.2.1 == bt754.2.1))) = true then (laws_FnDecMod.j0 k bt750.2.2 bt754.2.2 true t744 t745 t746 t747 bt750.1 bt750.2.1 bt754.1 bt754.2.1) else (if (bt750.2.2 != bt754.2.2) = true then (laws_FnDecMod.j0 k bt750.2.2 bt754.2.2 true t744 t745 t746 t747 bt750.1 bt750.2.1 bt754.1 bt754.2.1) else (laws_FnDecMod.j0 k bt750.2.2 bt754.2.2 (!bt750.2.2) t744 t745 t746 t747 bt750.1 bt750.2.1 bt754.1 bt754.2.1))))) = some r := H
  have A3 := zA A30
  clear A30
  replace H := Option.bind_eq_some_iff.mp H
  obtain ⟨⟨t750, t751, t752⟩, A40, H⟩ := H
  replace H : ((spec_DecMod.f k t744 t745 t746 t747).bind fun bt754 => (if (!(t750 == bt754.1) || (!(t751 == bt754.2.1))) = true then (laws_FnDecMod.j0 k t752 bt754.2.2 true t744 t745 t746 t747 t750 t751 bt754.1 bt754.2.1) else (if (t752 != bt754.2.2) = true then (laws_FnDecMod.j0 k t752 bt754.2.2 true t744 t745 t746 t747 t750 t751 bt754.1 bt754.2.1) else (laws_FnDecMod.j0 k t752 bt754.2.2 (!t752) t744 t745 t746 t747 t750 t751 bt754.1 bt754.2.1)))) = some r := H
  have A4 := zA A40
  clear A40
  replace H := Option.bind_eq_some_iff.mp H
  obtain ⟨⟨t754, t755, t756⟩, A50, H⟩ := H
  replace H : (if (!(t750 == t754) || (!(t751 == t755))) = true then (laws_FnDecMod.j0 k t752 t756 true t744 t745 t746 t747 t750 t751 t754 t755) else (if (t752 != t756) = true then (laws_FnDecMod.j0 k t752 t756 true t744 t745 t746 t747 t750 t751 t754 t755) else (laws_FnDecMod.j0 k t752 t756 (!t752) t744 t745 t746 t747 t750 t751 t754 t755))) = some r := H
  have A5 := zA A50
  clear A50
  have HC6 := zA H
  clear H
  go_enter Try.func12, Try.ntmps12
  go_upto_region 6 with (first | ((with_reducible refine zT (f := 40) rfl ?_); refine goesL_ (some 16) rfl rfl Try.func40 (by kernel_rfl) rfl #[.slice A0 l0.length c0] rfl (by (try simp only [zW, yA, yB]); first | done | rfl | (simp only [zX, zZ]; rfl)) ?_; (with_reducible refine (spec_DrawDecMod.calls k _ _ l0 t744 t745 t746 t747 _ ?side1 ?side2 A3.out).mono ?_); (case side1 => repeat (first | exact HR0.out | (with_reducible refine Kd.C_alloc ?_ _) | (with_reducible refine Kd.C_drewN ?_ _) | (with_reducible refine Kd.C_drew ?_))); (case side2 => exact HC0.out); rintro e w7 ⟨rfl, hb⟩; refine ⟨_, rfl, ?_⟩; have n0_ := zA (zQ (by repeat (first | (with_reducible first | exact HB.out | apply zG | apply zE | apply zF) | exact HB.out)) hb); clear HB; have HB := n0_; clear n0_; (try clear hb); (try clear hb2); (try clear hk); (try clear hi)) | ((with_reducible refine zS (N := 3) rfl ?_); refine zV ?hg (N := 3) ?hd (cs := #[.int .i64 0, .int .i64 0]) (t := 26) ?hr ?_; (case hd => rfl); (case hg => rfl); (case hr => first | (go_simp; done) | (go_simp; rfl)); intro gb748 hg w8 hbox hb; have n0_ := zA (zQ (by repeat (first | (with_reducible first | exact HB.out | apply zG | apply zE | apply zF) | exact HB.out)) hb); have n1_ := zA (hbox); have n2_ := zA ((by rw [hg]; exact (zR (by repeat (first | (with_reducible first | exact HB.out | apply zG | apply zE | apply zF) | exact HB.out))) : w.heap.size ≤ gb748)); have n3_ := zA ((by rw [hg]; exact (zR (by repeat (first | (with_reducible first | exact HB.out | apply zG | apply zE | apply zF) | exact HB.out))) : w.heap.size ≤ gb748)); clear HB; have HB := n0_; have BK748 := n1_; have GW748 := n2_; have GE748 := n3_; clear n0_ n1_ n2_ n3_; clear hb hbox hg) | ((with_reducible refine zS (N := 4) rfl ?_); refine zV ?hg (N := 4) ?hd (cs := #[.int .i64 0, .int .i64 0]) (t := 26) ?hr ?_; (case hd => rfl); (case hg => rfl); (case hr => first | (go_simp; done) | (go_simp; rfl)); intro gb749 hg w9 hbox hb; have n0_ := zA (zP (g := gb748) (o := .cells #[.int .i64 0, .int .i64 0] 26 (0, 0)) (by (with_reducible repeat (first | refine zB ?_ _ | refine zD ?_ | refine zC ?_ _)); exact BK748.out) hb); have n1_ := zA (zQ (by repeat (first | (with_reducible first | exact HB.out | apply zG | apply zE | apply zF | refine zH ?_ GE748.out) | exact HB.out)) hb); have n2_ := zA (hbox); have n3_ := zA ((by rw [hg]; exact (zR (by repeat (first | (with_reducible first | exact HB.out | apply zG | apply zE | apply zF | refine zH ?_ GE748.out) | exact HB.out))) : w.heap.size ≤ gb749)); have n4_ := zA ((by rw [hg]; exact (zR (by repeat (first | (with_reducible first | exact HB.out | apply zG | apply zE | apply zF | refine zH ?_ GE748.out) | exact HB.out))) : w.heap.size ≤ gb749)); have n5_ := zA ((by rw [hg]; exact Nat.ne_of_lt (blk_lt (g := gb748) (o := .cells #[.int .i64 0, .int .i64 0] 26 (0, 0)) (by (with_reducible repeat (first | refine zB ?_ _ | refine zD ?_ | refine zC ?_ _)); exact BK748.out)) : gb748 ≠ gb749)); have n6_ := zA ((by rw [hg]; exact Nat.ne_of_gt (blk_lt (g := gb748) (o := .cells #[.int .i64 0, .int .i64 0] 26 (0, 0)) (by (with_reducible repeat (first | refine zB ?_ _ | refine zD ?_ | refine zC ?_ _)); exact BK748.out)) : gb749 ≠ gb748)); clear BK748; clear HB; have BK748 := n0_; have HB := n1_; have BK749 := n2_; have GW749 := n3_; have GE749 := n4_; have NB748_749 := n5_; have NB749_748 := n6_; clear n0_ n1_ n2_ n3_ n4_ n5_ n6_; clear hb hbox hg; have hnb10 := NB748_749.out; have hnc10 := NB749_748.out; have hcz11_0 : w9.cell? ⟨gb748, 0, none⟩ = some (.int .i64 0) := (zJ BK748.out 0).trans rfl; have hcz11_1 : w9.cell? ⟨gb748, 1, none⟩ = some (.int .i64 0) := (zJ BK748.out 1).trans rfl; have hfz11_0 := zK BK748.out 0; have hfz11_1 := zK BK748.out 1; have hcz12_0 : w9.cell? ⟨gb749, 0, none⟩ = some (.int .i64 0) := (zJ BK749.out 0).trans rfl; have hcz12_1 : w9.cell? ⟨gb749, 1, none⟩ = some (.int .i64 0) := (zJ BK749.out 1).trans rfl; have hfz12_0 := zK BK749.out 0; have hfz12_1 := zK BK749.out 1) | ((with_reducible refine zT (f := 41) rfl ?_); refine goesL_ (some 22) rfl rfl Try.func41 (by kernel_rfl) rfl #[.agg #[.int .i64 t744, .int .i64 t745], .agg #[.int .i64 t746, .int .i64 t747]] rfl (by (try simp only [zW, yA, yB]); first | done | rfl | (simp only [zX, zZ]; rfl)) ?_; (with_reducible refine (impl_DecMod.calls k t744 t745 t746 t747 t750 t751 t752 _ A4.out).mono ?_); rintro e w13 ⟨rfl, hb⟩; refine ⟨_, rfl, ?_⟩; have n0_ := zA (zP (g := gb748) (o := .cells #[.int .i64 t744, .int .i64 t745] 26 (0, 0)) (by (with_reducible repeat (first | refine zB ?_ _ | refine zD ?_ | refine zC ?_ _)); refine blk_far ?_ NB748_749.out _; (with_reducible repeat (first | refine zB ?_ _ | refine zD ?_ | refine zC ?_ _)); refine blk_far ?_ NB748_749.out _; (with_reducible repeat (first | refine zB ?_ _ | refine zD ?_ | refine zC ?_ _)); refine blk_put (cs := #[.int .i64 t744, .int .i64 0]) ?_ 1 _ rfl; (with_reducible repeat (first | refine zB ?_ _ | refine zD ?_ | refine zC ?_ _)); refine blk_put (cs := #[.int .i64 0, .int .i64 0]) ?_ 0 _ rfl; (with_reducible repeat (first | refine zB ?_ _ | refine zD ?_ | refine zC ?_ _)); exact BK748.out) hb); have n1_ := zA (zP (g := gb749) (o := .cells #[.int .i64 t746, .int .i64 t747] 26 (0, 0)) (by (with_reducible repeat (first | refine zB ?_ _ | refine zD ?_ | refine zC ?_ _)); refine blk_put (cs := #[.int .i64 t746, .int .i64 0]) ?_ 1 _ rfl; (with_reducible repeat (first | refine zB ?_ _ | refine zD ?_ | refine zC ?_ _)); refine blk_put (cs := #[.int .i64 0, .int .i64 0]) ?_ 0 _ rfl; (with_reducible repeat (first | refine zB ?_ _ | refine zD ?_ | refine zC ?_ _)); refine blk_far ?_ NB749_748.out _; (with_reducible repeat (first | refine zB ?_ _ | refine zD ?_ | refine zC ?_ _)); refine blk_far ?_ NB749_748.out _; (with_reducible repeat (first | refine zB ?_ _ | refine zD ?_ | refine zC ?_ _)); exact BK749.out) hb); have n2_ := zA (zQ (by repeat (first | (with_reducible first | exact HB.out | apply zG | apply zE | apply zF | refine zH ?_ GE748.out | refine zH ?_ GE749.out) | exact HB.out)) hb); clear BK748; clear BK749; clear HB; have BK748 := n0_; have BK749 := n1_; have HB := n2_; clear n0_ n1_ n2_; (try clear hb); (try clear hb2); (try clear hk); (try clear hi)) | ((with_reducible refine zS (N := 5) rfl ?_); refine zV ?hg (N := 5) ?hd (cs := #[.int .i64 0, .int .i64 0]) (t := 26) ?hr ?_; (case hd => rfl); (case hg => rfl); (case hr => first | (go_simp; done) | (go_simp; rfl)); intro gb753 hg w14 hbox hb; have n0_ := zA (zP (g := gb748) (o := .cells #[.int .i64 t744, .int .i64 t745] 26 (0, 0)) (by (with_reducible repeat (first | refine zB ?_ _ | refine zD ?_ | refine zC ?_ _)); exact BK748.out) hb); have n1_ := zA (zP (g := gb749) (o := .cells #[.int .i64 t746, .int .i64 t747] 26 (0, 0)) (by (with_reducible repeat (first | refine zB ?_ _ | refine zD ?_ | refine zC ?_ _)); exact BK749.out) hb); have n2_ := zA (zQ (by repeat (first | (with_reducible first | exact HB.out | apply zG | apply zE | apply zF | refine zH ?_ GE748.out | refine zH ?_ GE749.out) | exact HB.out)) hb); have n3_ := zA (hbox); have n4_ := zA ((by rw [hg]; exact (zR (by repeat (first | (with_reducible first | exact HB.out | apply zG | apply zE | apply zF | refine zH ?_ GE748.out | refine zH ?_ GE749.out) | exact HB.out))) : w.heap.size ≤ gb753)); have n5_ := zA ((by rw [hg]; exact (zR (by repeat (first | (with_reducible first | exact HB.out | apply zG | apply zE | apply zF | refine zH ?_ GE748.out | refine zH ?_ GE749.out) | exact HB.out))) : w.heap.size ≤ gb753)); have n6_ := zA ((by rw [hg]; exact Nat.ne_of_lt (blk_lt (g := gb748) (o := .cells #[.int .i64 t744, .int .i64 t745] 26 (0, 0)) (by (with_reducible repeat (first | refine zB ?_ _ | refine zD ?_ | refine zC ?_ _)); exact BK748.out)) : gb748 ≠ gb753)); have n7_ := zA ((by rw [hg]; exact Nat.ne_of_gt (blk_lt (g := gb748) (o := .cells #[.int .i64 t744, .int .i64 t745] 26 (0, 0)) (by (with_reducible repeat (first | refine zB ?_ _ | refine zD ?_ | refine zC ?_ _)); exact BK748.out)) : gb753 ≠ gb748)); have n8_ := zA ((by rw [hg]; exact Nat.ne_of_lt (blk_lt (g := gb749) (o := .cells #[.int .i64 t746, .int .i64 t747] 26 (0, 0)) (by (with_reducible repeat (first | refine zB ?_ _ | refine zD ?_ | refine zC ?_ _)); exact BK749.out)) : gb749 ≠ gb753)); have n9_ := zA ((by rw [hg]; exact Nat.ne_of_gt (blk_lt (g := gb749) (o := .cells #[.int .i64 t746, .int .i64 t747] 26 (0, 0)) (by (with_reducible repeat (first | refine zB ?_ _ | refine zD ?_ | refine zC ?_ _)); exact BK749.out)) : gb753 ≠ gb749)); clear BK748; clear BK749; clear HB; have BK748 := n0_; have BK749 := n1_; have HB := n2_; have BK753 := n3_; have GW753 := n4_; have GE753 := n5_; have NB748_753 := n6_; have NB753_748 := n7_; have NB749_753 := n8_; have NB753_749 := n9_; clear n0_ n1_ n2_ n3_ n4_ n5_ n6_ n7_ n8_ n9_; clear hb hbox hg; have hnb15 := NB753_748.out; have hnc15 := NB748_753.out; have hnb16 := NB753_749.out; have hnc16 := NB749_753.out; have hcz17_0 : w14.cell? ⟨gb753, 0, none⟩ = some (.int .i64 0) := (zJ BK753.out 0).trans rfl; have hcz17_1 : w14.cell? ⟨gb753, 1, none⟩ = some (.int .i64 0) := (zJ BK753.out 1).trans rfl; have hfz17_0 := zK BK753.out 0; have hfz17_1 := zK BK753.out 1; have hcz18_0 : w14.cell? ⟨gb748, 0, none⟩ = some (.int .i64 t744) := (zJ BK748.out 0).trans rfl; have hcz18_1 : w14.cell? ⟨gb748, 1, none⟩ = some (.int .i64 t745) := (zJ BK748.out 1).trans rfl; have hfz18_0 := zK BK748.out 0; have hfz18_1 := zK BK748.out 1; have hcz19_0 : w14.cell? ⟨gb749, 0, none⟩ = some (.int .i64 t746) := (zJ BK749.out 0).trans rfl; have hcz19_1 : w14.cell? ⟨gb749, 1, none⟩ = some (.int .i64 t747) := (zJ BK749.out 1).trans rfl; have hfz19_0 := zK BK749.out 0; have hfz19_1 := zK BK749.out 1) | ((with_reducible refine zT (f := 42) rfl ?_); refine goesL_ (some 28) rfl rfl Try.func42 (by kernel_rfl) rfl #[.agg #[.int .i64 t744, .int .i64 t745], .agg #[.int .i64 t746, .int .i64 t747]] rfl (by (try simp only [zW, yA, yB]); first | done | rfl | (simp only [zX, zZ]; rfl)) ?_; (with_reducible refine (spec_DecMod.calls k t744 t745 t746 t747 t754 t755 t756 _ A5.out).mono ?_); rintro e w20 ⟨rfl, hb⟩; refine ⟨_, rfl, ?_⟩; have n0_ := zA (zP (g := gb748) (o := .cells #[.int .i64 t744, .int .i64 t745] 26 (0, 0)) (by (with_reducible repeat (first | refine zB ?_ _ | refine zD ?_ | refine zC ?_ _)); refine blk_far ?_ NB748_753.out _; (with_reducible repeat (first | refine zB ?_ _ | refine zD ?_ | refine zC ?_ _)); refine blk_far ?_ NB748_753.out _; (with_reducible repeat (first | refine zB ?_ _ | refine zD ?_ | refine zC ?_ _)); exact BK748.out) hb); have n1_ := zA (zP (g := gb749) (o := .cells #[.int .i64 t746, .int .i64 t747] 26 (0, 0)) (by (with_reducible repeat (first | refine zB ?_ _ | refine zD ?_ | refine zC ?_ _)); refine blk_far ?_ NB749_753.out _; (with_reducible repeat (first | refine zB ?_ _ | refine zD ?_ | refine zC ?_ _)); refine blk_far ?_ NB749_753.out _; (with_reducible repeat (first | refine zB ?_ _ | refine zD ?_ | refine zC ?_ _)); exact BK749.out) hb); have n2_ := zA (zP (g := gb753) (o := .cells #[.int .i64 t750, .int .i64 t751] 26 (0, 0)) (by (with_reducible repeat (first | refine zB ?_ _ | refine zD ?_ | refine zC ?_ _)); refine blk_put (cs := #[.int .i64 t750, .int .i64 0]) ?_ 1 _ rfl; (with_reducible repeat (first | refine zB ?_ _ | refine zD ?_ | refine zC ?_ _)); refine blk_put (cs := #[.int .i64 0, .int .i64 0]) ?_ 0 _ rfl; (with_reducible repeat (first | refine zB ?_ _ | refine zD ?_ | refine zC ?_ _)); exact BK753.out) hb); have n3_ := zA (zQ (by repeat (first | (with_reducible first | exact HB.out | apply zG | apply zE | apply zF | refine zH ?_ GE748.out | refine zH ?_ GE749.out | refine zH ?_ GE753.out) | exact HB.out)) hb); clear BK748; clear BK749; clear BK753; clear HB; have BK748 := n0_; have BK749 := n1_; have BK753 := n2_; have HB := n3_; clear n0_ n1_ n2_ n3_; (try clear hb); (try clear hb2); (try clear hk); (try clear hi)) | ((with_reducible refine zS (N := 7) rfl ?_); refine zV ?hg (N := 7) ?hd (cs := #[.int .i64 0, .int .i64 0]) (t := 26) ?hr ?_; (case hd => rfl); (case hg => rfl); (case hr => first | (go_simp; done) | (go_simp; rfl)); intro gb757 hg w21 hbox hb; have n0_ := zA (zP (g := gb748) (o := .cells #[.int .i64 t744, .int .i64 t745] 26 (0, 0)) (by (with_reducible repeat (first | refine zB ?_ _ | refine zD ?_ | refine zC ?_ _)); exact BK748.out) hb); have n1_ := zA (zP (g := gb749) (o := .cells #[.int .i64 t746, .int .i64 t747] 26 (0, 0)) (by (with_reducible repeat (first | refine zB ?_ _ | refine zD ?_ | refine zC ?_ _)); exact BK749.out) hb); have n2_ := zA (zP (g := gb753) (o := .cells #[.int .i64 t750, .int .i64 t751] 26 (0, 0)) (by (with_reducible repeat (first | refine zB ?_ _ | refine zD ?_ | refine zC ?_ _)); exact BK753.out) hb); have n3_ := zA (zQ (by repeat (first | (with_reducible first | exact HB.out | apply zG | apply zE | apply zF | refine zH ?_ GE748.out | refine zH ?_ GE749.out | refine zH ?_ GE753.out) | exact HB.out)) hb); have n4_ := zA (hbox); have n5_ := zA ((by rw [hg]; exact (zR (by repeat (first | (with_reducible first | exact HB.out | apply zG | apply zE | apply zF | refine zH ?_ GE748.out | refine zH ?_ GE749.out | refine zH ?_ GE753.out) | exact HB.out))) : w.heap.size ≤ gb757)); have n6_ := zA ((by rw [hg]; exact (zR (by repeat (first | (with_reducible first | exact HB.out | apply zG | apply zE | apply zF | refine zH ?_ GE748.out | refine zH ?_ GE749.out | refine zH ?_ GE753.out) | exact HB.out))) : w.heap.size ≤ gb757)); have n7_ := zA ((by rw [hg]; exact Nat.ne_of_lt (blk_lt (g := gb748) (o := .cells #[.int .i64 t744, .int .i64 t745] 26 (0, 0)) (by (with_reducible repeat (first | refine zB ?_ _ | refine zD ?_ | refine zC ?_ _)); exact BK748.out)) : gb748 ≠ gb757)); have n8_ := zA ((by rw [hg]; exact Nat.ne_of_gt (blk_lt (g := gb748) (o := .cells #[.int .i64 t744, .int .i64 t745] 26 (0, 0)) (by (with_reducible repeat (first | refine zB ?_ _ | refine zD ?_ | refine zC ?_ _)); exact BK748.out)) : gb757 ≠ gb748)); have n9_ := zA ((by rw [hg]; exact Nat.ne_of_lt (blk_lt (g := gb749) (o := .cells #[.int .i64 t746, .int .i64 t747] 26 (0, 0)) (by (with_reducible repeat (first | refine zB ?_ _ | refine zD ?_ | refine zC ?_ _)); exact BK749.out)) : gb749 ≠ gb757)); have n10_ := zA ((by rw [hg]; exact Nat.ne_of_gt (blk_lt (g := gb749) (o := .cells #[.int .i64 t746, .int .i64 t747] 26 (0, 0)) (by (with_reducible repeat (first | refine zB ?_ _ | refine zD ?_ | refine zC ?_ _)); exact BK749.out)) : gb757 ≠ gb749)); have n11_ := zA ((by rw [hg]; exact Nat.ne_of_lt (blk_lt (g := gb753) (o := .cells #[.int .i64 t750, .int .i64 t751] 26 (0, 0)) (by (with_reducible repeat (first | refine zB ?_ _ | refine zD ?_ | refine zC ?_ _)); exact BK753.out)) : gb753 ≠ gb757)); have n12_ := zA ((by rw [hg]; exact Nat.ne_of_gt (blk_lt (g := gb753) (o := .cells #[.int .i64 t750, .int .i64 t751] 26 (0, 0)) (by (with_reducible repeat (first | refine zB ?_ _ | refine zD ?_ | refine zC ?_ _)); exact BK753.out)) : gb757 ≠ gb753)); clear BK748; clear BK749; clear BK753; clear HB; have BK748 := n0_; have BK749 := n1_; have BK753 := n2_; have HB := n3_; have BK757 := n4_; have GW757 := n5_; have GE757 := n6_; have NB748_757 := n7_; have NB757_748 := n8_; have NB749_757 := n9_; have NB757_749 := n10_; have NB753_757 := n11_; have NB757_753 := n12_; clear n0_ n1_ n2_ n3_ n4_ n5_ n6_ n7_ n8_ n9_ n10_ n11_ n12_; clear hb hbox hg; have hnb22 := NB757_748.out; have hnc22 := NB748_757.out; have hnb23 := NB757_749.out; have hnc23 := NB749_757.out; have hnb24 := NB757_753.out; have hnc24 := NB753_757.out; have hcz25_0 : w21.cell? ⟨gb757, 0, none⟩ = some (.int .i64 0) := (zJ BK757.out 0).trans rfl; have hcz25_1 : w21.cell? ⟨gb757, 1, none⟩ = some (.int .i64 0) := (zJ BK757.out 1).trans rfl; have hfz25_0 := zK BK757.out 0; have hfz25_1 := zK BK757.out 1))
  (try simp only [Act.put, zL, zM, zN])
  go_cut [42] (fun v42 wc => ∃ (kq : Nat) (x42_5 : Bool), v42 = .bool x42_5 ∧ Aside0 (laws_FnDecMod.j0 kq t752 t756 x42_5 t744 t745 t746 t747 t750 t751 t754 t755 = some r) ∧ Aside0 (kq ≤ k) ∧ Aside0 (wc.heap[gb748]? = some (.cells #[.int .i64 t744, .int .i64 t745] 26 (0, 0))) ∧ Aside0 (wc.heap[gb749]? = some (.cells #[.int .i64 t746, .int .i64 t747] 26 (0, 0))) ∧ Aside0 (wc.heap[gb753]? = some (.cells #[.int .i64 t750, .int .i64 t751] 26 (0, 0))) ∧ Aside0 (wc.heap[gb757]? = some (.cells #[.int .i64 t754, .int .i64 t755] 26 (0, 0))) ∧ Aside0 (Below w.heap.size w wc))
  case first =>
   have H := HC6.out
   clear HC6
   by_cases c26 : (!(t750 == t754) || (!(t751 == t755))) = true
   ·rw [if_pos c26] at H
    have c26b0 : (!(t750 == t754) || (!(t751 == t755))) = true := c26
    clear c26
    (first | rw [c26b0] | (simp only [i64_w, i32_w]; rw [c26b0]) | skip)
    have H' := zA H
    clear H
    have hnb27 := NB753_748.out
    have hnc27 := NB748_753.out
    have hnb28 := NB753_749.out
    have hnc28 := NB749_753.out
    have hnb29 := NB753_757.out
    have hnc29 := NB757_753.out
    have hcz30_0 : w21.cell? ⟨gb753, 0, none⟩ = some (.int .i64 t750) := (zJ BK753.out 0).trans rfl
    have hcz30_1 : w21.cell? ⟨gb753, 1, none⟩ = some (.int .i64 t751) := (zJ BK753.out 1).trans rfl
    have hfz30_0 := zK BK753.out 0
    have hfz30_1 := zK BK753.out 1
    have hnb31 := NB757_748.out
    have hnc31 := NB748_757.out
    have hnb32 := NB757_749.out
    have hnc32 := NB749_757.out
    have hcz33_0 : w21.cell? ⟨gb757, 0, none⟩ = some (.int .i64 0) := (zJ BK757.out 0).trans rfl
    have hcz33_1 : w21.cell? ⟨gb757, 1, none⟩ = some (.int .i64 0) := (zJ BK757.out 1).trans rfl
    have hfz33_0 := zK BK757.out 0
    have hfz33_1 := zK BK757.out 1
    go_wp2
    go_meet
    case rel => exact ⟨_, (true), (by first | rfl | (simp; done) | (simp [*]; done)), H', ⟨by first | omega | exact Nat.le_refl _⟩, ⟨by (with_reducible repeat (first | refine zB ?_ _ | refine zD ?_ | refine zC ?_ _)); refine blk_far ?_ NB748_757.out _; (with_reducible repeat (first | refine zB ?_ _ | refine zD ?_ | refine zC ?_ _)); refine blk_far ?_ NB748_757.out _; (with_reducible repeat (first | refine zB ?_ _ | refine zD ?_ | refine zC ?_ _)); exact BK748.out⟩, ⟨by (with_reducible repeat (first | refine zB ?_ _ | refine zD ?_ | refine zC ?_ _)); refine blk_far ?_ NB749_757.out _; (with_reducible repeat (first | refine zB ?_ _ | refine zD ?_ | refine zC ?_ _)); refine blk_far ?_ NB749_757.out _; (with_reducible repeat (first | refine zB ?_ _ | refine zD ?_ | refine zC ?_ _)); exact BK749.out⟩, ⟨by (with_reducible repeat (first | refine zB ?_ _ | refine zD ?_ | refine zC ?_ _)); refine blk_far ?_ NB753_757.out _; (with_reducible repeat (first | refine zB ?_ _ | refine zD ?_ | refine zC ?_ _)); refine blk_far ?_ NB753_757.out _; (with_reducible repeat (first | refine zB ?_ _ | refine zD ?_ | refine zC ?_ _)); exact BK753.out⟩, ⟨by (with_reducible repeat (first | refine zB ?_ _ | refine zD ?_ | refine zC ?_ _)); refine blk_put (cs := #[.int .i64 t754, .int .i64 0]) ?_ 1 _ rfl; (with_reducible repeat (first | refine zB ?_ _ | refine zD ?_ | refine zC ?_ _)); refine blk_put (cs := #[.int .i64 0, .int .i64 0]) ?_ 0 _ rfl; (with_reducible repeat (first | refine zB ?_ _ | refine zD ?_ | refine zC ?_ _)); exact BK757.out⟩, ⟨by repeat (first | (with_reducible first | exact HB.out | apply zG | apply zE | apply zF | refine zH ?_ GE748.out | refine zH ?_ GE749.out | refine zH ?_ GE753.out | refine zH ?_ GE757.out) | exact HB.out)⟩⟩
   ·rw [if_neg c26] at H
    have c26b0 : (!(t750 == t754) || (!(t751 == t755))) = false := by simpa using c26
    clear c26
    (first | rw [c26b0] | (simp only [i64_w, i32_w]; rw [c26b0]) | skip)
    by_cases c34 : (t752 != t756) = true
    ·rw [if_pos c34] at H
     have c34b0 : (t752 != t756) = true := c34
     (try (have c34b1 : decide (t752 = t756) = false := by simpa using c34))
     (try (have c34b2 : (t752 == t756) = false := by simpa using c34))
     (try (have c34b3 : ¬ (t752 = t756) := by simpa using c34))
     clear c34
     have H' := zA H
     clear H
     have hnb35 := NB753_748.out
     have hnc35 := NB748_753.out
     have hnb36 := NB753_749.out
     have hnc36 := NB749_753.out
     have hnb37 := NB753_757.out
     have hnc37 := NB757_753.out
     have hcz38_0 : w21.cell? ⟨gb753, 0, none⟩ = some (.int .i64 t750) := (zJ BK753.out 0).trans rfl
     have hcz38_1 : w21.cell? ⟨gb753, 1, none⟩ = some (.int .i64 t751) := (zJ BK753.out 1).trans rfl
     have hfz38_0 := zK BK753.out 0
     have hfz38_1 := zK BK753.out 1
     have hnb39 := NB757_748.out
     have hnc39 := NB748_757.out
     have hnb40 := NB757_749.out
     have hnc40 := NB749_757.out
     have hcz41_0 : w21.cell? ⟨gb757, 0, none⟩ = some (.int .i64 0) := (zJ BK757.out 0).trans rfl
     have hcz41_1 : w21.cell? ⟨gb757, 1, none⟩ = some (.int .i64 0) := (zJ BK757.out 1).trans rfl
     have hfz41_0 := zK BK757.out 0
     have hfz41_1 := zK BK757.out 1
     go_wp2
     go_meet
     case rel => exact ⟨_, (true), (by first | rfl | (simp; done) | (simp [*]; done)), H', ⟨by first | omega | exact Nat.le_refl _⟩, ⟨by (with_reducible repeat (first | refine zB ?_ _ | refine zD ?_ | refine zC ?_ _)); refine blk_far ?_ NB748_757.out _; (with_reducible repeat (first | refine zB ?_ _ | refine zD ?_ | refine zC ?_ _)); refine blk_far ?_ NB748_757.out _; (with_reducible repeat (first | refine zB ?_ _ | refine zD ?_ | refine zC ?_ _)); exact BK748.out⟩, ⟨by (with_reducible repeat (first | refine zB ?_ _ | refine zD ?_ | refine zC ?_ _)); refine blk_far ?_ NB749_757.out _; (with_reducible repeat (first | refine zB ?_ _ | refine zD ?_ | refine zC ?_ _)); refine blk_far ?_ NB749_757.out _; (with_reducible repeat (first | refine zB ?_ _ | refine zD ?_ | refine zC ?_ _)); exact BK749.out⟩, ⟨by (with_reducible repeat (first | refine zB ?_ _ | refine zD ?_ | refine zC ?_ _)); refine blk_far ?_ NB753_757.out _; (with_reducible repeat (first | refine zB ?_ _ | refine zD ?_ | refine zC ?_ _)); refine blk_far ?_ NB753_757.out _; (with_reducible repeat (first | refine zB ?_ _ | refine zD ?_ | refine zC ?_ _)); exact BK753.out⟩, ⟨by (with_reducible repeat (first | refine zB ?_ _ | refine zD ?_ | refine zC ?_ _)); refine blk_put (cs := #[.int .i64 t754, .int .i64 0]) ?_ 1 _ rfl; (with_reducible repeat (first | refine zB ?_ _ | refine zD ?_ | refine zC ?_ _)); refine blk_put (cs := #[.int .i64 0, .int .i64 0]) ?_ 0 _ rfl; (with_reducible repeat (first | refine zB ?_ _ | refine zD ?_ | refine zC ?_ _)); exact BK757.out⟩, ⟨by repeat (first | (with_reducible first | exact HB.out | apply zG | apply zE | apply zF | refine zH ?_ GE748.out | refine zH ?_ GE749.out | refine zH ?_ GE753.out | refine zH ?_ GE757.out) | exact HB.out)⟩⟩
    ·rw [if_neg c34] at H
     have c34b0 : (t752 != t756) = false := by simpa using c34
     (try (have c34b1 : decide (t752 = t756) = true := by simpa using c34))
     (try (have c34b2 : (t752 == t756) = true := by simpa using c34))
     clear c34
     have H' := zA H
     clear H
     have hnb42 := NB753_748.out
     have hnc42 := NB748_753.out
     have hnb43 := NB753_749.out
     have hnc43 := NB749_753.out
     have hnb44 := NB753_757.out
     have hnc44 := NB757_753.out
     have hcz45_0 : w21.cell? ⟨gb753, 0, none⟩ = some (.int .i64 t750) := (zJ BK753.out 0).trans rfl
     have hcz45_1 : w21.cell? ⟨gb753, 1, none⟩ = some (.int .i64 t751) := (zJ BK753.out 1).trans rfl
     have hfz45_0 := zK BK753.out 0
     have hfz45_1 := zK BK753.out 1
     have hnb46 := NB757_748.out
     have hnc46 := NB748_757.out
     have hnb47 := NB757_749.out
     have hnc47 := NB749_757.out
     have hcz48_0 : w21.cell? ⟨gb757, 0, none⟩ = some (.int .i64 0) := (zJ BK757.out 0).trans rfl
     have hcz48_1 : w21.cell? ⟨gb757, 1, none⟩ = some (.int .i64 0) := (zJ BK757.out 1).trans rfl
     have hfz48_0 := zK BK757.out 0
     have hfz48_1 := zK BK757.out 1
     go_wp2
     go_meet
     case rel => exact ⟨_, (!t752), (by first | rfl | (simp; done) | (simp [*]; done)), H', ⟨by first | omega | exact Nat.le_refl _⟩, ⟨by (with_reducible repeat (first | refine zB ?_ _ | refine zD ?_ | refine zC ?_ _)); refine blk_far ?_ NB748_757.out _; (with_reducible repeat (first | refine zB ?_ _ | refine zD ?_ | refine zC ?_ _)); refine blk_far ?_ NB748_757.out _; (with_reducible repeat (first | refine zB ?_ _ | refine zD ?_ | refine zC ?_ _)); exact BK748.out⟩, ⟨by (with_reducible repeat (first | refine zB ?_ _ | refine zD ?_ | refine zC ?_ _)); refine blk_far ?_ NB749_757.out _; (with_reducible repeat (first | refine zB ?_ _ | refine zD ?_ | refine zC ?_ _)); refine blk_far ?_ NB749_757.out _; (with_reducible repeat (first | refine zB ?_ _ | refine zD ?_ | refine zC ?_ _)); exact BK749.out⟩, ⟨by (with_reducible repeat (first | refine zB ?_ _ | refine zD ?_ | refine zC ?_ _)); refine blk_far ?_ NB753_757.out _; (with_reducible repeat (first | refine zB ?_ _ | refine zD ?_ | refine zC ?_ _)); refine blk_far ?_ NB753_757.out _; (with_reducible repeat (first | refine zB ?_ _ | refine zD ?_ | refine zC ?_ _)); exact BK753.out⟩, ⟨by (with_reducible repeat (first | refine zB ?_ _ | refine zD ?_ | refine zC ?_ _)); refine blk_put (cs := #[.int .i64 t754, .int .i64 0]) ?_ 1 _ rfl; (with_reducible repeat (first | refine zB ?_ _ | refine zD ?_ | refine zC ?_ _)); refine blk_put (cs := #[.int .i64 0, .int .i64 0]) ?_ 0 _ rfl; (with_reducible repeat (first | refine zB ?_ _ | refine zD ?_ | refine zC ?_ _)); exact BK757.out⟩, ⟨by repeat (first | (with_reducible first | exact HB.out | apply zG | apply zE | apply zF | refine zH ?_ GE748.out | refine zH ?_ GE749.out | refine zH ?_ GE753.out | refine zH ?_ GE757.out) | exact HB.out)⟩⟩
  case rest =>
   clear HC6
   try clear c1
   try clear c2
   try clear c2b0
   try clear c2b1
   try clear p2
   try clear c3
   try clear c4
   try clear c10
   try clear c12
   try clear c15
   try clear c16
   try clear c22
   try clear c23
   try clear c24
   try clear c26
   try clear c26b0
   try clear c27
   try clear c28
   try clear c29
   try clear c31
   try clear c32
   try clear c34
   try clear c34b0
   try clear c34b1
   try clear c34b2
   try clear c35
   try clear c36
   try clear c37
   try clear c39
   try clear c40
   try clear c41
   try clear c42
   try clear c43
   try clear c44
   try clear c46
   try clear c47
   try clear hcz11_0
   try clear hcz11_1
   try clear hcz12_0
   try clear hcz12_1
   try clear hcz17_0
   try clear hcz17_1
   try clear hcz18_0
   try clear hcz18_1
   try clear hcz19_0
   try clear hcz19_1
   try clear hcz25_0
   try clear hcz25_1
   try clear hcz30_0
   try clear hcz30_1
   try clear hcz33_0
   try clear hcz33_1
   try clear hcz38_0
   try clear hcz38_1
   try clear hcz41_0
   try clear hcz41_1
   try clear hcz45_0
   try clear hcz45_1
   try clear hcz48_0
   try clear hcz48_1
   try clear hfz11_0
   try clear hfz11_1
   try clear hfz12_0
   try clear hfz12_1
   try clear hfz17_0
   try clear hfz17_1
   try clear hfz18_0
   try clear hfz18_1
   try clear hfz19_0
   try clear hfz19_1
   try clear hfz25_0
   try clear hfz25_1
   try clear hfz30_0
   try clear hfz30_1
   try clear hfz33_0
   try clear hfz33_1
   try clear hfz38_0
   try clear hfz38_1
   try clear hfz41_0
   try clear hfz41_1
   try clear hfz45_0
   try clear hfz45_1
   try clear hfz48_0
   try clear hfz48_1
   obtain ⟨kq, x42_5, rfl, HA, HJ5, BK748, BK749, BK753, BK757, HB⟩ := hcut
   cases kq with
   | zero => exact absurd HA.out (by simp [laws_FnDecMod.j0])
   | succ kj5 =>
    have H := HA.out
    clear HA
    simp only [laws_FnDecMod.j0] at H
    by_cases c49 : x42_5 = true
    ·subst c49
     have H1 : (if (t750 == t754 && (t751 == t755)) = true then (some (t752 == t756)) else (none)) = some r := by rw [if_pos rfl] at H; exact H
     clear H
     have H := H1
     clear H1
     by_cases c50 : (t750 == t754 && (t751 == t755)) = true
     ·rw [if_pos c50] at H
      have c50b0 : (t750 == t754 && (t751 == t755)) = true := c50
      (try (have c50b1 : decide (t750 = t754 && (t751 == t755)) = true := by simpa using c50))
      (try (have c50b2 : (t750 == t754 && (t751 == t755)) = true := by simpa using c50))
      clear c50
      obtain rfl := Option.some.inj H
      have hnb51 := NB753_748.out
      have hnc51 := NB748_753.out
      have hnb52 := NB753_749.out
      have hnc52 := NB749_753.out
      have hnb53 := NB753_757.out
      have hnc53 := NB757_753.out
      have hcz54_0 : wc.cell? ⟨gb753, 0, none⟩ = some (.int .i64 t750) := (zJ BK753.out 0).trans rfl
      have hcz54_1 : wc.cell? ⟨gb753, 1, none⟩ = some (.int .i64 t751) := (zJ BK753.out 1).trans rfl
      have hfz54_0 := zK BK753.out 0
      have hfz54_1 := zK BK753.out 1
      have hnb55 := NB757_748.out
      have hnc55 := NB748_757.out
      have hnb56 := NB757_749.out
      have hnc56 := NB749_757.out
      have hcz57_0 : wc.cell? ⟨gb757, 0, none⟩ = some (.int .i64 t754) := (zJ BK757.out 0).trans rfl
      have hcz57_1 : wc.cell? ⟨gb757, 1, none⟩ = some (.int .i64 t755) := (zJ BK757.out 1).trans rfl
      have hfz57_0 := zK BK757.out 0
      have hfz57_1 := zK BK757.out 1
      go_wp2
      go_ret
      exact ⟨by first | rfl | (simp [errW_none, errW_some] <;> rfl) | (simp [*, errW_none, errW_some] <;> rfl), by repeat (first | (with_reducible first | exact HB.out | apply zG | apply zE | apply zF | refine zH ?_ GE748.out | refine zH ?_ GE749.out | refine zH ?_ GE753.out | refine zH ?_ GE757.out) | exact HB.out)⟩
     ·rw [if_neg c50] at H
      exact absurd H (by simp)
    ·replace c49 := Bool.eq_false_iff.mpr c49
     subst c49
     have H1 : ((impl_DecMod.f kj5 t750 t751 t746 t747).bind fun bt758 => ((laws_chAbs.f t750 t751).bind fun bt762 => ((laws_chAbs.f t746 t747).bind fun bt764 => ((impl_DecCmp.f kj5 bt762.1 bt762.2 bt764.1 bt764.2).bind fun t766 => (if t766 < 0 then (if t750 = 0 then (if bt758.2.2 = true then (some (bt758.1 == t750 && (bt758.2.1 == t751))) else (none)) else (if ((decide (t750 < 0)) == (decide (t744 < 0))) = true then (if bt758.2.2 = true then (some (bt758.1 == t750 && (bt758.2.1 == t751))) else (none)) else (none))) else (none)))))) = some r := by rw [if_neg (show ¬ (false = true) by decide)] at H; exact H
     clear H
     have H := H1
     clear H1
     replace H := Option.bind_eq_some_iff.mp H
     obtain ⟨⟨t758, t759, t760⟩, A580, H⟩ := H
     replace H : ((laws_chAbs.f t750 t751).bind fun bt762 => ((laws_chAbs.f t746 t747).bind fun bt764 => ((impl_DecCmp.f kj5 bt762.1 bt762.2 bt764.1 bt764.2).bind fun t766 => (if t766 < 0 then (if t750 = 0 then (if t760 = true then (some (t758 == t750 && (t759 == t751))) else (none)) else (if ((decide (t750 < 0)) == (decide (t744 < 0))) = true then (if t760 = true then (some (t758 == t750 && (t759 == t751))) else (none)) else (none))) else (none))))) = some r := H
     have A58 := zA A580
     clear A580
     replace H := Option.bind_eq_some_iff.mp H
     obtain ⟨⟨t762, t763⟩, A590, H⟩ := H
     replace H : ((laws_chAbs.f t746 t747).bind fun bt764 => ((impl_DecCmp.f kj5 t762 t763 bt764.1 bt764.2).bind fun t766 => (if t766 < 0 then (if t750 = 0 then (if t760 = true then (some (t758 == t750 && (t759 == t751))) else (none)) else (if ((decide (t750 < 0)) == (decide (t744 < 0))) = true then (if t760 = true then (some (t758 == t750 && (t759 == t751))) else (none)) else (none))) else (none)))) = some r := H
     have A59 := zA A590
     clear A590
     replace H := Option.bind_eq_some_iff.mp H
     obtain ⟨⟨t764, t765⟩, A600, H⟩ := H
     replace H : ((impl_DecCmp.f kj5 t762 t763 t764 t765).bind fun t766 => (if t766 < 0 then (if t750 = 0 then (if t760 = true then (some (t758 == t750 && (t759 == t751))) else (none)) else (if ((decide (t750 < 0)) == (decide (t744 < 0))) = true then (if t760 = true then (some (t758 == t750 && (t759 == t751))) else (none)) else (none))) else (none))) = some r := H
     have A60 := zA A600
     clear A600
     replace H := Option.bind_eq_some_iff.mp H
     obtain ⟨t766, A610, H⟩ := H
     replace H : (if t766 < 0 then (if t750 = 0 then (if t760 = true then (some (t758 == t750 && (t759 == t751))) else (none)) else (if ((decide (t750 < 0)) == (decide (t744 < 0))) = true then (if t760 = true then (some (t758 == t750 && (t759 == t751))) else (none)) else (none))) else (none)) = some r := H
     have A61 := zA A610
     clear A610
     by_cases c62 : t766 < 0
     ·rw [if_pos c62] at H
      have c62b0 : decide (t766 < 0) = true := decide_eq_true c62
      clear c62
      by_cases c63 : t750 = 0
      ·rw [if_pos c63] at H
       have c63b0 : (t750 == 0) = true := beq_iff_eq.mpr c63
       have c63b1 : (t750 != 0) = false := bne_eq_false_iff_eq.mpr c63
       clear c63
       by_cases c64 : t760 = true
       ·subst c64
        have H1 : (some (t758 == t750 && (t759 == t751))) = some r := by rw [if_pos rfl] at H; exact H
        clear H
        have H := H1
        clear H1
        obtain rfl := Option.some.inj H
        have hnb65 := NB753_748.out
        have hnc65 := NB748_753.out
        have hnb66 := NB753_749.out
        have hnc66 := NB749_753.out
        have hnb67 := NB753_757.out
        have hnc67 := NB757_753.out
        have hcz68_0 : wc.cell? ⟨gb753, 0, none⟩ = some (.int .i64 t750) := (zJ BK753.out 0).trans rfl
        have hcz68_1 : wc.cell? ⟨gb753, 1, none⟩ = some (.int .i64 t751) := (zJ BK753.out 1).trans rfl
        have hfz68_0 := zK BK753.out 0
        have hfz68_1 := zK BK753.out 1
        have hnb69 := NB749_748.out
        have hnc69 := NB748_749.out
        have hnb70 := NB749_757.out
        have hnc70 := NB757_749.out
        have hcz71_0 : wc.cell? ⟨gb749, 0, none⟩ = some (.int .i64 t746) := (zJ BK749.out 0).trans rfl
        have hcz71_1 : wc.cell? ⟨gb749, 1, none⟩ = some (.int .i64 t747) := (zJ BK749.out 1).trans rfl
        have hfz71_0 := zK BK749.out 0
        have hfz71_1 := zK BK749.out 1
        try go_wp2_with (first | ((with_reducible refine zT (f := 41) rfl ?_); refine goesL_ (some 54) rfl rfl Try.func41 (by kernel_rfl) rfl #[.agg #[.int .i64 t750, .int .i64 t751], .agg #[.int .i64 t746, .int .i64 t747]] rfl (by (try simp only [zW, yA, yB]); first | done | rfl | (simp only [zX, zZ]; rfl)) ?_; (with_reducible refine (impl_DecMod.calls kj5 t750 t751 t746 t747 t758 t759 true _ A58.out).mono ?_); rintro e w72 ⟨rfl, hb⟩; refine ⟨_, rfl, ?_⟩; have n0_ := zA (zP (g := gb748) (o := .cells #[.int .i64 t744, .int .i64 t745] 26 (0, 0)) (by (with_reducible repeat (first | refine zB ?_ _ | refine zD ?_ | refine zC ?_ _)); exact BK748.out) hb); have n1_ := zA (zP (g := gb749) (o := .cells #[.int .i64 t746, .int .i64 t747] 26 (0, 0)) (by (with_reducible repeat (first | refine zB ?_ _ | refine zD ?_ | refine zC ?_ _)); exact BK749.out) hb); have n2_ := zA (zP (g := gb753) (o := .cells #[.int .i64 t750, .int .i64 t751] 26 (0, 0)) (by (with_reducible repeat (first | refine zB ?_ _ | refine zD ?_ | refine zC ?_ _)); exact BK753.out) hb); have n3_ := zA (zP (g := gb757) (o := .cells #[.int .i64 t754, .int .i64 t755] 26 (0, 0)) (by (with_reducible repeat (first | refine zB ?_ _ | refine zD ?_ | refine zC ?_ _)); exact BK757.out) hb); have n4_ := zA (zQ (by repeat (first | (with_reducible first | exact HB.out | apply zG | apply zE | apply zF | refine zH ?_ GE748.out | refine zH ?_ GE749.out | refine zH ?_ GE753.out | refine zH ?_ GE757.out) | exact HB.out)) hb); clear BK748; clear BK749; clear BK753; clear BK757; clear HB; have BK748 := n0_; have BK749 := n1_; have BK753 := n2_; have BK757 := n3_; have HB := n4_; clear n0_ n1_ n2_ n3_ n4_; (try clear hb); (try clear hb2); (try clear hk); (try clear hi)) | ((with_reducible refine zS (N := 9) rfl ?_); refine zV ?hg (N := 9) ?hd (cs := #[.int .i64 0, .int .i64 0]) (t := 26) ?hr ?_; (case hd => rfl); (case hg => rfl); (case hr => first | (go_simp; done) | (go_simp; rfl)); intro gb761 hg w73 hbox hb; have n0_ := zA (zP (g := gb748) (o := .cells #[.int .i64 t744, .int .i64 t745] 26 (0, 0)) (by (with_reducible repeat (first | refine zB ?_ _ | refine zD ?_ | refine zC ?_ _)); exact BK748.out) hb); have n1_ := zA (zP (g := gb749) (o := .cells #[.int .i64 t746, .int .i64 t747] 26 (0, 0)) (by (with_reducible repeat (first | refine zB ?_ _ | refine zD ?_ | refine zC ?_ _)); exact BK749.out) hb); have n2_ := zA (zP (g := gb753) (o := .cells #[.int .i64 t750, .int .i64 t751] 26 (0, 0)) (by (with_reducible repeat (first | refine zB ?_ _ | refine zD ?_ | refine zC ?_ _)); exact BK753.out) hb); have n3_ := zA (zP (g := gb757) (o := .cells #[.int .i64 t754, .int .i64 t755] 26 (0, 0)) (by (with_reducible repeat (first | refine zB ?_ _ | refine zD ?_ | refine zC ?_ _)); exact BK757.out) hb); have n4_ := zA (zQ (by repeat (first | (with_reducible first | exact HB.out | apply zG | apply zE | apply zF | refine zH ?_ GE748.out | refine zH ?_ GE749.out | refine zH ?_ GE753.out | refine zH ?_ GE757.out) | exact HB.out)) hb); have n5_ := zA (hbox); have n6_ := zA ((by rw [hg]; exact (zR (by repeat (first | (with_reducible first | exact HB.out | apply zG | apply zE | apply zF | refine zH ?_ GE748.out | refine zH ?_ GE749.out | refine zH ?_ GE753.out | refine zH ?_ GE757.out) | exact HB.out))) : w.heap.size ≤ gb761)); have n7_ := zA ((by rw [hg]; exact (zR (by repeat (first | (with_reducible first | exact HB.out | apply zG | apply zE | apply zF | refine zH ?_ GE748.out | refine zH ?_ GE749.out | refine zH ?_ GE753.out | refine zH ?_ GE757.out) | exact HB.out))) : w.heap.size ≤ gb761)); have n8_ := zA ((by rw [hg]; exact Nat.ne_of_lt (blk_lt (g := gb748) (o := .cells #[.int .i64 t744, .int .i64 t745] 26 (0, 0)) (by (with_reducible repeat (first | refine zB ?_ _ | refine zD ?_ | refine zC ?_ _)); exact BK748.out)) : gb748 ≠ gb761)); have n9_ := zA ((by rw [hg]; exact Nat.ne_of_gt (blk_lt (g := gb748) (o := .cells #[.int .i64 t744, .int .i64 t745] 26 (0, 0)) (by (with_reducible repeat (first | refine zB ?_ _ | refine zD ?_ | refine zC ?_ _)); exact BK748.out)) : gb761 ≠ gb748)); have n10_ := zA ((by rw [hg]; exact Nat.ne_of_lt (blk_lt (g := gb749) (o := .cells #[.int .i64 t746, .int .i64 t747] 26 (0, 0)) (by (with_reducible repeat (first | refine zB ?_ _ | refine zD ?_ | refine zC ?_ _)); exact BK749.out)) : gb749 ≠ gb761)); have n11_ := zA ((by rw [hg]; exact Nat.ne_of_gt (blk_lt (g := gb749) (o := .cells #[.int .i64 t746, .int .i64 t747] 26 (0, 0)) (by (with_reducible repeat (first | refine zB ?_ _ | refine zD ?_ | refine zC ?_ _)); exact BK749.out)) : gb761 ≠ gb749)); have n12_ := zA ((by rw [hg]; exact Nat.ne_of_lt (blk_lt (g := gb753) (o := .cells #[.int .i64 t750, .int .i64 t751] 26 (0, 0)) (by (with_reducible repeat (first | refine zB ?_ _ | refine zD ?_ | refine zC ?_ _)); exact BK753.out)) : gb753 ≠ gb761)); have n13_ := zA ((by rw [hg]; exact Nat.ne_of_gt (blk_lt (g := gb753) (o := .cells #[.int .i64 t750, .int .i64 t751] 26 (0, 0)) (by (with_reducible repeat (first | refine zB ?_ _ | refine zD ?_ | refine zC ?_ _)); exact BK753.out)) : gb761 ≠ gb753)); have n14_ := zA ((by rw [hg]; exact Nat.ne_of_lt (blk_lt (g := gb757) (o := .cells #[.int .i64 t754, .int .i64 t755] 26 (0, 0)) (by (with_reducible repeat (first | refine zB ?_ _ | refine zD ?_ | refine zC ?_ _)); exact BK757.out)) : gb757 ≠ gb761)); have n15_ := zA ((by rw [hg]; exact Nat.ne_of_gt (blk_lt (g := gb757) (o := .cells #[.int .i64 t754, .int .i64 t755] 26 (0, 0)) (by (with_reducible repeat (first | refine zB ?_ _ | refine zD ?_ | refine zC ?_ _)); exact BK757.out)) : gb761 ≠ gb757)); clear BK748; clear BK749; clear BK753; clear BK757; clear HB; have BK748 := n0_; have BK749 := n1_; have BK753 := n2_; have BK757 := n3_; have HB := n4_; have BK761 := n5_; have GW761 := n6_; have GE761 := n7_; have NB748_761 := n8_; have NB761_748 := n9_; have NB749_761 := n10_; have NB761_749 := n11_; have NB753_761 := n12_; have NB761_753 := n13_; have NB757_761 := n14_; have NB761_757 := n15_; clear n0_ n1_ n2_ n3_ n4_ n5_ n6_ n7_ n8_ n9_ n10_ n11_ n12_ n13_ n14_ n15_; clear hb hbox hg; have hnb74 := NB761_748.out; have hnc74 := NB748_761.out; have hnb75 := NB761_749.out; have hnc75 := NB749_761.out; have hnb76 := NB761_753.out; have hnc76 := NB753_761.out; have hnb77 := NB761_757.out; have hnc77 := NB757_761.out; have hcz78_0 : w73.cell? ⟨gb761, 0, none⟩ = some (.int .i64 0) := (zJ BK761.out 0).trans rfl; have hcz78_1 : w73.cell? ⟨gb761, 1, none⟩ = some (.int .i64 0) := (zJ BK761.out 1).trans rfl; have hfz78_0 := zK BK761.out 0; have hfz78_1 := zK BK761.out 1))
        have n0_ : Aside0 (((w73.setCell ⟨gb761, 0, none⟩ (.int .i64 t758)).setCell ⟨gb761, 1, none⟩ (.int .i64 t759)).heap[gb748]? = some (.cells #[.int .i64 t744, .int .i64 t745] 26 (0, 0))) := ⟨by (with_reducible repeat (first | refine zB ?_ _ | refine zD ?_ | refine zC ?_ _)); refine blk_far ?_ NB748_761.out _; (with_reducible repeat (first | refine zB ?_ _ | refine zD ?_ | refine zC ?_ _)); refine blk_far ?_ NB748_761.out _; (with_reducible repeat (first | refine zB ?_ _ | refine zD ?_ | refine zC ?_ _)); exact BK748.out⟩
        have n1_ : Aside0 (((w73.setCell ⟨gb761, 0, none⟩ (.int .i64 t758)).setCell ⟨gb761, 1, none⟩ (.int .i64 t759)).heap[gb749]? = some (.cells #[.int .i64 t746, .int .i64 t747] 26 (0, 0))) := ⟨by (with_reducible repeat (first | refine zB ?_ _ | refine zD ?_ | refine zC ?_ _)); refine blk_far ?_ NB749_761.out _; (with_reducible repeat (first | refine zB ?_ _ | refine zD ?_ | refine zC ?_ _)); refine blk_far ?_ NB749_761.out _; (with_reducible repeat (first | refine zB ?_ _ | refine zD ?_ | refine zC ?_ _)); exact BK749.out⟩
        have n2_ : Aside0 (((w73.setCell ⟨gb761, 0, none⟩ (.int .i64 t758)).setCell ⟨gb761, 1, none⟩ (.int .i64 t759)).heap[gb753]? = some (.cells #[.int .i64 t750, .int .i64 t751] 26 (0, 0))) := ⟨by (with_reducible repeat (first | refine zB ?_ _ | refine zD ?_ | refine zC ?_ _)); refine blk_far ?_ NB753_761.out _; (with_reducible repeat (first | refine zB ?_ _ | refine zD ?_ | refine zC ?_ _)); refine blk_far ?_ NB753_761.out _; (with_reducible repeat (first | refine zB ?_ _ | refine zD ?_ | refine zC ?_ _)); exact BK753.out⟩
        have n3_ : Aside0 (((w73.setCell ⟨gb761, 0, none⟩ (.int .i64 t758)).setCell ⟨gb761, 1, none⟩ (.int .i64 t759)).heap[gb757]? = some (.cells #[.int .i64 t754, .int .i64 t755] 26 (0, 0))) := ⟨by (with_reducible repeat (first | refine zB ?_ _ | refine zD ?_ | refine zC ?_ _)); refine blk_far ?_ NB757_761.out _; (with_reducible repeat (first | refine zB ?_ _ | refine zD ?_ | refine zC ?_ _)); refine blk_far ?_ NB757_761.out _; (with_reducible repeat (first | refine zB ?_ _ | refine zD ?_ | refine zC ?_ _)); exact BK757.out⟩
        have n4_ : Aside0 (((w73.setCell ⟨gb761, 0, none⟩ (.int .i64 t758)).setCell ⟨gb761, 1, none⟩ (.int .i64 t759)).heap[gb761]? = some (.cells #[.int .i64 t758, .int .i64 t759] 26 (0, 0))) := ⟨by (with_reducible repeat (first | refine zB ?_ _ | refine zD ?_ | refine zC ?_ _)); refine blk_put (cs := #[.int .i64 t758, .int .i64 0]) ?_ 1 _ rfl; (with_reducible repeat (first | refine zB ?_ _ | refine zD ?_ | refine zC ?_ _)); refine blk_put (cs := #[.int .i64 0, .int .i64 0]) ?_ 0 _ rfl; (with_reducible repeat (first | refine zB ?_ _ | refine zD ?_ | refine zC ?_ _)); exact BK761.out⟩
        have n5_ : Aside0 (Below w.heap.size w ((w73.setCell ⟨gb761, 0, none⟩ (.int .i64 t758)).setCell ⟨gb761, 1, none⟩ (.int .i64 t759))) := ⟨by repeat (first | (with_reducible first | exact HB.out | apply zG | apply zE | apply zF | refine zH ?_ GE748.out | refine zH ?_ GE749.out | refine zH ?_ GE753.out | refine zH ?_ GE757.out | refine zH ?_ GE761.out) | exact HB.out)⟩
        (try clear BK748)
        (try clear BK749)
        (try clear BK753)
        (try clear BK757)
        (try clear BK761)
        (try clear HB)
        generalize ((w73.setCell ⟨gb761, 0, none⟩ (.int .i64 t758)).setCell ⟨gb761, 1, none⟩ (.int .i64 t759)) = w79 at n0_ n1_ n2_ n3_ n4_ n5_ ⊢
        have BK748 := n0_
        have BK749 := n1_
        have BK753 := n2_
        have BK757 := n3_
        have BK761 := n4_
        have HB := n5_
        clear n0_ n1_ n2_ n3_ n4_ n5_
        have n0_ := zA (zD BK748.out)
        have n1_ := zA (zD BK749.out)
        have n2_ := zA (zD BK753.out)
        have n3_ := zA (zD BK757.out)
        have n4_ := zA (zD BK761.out)
        have n5_ := zA (zF HB.out)
        clear BK748
        clear BK749
        clear BK753
        clear BK757
        clear BK761
        clear HB
        have BK748 := n0_
        have BK749 := n1_
        have BK753 := n2_
        have BK757 := n3_
        have BK761 := n4_
        have HB := n5_
        clear n0_ n1_ n2_ n3_ n4_ n5_
        refine start_ (n := 29) (S := fun w' => w'.cell? ⟨gb753, 0, none⟩ = some (.int .i64 t750) ∧ w'.cell? ⟨gb753, 1, none⟩ = some (.int .i64 t751) ∧ w'.cell? ⟨gb749, 0, none⟩ = some (.int .i64 t746) ∧ w'.cell? ⟨gb749, 1, none⟩ = some (.int .i64 t747) ∧ w'.cell? ⟨gb761, 0, none⟩ = some (.int .i64 t758) ∧ w'.cell? ⟨gb761, 1, none⟩ = some (.int .i64 t759)) (ds := []) #[false, false, false, false, false, false, false, false, false, false, false, false, false, false, false, false, false, false, false, false, false, false, false, false, false, false, false, false, false] (by kernel_rfl) rfl rfl ⟨(zJ BK753.out 0).trans rfl, (zJ BK753.out 1).trans rfl, (zJ BK749.out 0).trans rfl, (zJ BK749.out 1).trans rfl, (zJ BK761.out 0).trans rfl, (zJ BK761.out 1).trans rfl⟩ (fun hHeld => ?_); refine with_tabW laws_FnDecMod.tab9 laws_FnDecMod.bits9 (fun HT_ HW_ => ?_)
        generalize w79.drew = w80 at BK748 BK749 BK753 BK757 BK761 HB hHeld ⊢
        refine take_ (i := 0) (N := some 57) (v := ?_) (a' := ?_) #[true, false, false, false, false, false, false, false, false, false, false, false, false, false, false, false, false, false, false, false, false, false, false, false, false, false, false, false, false] rfl rfl (take_ofW HT_.out HW_.out (by kernel_rfl)) (fun _ _ _ h => h) (Or.inl ⟨by rfl, ?_⟩) hHeld ?_ ?_
        rotate_left
        ·rintro w' ⟨s0, s1, s2, s3, s4, s5⟩
         go_simp
         with_reducible rfl
        rotate_left
        ·simp only [Act.put, zL, zM, zN, i64_w, i32_w]
         rfl
        refine take_ (i := 2) (N := some 59) (v := ?_) (a' := ?_) #[true, false, true, false, false, false, false, false, false, false, false, false, false, false, false, false, false, false, false, false, false, false, false, false, false, false, false, false, false] rfl rfl (take_ofW HT_.out HW_.out (by kernel_rfl)) (fun _ _ _ h => h) (Or.inl ⟨by rfl, ?_⟩) hHeld ?_ ?_
        rotate_left
        ·rintro w' ⟨s0, s1, s2, s3, s4, s5⟩
         go_simp
         with_reducible rfl
        rotate_left
        ·simp only [Act.put, zL, zM, zN, i64_w, i32_w]
         rfl
        refine one_ (i := 1) (N := some 58) #[true, true, true, false, false, false, false, false, false, false, false, false, false, false, false, false, false, false, false, false, false, false, false, false, false, false, false, false, false] rfl rfl (one_of HT_.out (by kernel_rfl)) (by decide) (fun K hK => ?_)
        refine goes_ Try.func39 (by kernel_rfl) rfl #[.agg #[.int .i64 t750, .int .i64 t751]] (by rfl) rfl rfl (by (try simp only [zW, yA, yB]); first | done | rfl | (simp only [zX, zZ]; rfl)) ?_
        with_reducible refine (laws_chAbs.calls t750 t751 t762 t763 _ A59.out).mono ?_
        rintro e w81 ⟨rfl, hb⟩
        refine ⟨_, rfl, ?_⟩
        have n0_ := zA (zP (g := gb748) (o := .cells #[.int .i64 t744, .int .i64 t745] 26 (0, 0)) (by (with_reducible repeat (first | refine zB ?_ _ | refine zD ?_ | refine zC ?_ _)); exact BK748.out) hb)
        have n1_ := zA (zP (g := gb749) (o := .cells #[.int .i64 t746, .int .i64 t747] 26 (0, 0)) (by (with_reducible repeat (first | refine zB ?_ _ | refine zD ?_ | refine zC ?_ _)); exact BK749.out) hb)
        have n2_ := zA (zP (g := gb753) (o := .cells #[.int .i64 t750, .int .i64 t751] 26 (0, 0)) (by (with_reducible repeat (first | refine zB ?_ _ | refine zD ?_ | refine zC ?_ _)); exact BK753.out) hb)
        have n3_ := zA (zP (g := gb757) (o := .cells #[.int .i64 t754, .int .i64 t755] 26 (0, 0)) (by (with_reducible repeat (first | refine zB ?_ _ | refine zD ?_ | refine zC ?_ _)); exact BK757.out) hb)
        have n4_ := zA (zP (g := gb761) (o := .cells #[.int .i64 t758, .int .i64 t759] 26 (0, 0)) (by (with_reducible repeat (first | refine zB ?_ _ | refine zD ?_ | refine zC ?_ _)); exact BK761.out) hb)
        have n5_ := zA (zQ (by repeat (first | (with_reducible first | exact HB.out | apply zG | apply zE | apply zF | refine zH ?_ GE748.out | refine zH ?_ GE749.out | refine zH ?_ GE753.out | refine zH ?_ GE757.out | refine zH ?_ GE761.out) | exact HB.out)) hb)
        clear BK748
        clear BK749
        clear BK753
        clear BK757
        clear BK761
        clear HB
        have BK748 := n0_
        have BK749 := n1_
        have BK753 := n2_
        have BK757 := n3_
        have BK761 := n4_
        have HB := n5_
        clear n0_ n1_ n2_ n3_ n4_ n5_
        (try clear hb)
        (try clear hb2)
        (try clear hk)
        (try clear hi)
        refine hK.out _ _ ⟨(zJ BK753.out 0).trans rfl, (zJ BK753.out 1).trans rfl, (zJ BK749.out 0).trans rfl, (zJ BK749.out 1).trans rfl, (zJ BK761.out 0).trans rfl, (zJ BK761.out 1).trans rfl⟩ (fun hHeld => ?_)
        clear hK K
        refine norm_ (a' := ?_) ?_ ?_
        rotate_left
        ·show Act.put _ (some 58) _ = _
         simp only [Act.put, zL, zM, zN, i64_w, i32_w]
         rfl
        refine one_ (i := 3) (N := some 60) #[true, true, true, true, false, false, false, false, false, false, false, false, false, false, false, false, false, false, false, false, false, false, false, false, false, false, false, false, false] rfl rfl (one_of HT_.out (by kernel_rfl)) (by decide) (fun K hK => ?_)
        refine goes_ Try.func39 (by kernel_rfl) rfl #[.agg #[.int .i64 t746, .int .i64 t747]] (by rfl) rfl rfl (by (try simp only [zW, yA, yB]); first | done | rfl | (simp only [zX, zZ]; rfl)) ?_
        with_reducible refine (laws_chAbs.calls t746 t747 t764 t765 _ A60.out).mono ?_
        rintro e w82 ⟨rfl, hb⟩
        refine ⟨_, rfl, ?_⟩
        have n0_ := zA (zP (g := gb748) (o := .cells #[.int .i64 t744, .int .i64 t745] 26 (0, 0)) (by (with_reducible repeat (first | refine zB ?_ _ | refine zD ?_ | refine zC ?_ _)); exact BK748.out) hb)
        have n1_ := zA (zP (g := gb749) (o := .cells #[.int .i64 t746, .int .i64 t747] 26 (0, 0)) (by (with_reducible repeat (first | refine zB ?_ _ | refine zD ?_ | refine zC ?_ _)); exact BK749.out) hb)
        have n2_ := zA (zP (g := gb753) (o := .cells #[.int .i64 t750, .int .i64 t751] 26 (0, 0)) (by (with_reducible repeat (first | refine zB ?_ _ | refine zD ?_ | refine zC ?_ _)); exact BK753.out) hb)
        have n3_ := zA (zP (g := gb757) (o := .cells #[.int .i64 t754, .int .i64 t755] 26 (0, 0)) (by (with_reducible repeat (first | refine zB ?_ _ | refine zD ?_ | refine zC ?_ _)); exact BK757.out) hb)
        have n4_ := zA (zP (g := gb761) (o := .cells #[.int .i64 t758, .int .i64 t759] 26 (0, 0)) (by (with_reducible repeat (first | refine zB ?_ _ | refine zD ?_ | refine zC ?_ _)); exact BK761.out) hb)
        have n5_ := zA (zQ (by repeat (first | (with_reducible first | exact HB.out | apply zG | apply zE | apply zF | refine zH ?_ GE748.out | refine zH ?_ GE749.out | refine zH ?_ GE753.out | refine zH ?_ GE757.out | refine zH ?_ GE761.out) | exact HB.out)) hb)
        clear BK748
        clear BK749
        clear BK753
        clear BK757
        clear BK761
        clear HB
        have BK748 := n0_
        have BK749 := n1_
        have BK753 := n2_
        have BK757 := n3_
        have BK761 := n4_
        have HB := n5_
        clear n0_ n1_ n2_ n3_ n4_ n5_
        (try clear hb)
        (try clear hb2)
        (try clear hk)
        (try clear hi)
        refine hK.out _ _ ⟨(zJ BK753.out 0).trans rfl, (zJ BK753.out 1).trans rfl, (zJ BK749.out 0).trans rfl, (zJ BK749.out 1).trans rfl, (zJ BK761.out 0).trans rfl, (zJ BK761.out 1).trans rfl⟩ (fun hHeld => ?_)
        clear hK K
        refine norm_ (a' := ?_) ?_ ?_
        rotate_left
        ·show Act.put _ (some 60) _ = _
         simp only [Act.put, zL, zM, zN, i64_w, i32_w]
         rfl
        refine one_ (i := 4) (N := some 61) #[true, true, true, true, true, false, false, false, false, false, false, false, false, false, false, false, false, false, false, false, false, false, false, false, false, false, false, false, false] rfl rfl (one_of HT_.out (by kernel_rfl)) (by decide) (fun K hK => ?_)
        refine goes_ Try.func34 (by kernel_rfl) rfl #[.agg #[.int .i64 t762, .int .i64 t763], .agg #[.int .i64 t764, .int .i64 t765]] (by rfl) rfl rfl (by (try simp only [zW, yA, yB]); first | done | rfl | (simp only [zX, zZ]; rfl)) ?_
        with_reducible refine (impl_DecCmp.calls kj5 t762 t763 t764 t765 t766 _ A61.out).mono ?_
        rintro e w83 ⟨rfl, hb⟩
        refine ⟨_, rfl, ?_⟩
        have n0_ := zA (zP (g := gb748) (o := .cells #[.int .i64 t744, .int .i64 t745] 26 (0, 0)) (by (with_reducible repeat (first | refine zB ?_ _ | refine zD ?_ | refine zC ?_ _)); exact BK748.out) hb)
        have n1_ := zA (zP (g := gb749) (o := .cells #[.int .i64 t746, .int .i64 t747] 26 (0, 0)) (by (with_reducible repeat (first | refine zB ?_ _ | refine zD ?_ | refine zC ?_ _)); exact BK749.out) hb)
        have n2_ := zA (zP (g := gb753) (o := .cells #[.int .i64 t750, .int .i64 t751] 26 (0, 0)) (by (with_reducible repeat (first | refine zB ?_ _ | refine zD ?_ | refine zC ?_ _)); exact BK753.out) hb)
        have n3_ := zA (zP (g := gb757) (o := .cells #[.int .i64 t754, .int .i64 t755] 26 (0, 0)) (by (with_reducible repeat (first | refine zB ?_ _ | refine zD ?_ | refine zC ?_ _)); exact BK757.out) hb)
        have n4_ := zA (zP (g := gb761) (o := .cells #[.int .i64 t758, .int .i64 t759] 26 (0, 0)) (by (with_reducible repeat (first | refine zB ?_ _ | refine zD ?_ | refine zC ?_ _)); exact BK761.out) hb)
        have n5_ := zA (zQ (by repeat (first | (with_reducible first | exact HB.out | apply zG | apply zE | apply zF | refine zH ?_ GE748.out | refine zH ?_ GE749.out | refine zH ?_ GE753.out | refine zH ?_ GE757.out | refine zH ?_ GE761.out) | exact HB.out)) hb)
        clear BK748
        clear BK749
        clear BK753
        clear BK757
        clear BK761
        clear HB
        have BK748 := n0_
        have BK749 := n1_
        have BK753 := n2_
        have BK757 := n3_
        have BK761 := n4_
        have HB := n5_
        clear n0_ n1_ n2_ n3_ n4_ n5_
        (try clear hb)
        (try clear hb2)
        (try clear hk)
        (try clear hi)
        refine hK.out _ _ ⟨(zJ BK753.out 0).trans rfl, (zJ BK753.out 1).trans rfl, (zJ BK749.out 0).trans rfl, (zJ BK749.out 1).trans rfl, (zJ BK761.out 0).trans rfl, (zJ BK761.out 1).trans rfl⟩ (fun hHeld => ?_)
        clear hK K
        refine norm_ (a' := ?_) ?_ ?_
        rotate_left
        ·show Act.put _ (some 61) _ = _
         simp only [Act.put, zL, zM, zN, i64_w, i32_w]
         rfl
        refine pure_ (i := 5) (N := some 62) (v := ?_) (a' := ?_) #[true, true, true, true, true, true, false, false, false, false, false, false, false, false, false, false, false, false, false, false, false, false, false, false, false, false, false, false, false] rfl rfl (any_of HT_.out (by kernel_rfl)) (fun _ _ _ h => h) (Or.inl ⟨by rfl, ?_⟩) ?_ ?_
        rotate_left
        ·intro w'
         go_simp
         with_reducible rfl
        rotate_left
        ·simp only [Act.put, zL, zM, zN, i64_w, i32_w]
         rfl
        refine pure_ (i := 6) (N := some 63) (v := ?_) (a' := ?_) #[true, true, true, true, true, true, true, false, false, false, false, false, false, false, false, false, false, false, false, false, false, false, false, false, false, false, false, false, false] rfl rfl (any_of HT_.out (by kernel_rfl)) (fun _ _ _ h => h) (Or.inl ⟨by rfl, ?_⟩) ?_ ?_
        rotate_left
        ·intro w'
         go_simp
         with_reducible rfl
        rotate_left
        ·simp only [Act.put, zL, zM, zN, i64_w, i32_w]
         rfl
        refine pure_ (i := 7) (N := some 64) (v := ?_) (a' := ?_) #[true, true, true, true, true, true, true, true, false, false, false, false, false, false, false, false, false, false, false, false, false, false, false, false, false, false, false, false, false] rfl rfl (any_of HT_.out (by kernel_rfl)) (fun _ _ _ h => h) (Or.inl ⟨by rfl, ?_⟩) ?_ ?_
        rotate_left
        ·intro w'
         go_simp
         with_reducible rfl
        rotate_left
        ·simp only [Act.put, zL, zM, zN, i64_w, i32_w]
         rfl
        refine take_ (i := 8) (N := some 65) (v := ?_) (a' := ?_) #[true, true, true, true, true, true, true, true, true, false, false, false, false, false, false, false, false, false, false, false, false, false, false, false, false, false, false, false, false] rfl rfl (take_ofW HT_.out HW_.out (by kernel_rfl)) (fun _ _ _ h => h) (Or.inl ⟨by rfl, ?_⟩) hHeld ?_ ?_
        rotate_left
        ·rintro w' ⟨s0, s1, s2, s3, s4, s5⟩
         go_simp
         with_reducible rfl
        rotate_left
        ·simp only [Act.put, zL, zM, zN, i64_w, i32_w]
         rfl
        refine pure_ (i := 9) (N := some 66) (v := ?_) (a' := ?_) #[true, true, true, true, true, true, true, true, true, true, false, false, false, false, false, false, false, false, false, false, false, false, false, false, false, false, false, false, false] rfl rfl (any_of HT_.out (by kernel_rfl)) (fun _ _ _ h => h) (Or.inl ⟨by rfl, ?_⟩) ?_ ?_
        rotate_left
        ·intro w'
         go_simp
         with_reducible rfl
        rotate_left
        ·simp only [Act.put, zL, zM, zN, i64_w, i32_w]
         rfl
        refine pure_ (i := 10) (N := some 67) (v := ?_) (a' := ?_) #[true, true, true, true, true, true, true, true, true, true, true, false, false, false, false, false, false, false, false, false, false, false, false, false, false, false, false, false, false] rfl rfl (any_of HT_.out (by kernel_rfl)) (fun _ _ _ h => h) (Or.inl ⟨by rfl, ?_⟩) ?_ ?_
        rotate_left
        ·intro w'
         go_simp
         with_reducible rfl
        rotate_left
        ·simp only [Act.put, zL, zM, zN, i64_w, i32_w]
         rfl
        refine pure_ (i := 11) (N := some 68) (v := undef) (a' := ?_) #[true, true, true, true, true, true, true, true, true, true, true, true, false, false, false, false, false, false, false, false, false, false, false, false, false, false, false, false, false] rfl rfl (any_of HT_.out (by kernel_rfl)) (fun _ _ _ h => h) (Or.inr ⟨by rfl, rfl⟩) ?_ ?_
        rotate_left
        ·simp only [Act.put, zL, zM, zN, i64_w, i32_w]
         rfl
        refine pure_ (i := 12) (N := some 69) (v := undef) (a' := ?_) #[true, true, true, true, true, true, true, true, true, true, true, true, true, false, false, false, false, false, false, false, false, false, false, false, false, false, false, false, false] rfl rfl (any_of HT_.out (by kernel_rfl)) (fun _ _ _ h => h) (Or.inr ⟨by rfl, rfl⟩) ?_ ?_
        rotate_left
        ·simp only [Act.put, zL, zM, zN, i64_w, i32_w]
         rfl
        refine pure_ (i := 13) (N := some 70) (v := undef) (a' := ?_) #[true, true, true, true, true, true, true, true, true, true, true, true, true, true, false, false, false, false, false, false, false, false, false, false, false, false, false, false, false] rfl rfl (any_of HT_.out (by kernel_rfl)) (fun _ _ _ h => h) (Or.inr ⟨by rfl, rfl⟩) ?_ ?_
        rotate_left
        ·simp only [Act.put, zL, zM, zN, i64_w, i32_w]
         rfl
        refine pure_ (i := 14) (N := some 71) (v := undef) (a' := ?_) #[true, true, true, true, true, true, true, true, true, true, true, true, true, true, true, false, false, false, false, false, false, false, false, false, false, false, false, false, false] rfl rfl (any_of HT_.out (by kernel_rfl)) (fun _ _ _ h => h) (Or.inr ⟨by rfl, rfl⟩) ?_ ?_
        rotate_left
        ·simp only [Act.put, zL, zM, zN, i64_w, i32_w]
         rfl
        refine pure_ (i := 15) (N := some 72) (v := undef) (a' := ?_) #[true, true, true, true, true, true, true, true, true, true, true, true, true, true, true, true, false, false, false, false, false, false, false, false, false, false, false, false, false] rfl rfl (any_of HT_.out (by kernel_rfl)) (fun _ _ _ h => h) (Or.inr ⟨by rfl, rfl⟩) ?_ ?_
        rotate_left
        ·simp only [Act.put, zL, zM, zN, i64_w, i32_w]
         rfl
        refine pure_ (i := 16) (N := some 73) (v := undef) (a' := ?_) #[true, true, true, true, true, true, true, true, true, true, true, true, true, true, true, true, true, false, false, false, false, false, false, false, false, false, false, false, false] rfl rfl (any_of HT_.out (by kernel_rfl)) (fun _ _ _ h => h) (Or.inr ⟨by rfl, rfl⟩) ?_ ?_
        rotate_left
        ·simp only [Act.put, zL, zM, zN, i64_w, i32_w]
         rfl
        refine pure_ (i := 17) (N := some 74) (v := undef) (a' := ?_) #[true, true, true, true, true, true, true, true, true, true, true, true, true, true, true, true, true, true, false, false, false, false, false, false, false, false, false, false, false] rfl rfl (any_of HT_.out (by kernel_rfl)) (fun _ _ _ h => h) (Or.inr ⟨by rfl, rfl⟩) ?_ ?_
        rotate_left
        ·simp only [Act.put, zL, zM, zN, i64_w, i32_w]
         rfl
        refine pure_ (i := 18) (N := some 75) (v := ?_) (a' := ?_) #[true, true, true, true, true, true, true, true, true, true, true, true, true, true, true, true, true, true, true, false, false, false, false, false, false, false, false, false, false] rfl rfl (any_of HT_.out (by kernel_rfl)) (fun _ _ _ h => h) (Or.inl ⟨by rfl, ?_⟩) ?_ ?_
        rotate_left
        ·intro w'
         go_simp
         with_reducible rfl
        rotate_left
        ·simp only [Act.put, zL, zM, zN, i64_w, i32_w]
         rfl
        refine pure_ (i := 19) (N := some 76) (v := ?_) (a' := ?_) #[true, true, true, true, true, true, true, true, true, true, true, true, true, true, true, true, true, true, true, true, false, false, false, false, false, false, false, false, false] rfl rfl (any_of HT_.out (by kernel_rfl)) (fun _ _ _ h => h) (Or.inl ⟨by rfl, ?_⟩) ?_ ?_
        rotate_left
        ·intro w'
         go_simp
         with_reducible rfl
        rotate_left
        ·simp only [Act.put, zL, zM, zN, i64_w, i32_w]
         rfl
        refine pure_ (i := 20) (N := some 77) (v := ?_) (a' := ?_) #[true, true, true, true, true, true, true, true, true, true, true, true, true, true, true, true, true, true, true, true, true, false, false, false, false, false, false, false, false] rfl rfl (any_of HT_.out (by kernel_rfl)) (fun _ _ _ h => h) (Or.inl ⟨by rfl, ?_⟩) ?_ ?_
        rotate_left
        ·intro w'
         go_simp
         with_reducible rfl
        rotate_left
        ·simp only [Act.put, zL, zM, zN, i64_w, i32_w]
         rfl
        refine pure_ (i := 21) (N := some 78) (v := ?_) (a' := ?_) #[true, true, true, true, true, true, true, true, true, true, true, true, true, true, true, true, true, true, true, true, true, true, false, false, false, false, false, false, false] rfl rfl (any_of HT_.out (by kernel_rfl)) (fun _ _ _ h => h) (Or.inl ⟨by rfl, ?_⟩) ?_ ?_
        rotate_left
        ·intro w'
         go_simp
         with_reducible rfl
        rotate_left
        ·simp only [Act.put, zL, zM, zN, i64_w, i32_w]
         rfl
        refine pure_ (i := 22) (N := some 79) (v := ?_) (a' := ?_) #[true, true, true, true, true, true, true, true, true, true, true, true, true, true, true, true, true, true, true, true, true, true, true, false, false, false, false, false, false] rfl rfl (any_of HT_.out (by kernel_rfl)) (fun _ _ _ h => h) (Or.inl ⟨by rfl, ?_⟩) ?_ ?_
        rotate_left
        ·intro w'
         go_simp
         with_reducible rfl
        rotate_left
        ·simp only [Act.put, zL, zM, zN, i64_w, i32_w]
         rfl
        refine pure_ (i := 23) (N := some 80) (v := ?_) (a' := ?_) #[true, true, true, true, true, true, true, true, true, true, true, true, true, true, true, true, true, true, true, true, true, true, true, true, false, false, false, false, false] rfl rfl (any_of HT_.out (by kernel_rfl)) (fun _ _ _ h => h) (Or.inl ⟨by rfl, ?_⟩) ?_ ?_
        rotate_left
        ·intro w'
         go_simp
         with_reducible rfl
        rotate_left
        ·simp only [Act.put, zL, zM, zN, i64_w, i32_w]
         rfl
        refine take_ (i := 24) (N := some 81) (v := ?_) (a' := ?_) #[true, true, true, true, true, true, true, true, true, true, true, true, true, true, true, true, true, true, true, true, true, true, true, true, true, false, false, false, false] rfl rfl (take_ofW HT_.out HW_.out (by kernel_rfl)) (fun _ _ _ h => h) (Or.inl ⟨by rfl, ?_⟩) hHeld ?_ ?_
        rotate_left
        ·rintro w' ⟨s0, s1, s2, s3, s4, s5⟩
         go_simp
         with_reducible rfl
        rotate_left
        ·simp only [Act.put, zL, zM, zN, i64_w, i32_w]
         rfl
        refine take_ (i := 25) (N := some 82) (v := ?_) (a' := ?_) #[true, true, true, true, true, true, true, true, true, true, true, true, true, true, true, true, true, true, true, true, true, true, true, true, true, true, false, false, false] rfl rfl (take_ofW HT_.out HW_.out (by kernel_rfl)) (fun _ _ _ h => h) (Or.inl ⟨by rfl, ?_⟩) hHeld ?_ ?_
        rotate_left
        ·rintro w' ⟨s0, s1, s2, s3, s4, s5⟩
         go_simp
         with_reducible rfl
        rotate_left
        ·simp only [Act.put, zL, zM, zN, i64_w, i32_w]
         rfl
        refine pure_ (i := 26) (N := some 83) (v := ?_) (a' := ?_) #[true, true, true, true, true, true, true, true, true, true, true, true, true, true, true, true, true, true, true, true, true, true, true, true, true, true, true, false, false] rfl rfl (any_of HT_.out (by kernel_rfl)) (fun _ _ _ h => h) (Or.inl ⟨by rfl, ?_⟩) ?_ ?_
        rotate_left
        ·intro w'
         go_simp
         with_reducible rfl
        rotate_left
        ·simp only [Act.put, zL, zM, zN, i64_w, i32_w]
         rfl
        refine pure_ (i := 27) (N := some 84) (v := ?_) (a' := ?_) #[true, true, true, true, true, true, true, true, true, true, true, true, true, true, true, true, true, true, true, true, true, true, true, true, true, true, true, true, false] rfl rfl (any_of HT_.out (by kernel_rfl)) (fun _ _ _ h => h) (Or.inl ⟨by rfl, ?_⟩) ?_ ?_
        rotate_left
        ·intro w'
         go_simp
         with_reducible rfl
        rotate_left
        ·simp only [Act.put, zL, zM, zN, i64_w, i32_w]
         rfl
        refine pure_ (i := 28) (N := some 2) (v := ?_) (a' := ?_) #[true, true, true, true, true, true, true, true, true, true, true, true, true, true, true, true, true, true, true, true, true, true, true, true, true, true, true, true, true] rfl rfl (any_of HT_.out (by kernel_rfl)) (fun _ _ _ h => h) (Or.inl ⟨by rfl, ?_⟩) ?_ ?_
        rotate_left
        ·intro w'
         go_simp
         with_reducible rfl
        rotate_left
        ·simp only [Act.put, zL, zM, zN, i64_w, i32_w]
         rfl
        refine done_ (done_of HT_.out (by kernel_rfl)) ?_
        try go_wp2
        go_ret
        exact ⟨by first | rfl | (simp [errW_none, errW_some] <;> rfl) | (simp [*, errW_none, errW_some] <;> rfl), by repeat (first | (with_reducible first | exact HB.out | apply zG | apply zE | apply zF | refine zH ?_ GE748.out | refine zH ?_ GE749.out | refine zH ?_ GE753.out | refine zH ?_ GE757.out | refine zH ?_ GE761.out) | exact HB.out)⟩
       ·replace c64 := Bool.eq_false_iff.mpr c64
        subst c64
        have H1 : (none) = some r := by rw [if_neg (show ¬ (false = true) by decide)] at H; exact H
        clear H
        have H := H1
        clear H1
        exact absurd H (by simp)
      ·rw [if_neg c63] at H
       have c63b0 : (t750 == 0) = false := beq_eq_false_iff_ne.mpr c63
       have c63b1 : (t750 != 0) = true := bne_iff_ne.mpr c63
       by_cases c84 : ((decide (t750 < 0)) == (decide (t744 < 0))) = true
       ·rw [if_pos c84] at H
        have c84b0 : ((decide (t750 < 0)) == (decide (t744 < 0))) = true := c84
        (try (have c84b1 : decide ((decide (t750 < 0)) = (decide (t744 < 0))) = true := by simpa using c84))
        (try (have c84b2 : ((decide (t750 < 0)) == (decide (t744 < 0))) = true := by simpa using c84))
        clear c84
        by_cases c85 : t760 = true
        ·subst c85
         have H1 : (some (t758 == t750 && (t759 == t751))) = some r := by rw [if_pos rfl] at H; exact H
         clear H
         have H := H1
         clear H1
         obtain rfl := Option.some.inj H
         have hnb86 := NB753_748.out
         have hnc86 := NB748_753.out
         have hnb87 := NB753_749.out
         have hnc87 := NB749_753.out
         have hnb88 := NB753_757.out
         have hnc88 := NB757_753.out
         have hcz89_0 : wc.cell? ⟨gb753, 0, none⟩ = some (.int .i64 t750) := (zJ BK753.out 0).trans rfl
         have hcz89_1 : wc.cell? ⟨gb753, 1, none⟩ = some (.int .i64 t751) := (zJ BK753.out 1).trans rfl
         have hfz89_0 := zK BK753.out 0
         have hfz89_1 := zK BK753.out 1
         have hnb90 := NB749_748.out
         have hnc90 := NB748_749.out
         have hnb91 := NB749_757.out
         have hnc91 := NB757_749.out
         have hcz92_0 : wc.cell? ⟨gb749, 0, none⟩ = some (.int .i64 t746) := (zJ BK749.out 0).trans rfl
         have hcz92_1 : wc.cell? ⟨gb749, 1, none⟩ = some (.int .i64 t747) := (zJ BK749.out 1).trans rfl
         have hfz92_0 := zK BK749.out 0
         have hfz92_1 := zK BK749.out 1
         try go_wp2_with (first | ((with_reducible refine zT (f := 41) rfl ?_); refine goesL_ (some 54) rfl rfl Try.func41 (by kernel_rfl) rfl #[.agg #[.int .i64 t750, .int .i64 t751], .agg #[.int .i64 t746, .int .i64 t747]] rfl (by (try simp only [zW, yA, yB]); first | done | rfl | (simp only [zX, zZ]; rfl)) ?_; (with_reducible refine (impl_DecMod.calls kj5 t750 t751 t746 t747 t758 t759 true _ A58.out).mono ?_); rintro e w93 ⟨rfl, hb⟩; refine ⟨_, rfl, ?_⟩; have n0_ := zA (zP (g := gb748) (o := .cells #[.int .i64 t744, .int .i64 t745] 26 (0, 0)) (by (with_reducible repeat (first | refine zB ?_ _ | refine zD ?_ | refine zC ?_ _)); exact BK748.out) hb); have n1_ := zA (zP (g := gb749) (o := .cells #[.int .i64 t746, .int .i64 t747] 26 (0, 0)) (by (with_reducible repeat (first | refine zB ?_ _ | refine zD ?_ | refine zC ?_ _)); exact BK749.out) hb); have n2_ := zA (zP (g := gb753) (o := .cells #[.int .i64 t750, .int .i64 t751] 26 (0, 0)) (by (with_reducible repeat (first | refine zB ?_ _ | refine zD ?_ | refine zC ?_ _)); exact BK753.out) hb); have n3_ := zA (zP (g := gb757) (o := .cells #[.int .i64 t754, .int .i64 t755] 26 (0, 0)) (by (with_reducible repeat (first | refine zB ?_ _ | refine zD ?_ | refine zC ?_ _)); exact BK757.out) hb); have n4_ := zA (zQ (by repeat (first | (with_reducible first | exact HB.out | apply zG | apply zE | apply zF | refine zH ?_ GE748.out | refine zH ?_ GE749.out | refine zH ?_ GE753.out | refine zH ?_ GE757.out) | exact HB.out)) hb); clear BK748; clear BK749; clear BK753; clear BK757; clear HB; have BK748 := n0_; have BK749 := n1_; have BK753 := n2_; have BK757 := n3_; have HB := n4_; clear n0_ n1_ n2_ n3_ n4_; (try clear hb); (try clear hb2); (try clear hk); (try clear hi)) | ((with_reducible refine zS (N := 9) rfl ?_); refine zV ?hg (N := 9) ?hd (cs := #[.int .i64 0, .int .i64 0]) (t := 26) ?hr ?_; (case hd => rfl); (case hg => rfl); (case hr => first | (go_simp; done) | (go_simp; rfl)); intro gb761 hg w94 hbox hb; have n0_ := zA (zP (g := gb748) (o := .cells #[.int .i64 t744, .int .i64 t745] 26 (0, 0)) (by (with_reducible repeat (first | refine zB ?_ _ | refine zD ?_ | refine zC ?_ _)); exact BK748.out) hb); have n1_ := zA (zP (g := gb749) (o := .cells #[.int .i64 t746, .int .i64 t747] 26 (0, 0)) (by (with_reducible repeat (first | refine zB ?_ _ | refine zD ?_ | refine zC ?_ _)); exact BK749.out) hb); have n2_ := zA (zP (g := gb753) (o := .cells #[.int .i64 t750, .int .i64 t751] 26 (0, 0)) (by (with_reducible repeat (first | refine zB ?_ _ | refine zD ?_ | refine zC ?_ _)); exact BK753.out) hb); have n3_ := zA (zP (g := gb757) (o := .cells #[.int .i64 t754, .int .i64 t755] 26 (0, 0)) (by (with_reducible repeat (first | refine zB ?_ _ | refine zD ?_ | refine zC ?_ _)); exact BK757.out) hb); have n4_ := zA (zQ (by repeat (first | (with_reducible first | exact HB.out | apply zG | apply zE | apply zF | refine zH ?_ GE748.out | refine zH ?_ GE749.out | refine zH ?_ GE753.out | refine zH ?_ GE757.out) | exact HB.out)) hb); have n5_ := zA (hbox); have n6_ := zA ((by rw [hg]; exact (zR (by repeat (first | (with_reducible first | exact HB.out | apply zG | apply zE | apply zF | refine zH ?_ GE748.out | refine zH ?_ GE749.out | refine zH ?_ GE753.out | refine zH ?_ GE757.out) | exact HB.out))) : w.heap.size ≤ gb761)); have n7_ := zA ((by rw [hg]; exact (zR (by repeat (first | (with_reducible first | exact HB.out | apply zG | apply zE | apply zF | refine zH ?_ GE748.out | refine zH ?_ GE749.out | refine zH ?_ GE753.out | refine zH ?_ GE757.out) | exact HB.out))) : w.heap.size ≤ gb761)); have n8_ := zA ((by rw [hg]; exact Nat.ne_of_lt (blk_lt (g := gb748) (o := .cells #[.int .i64 t744, .int .i64 t745] 26 (0, 0)) (by (with_reducible repeat (first | refine zB ?_ _ | refine zD ?_ | refine zC ?_ _)); exact BK748.out)) : gb748 ≠ gb761)); have n9_ := zA ((by rw [hg]; exact Nat.ne_of_gt (blk_lt (g := gb748) (o := .cells #[.int .i64 t744, .int .i64 t745] 26 (0, 0)) (by (with_reducible repeat (first | refine zB ?_ _ | refine zD ?_ | refine zC ?_ _)); exact BK748.out)) : gb761 ≠ gb748)); have n10_ := zA ((by rw [hg]; exact Nat.ne_of_lt (blk_lt (g := gb749) (o := .cells #[.int .i64 t746, .int .i64 t747] 26 (0, 0)) (by (with_reducible repeat (first | refine zB ?_ _ | refine zD ?_ | refine zC ?_ _)); exact BK749.out)) : gb749 ≠ gb761)); have n11_ := zA ((by rw [hg]; exact Nat.ne_of_gt (blk_lt (g := gb749) (o := .cells #[.int .i64 t746, .int .i64 t747] 26 (0, 0)) (by (with_reducible repeat (first | refine zB ?_ _ | refine zD ?_ | refine zC ?_ _)); exact BK749.out)) : gb761 ≠ gb749)); have n12_ := zA ((by rw [hg]; exact Nat.ne_of_lt (blk_lt (g := gb753) (o := .cells #[.int .i64 t750, .int .i64 t751] 26 (0, 0)) (by (with_reducible repeat (first | refine zB ?_ _ | refine zD ?_ | refine zC ?_ _)); exact BK753.out)) : gb753 ≠ gb761)); have n13_ := zA ((by rw [hg]; exact Nat.ne_of_gt (blk_lt (g := gb753) (o := .cells #[.int .i64 t750, .int .i64 t751] 26 (0, 0)) (by (with_reducible repeat (first | refine zB ?_ _ | refine zD ?_ | refine zC ?_ _)); exact BK753.out)) : gb761 ≠ gb753)); have n14_ := zA ((by rw [hg]; exact Nat.ne_of_lt (blk_lt (g := gb757) (o := .cells #[.int .i64 t754, .int .i64 t755] 26 (0, 0)) (by (with_reducible repeat (first | refine zB ?_ _ | refine zD ?_ | refine zC ?_ _)); exact BK757.out)) : gb757 ≠ gb761)); have n15_ := zA ((by rw [hg]; exact Nat.ne_of_gt (blk_lt (g := gb757) (o := .cells #[.int .i64 t754, .int .i64 t755] 26 (0, 0)) (by (with_reducible repeat (first | refine zB ?_ _ | refine zD ?_ | refine zC ?_ _)); exact BK757.out)) : gb761 ≠ gb757)); clear BK748; clear BK749; clear BK753; clear BK757; clear HB; have BK748 := n0_; have BK749 := n1_; have BK753 := n2_; have BK757 := n3_; have HB := n4_; have BK761 := n5_; have GW761 := n6_; have GE761 := n7_; have NB748_761 := n8_; have NB761_748 := n9_; have NB749_761 := n10_; have NB761_749 := n11_; have NB753_761 := n12_; have NB761_753 := n13_; have NB757_761 := n14_; have NB761_757 := n15_; clear n0_ n1_ n2_ n3_ n4_ n5_ n6_ n7_ n8_ n9_ n10_ n11_ n12_ n13_ n14_ n15_; clear hb hbox hg; have hnb95 := NB761_748.out; have hnc95 := NB748_761.out; have hnb96 := NB761_749.out; have hnc96 := NB749_761.out; have hnb97 := NB761_753.out; have hnc97 := NB753_761.out; have hnb98 := NB761_757.out; have hnc98 := NB757_761.out; have hcz99_0 : w94.cell? ⟨gb761, 0, none⟩ = some (.int .i64 0) := (zJ BK761.out 0).trans rfl; have hcz99_1 : w94.cell? ⟨gb761, 1, none⟩ = some (.int .i64 0) := (zJ BK761.out 1).trans rfl; have hfz99_0 := zK BK761.out 0; have hfz99_1 := zK BK761.out 1))
         have n0_ : Aside0 (((w94.setCell ⟨gb761, 0, none⟩ (.int .i64 t758)).setCell ⟨gb761, 1, none⟩ (.int .i64 t759)).heap[gb748]? = some (.cells #[.int .i64 t744, .int .i64 t745] 26 (0, 0))) := ⟨by (with_reducible repeat (first | refine zB ?_ _ | refine zD ?_ | refine zC ?_ _)); refine blk_far ?_ NB748_761.out _; (with_reducible repeat (first | refine zB ?_ _ | refine zD ?_ | refine zC ?_ _)); refine blk_far ?_ NB748_761.out _; (with_reducible repeat (first | refine zB ?_ _ | refine zD ?_ | refine zC ?_ _)); exact BK748.out⟩
         have n1_ : Aside0 (((w94.setCell ⟨gb761, 0, none⟩ (.int .i64 t758)).setCell ⟨gb761, 1, none⟩ (.int .i64 t759)).heap[gb749]? = some (.cells #[.int .i64 t746, .int .i64 t747] 26 (0, 0))) := ⟨by (with_reducible repeat (first | refine zB ?_ _ | refine zD ?_ | refine zC ?_ _)); refine blk_far ?_ NB749_761.out _; (with_reducible repeat (first | refine zB ?_ _ | refine zD ?_ | refine zC ?_ _)); refine blk_far ?_ NB749_761.out _; (with_reducible repeat (first | refine zB ?_ _ | refine zD ?_ | refine zC ?_ _)); exact BK749.out⟩
         have n2_ : Aside0 (((w94.setCell ⟨gb761, 0, none⟩ (.int .i64 t758)).setCell ⟨gb761, 1, none⟩ (.int .i64 t759)).heap[gb753]? = some (.cells #[.int .i64 t750, .int .i64 t751] 26 (0, 0))) := ⟨by (with_reducible repeat (first | refine zB ?_ _ | refine zD ?_ | refine zC ?_ _)); refine blk_far ?_ NB753_761.out _; (with_reducible repeat (first | refine zB ?_ _ | refine zD ?_ | refine zC ?_ _)); refine blk_far ?_ NB753_761.out _; (with_reducible repeat (first | refine zB ?_ _ | refine zD ?_ | refine zC ?_ _)); exact BK753.out⟩
         have n3_ : Aside0 (((w94.setCell ⟨gb761, 0, none⟩ (.int .i64 t758)).setCell ⟨gb761, 1, none⟩ (.int .i64 t759)).heap[gb757]? = some (.cells #[.int .i64 t754, .int .i64 t755] 26 (0, 0))) := ⟨by (with_reducible repeat (first | refine zB ?_ _ | refine zD ?_ | refine zC ?_ _)); refine blk_far ?_ NB757_761.out _; (with_reducible repeat (first | refine zB ?_ _ | refine zD ?_ | refine zC ?_ _)); refine blk_far ?_ NB757_761.out _; (with_reducible repeat (first | refine zB ?_ _ | refine zD ?_ | refine zC ?_ _)); exact BK757.out⟩
         have n4_ : Aside0 (((w94.setCell ⟨gb761, 0, none⟩ (.int .i64 t758)).setCell ⟨gb761, 1, none⟩ (.int .i64 t759)).heap[gb761]? = some (.cells #[.int .i64 t758, .int .i64 t759] 26 (0, 0))) := ⟨by (with_reducible repeat (first | refine zB ?_ _ | refine zD ?_ | refine zC ?_ _)); refine blk_put (cs := #[.int .i64 t758, .int .i64 0]) ?_ 1 _ rfl; (with_reducible repeat (first | refine zB ?_ _ | refine zD ?_ | refine zC ?_ _)); refine blk_put (cs := #[.int .i64 0, .int .i64 0]) ?_ 0 _ rfl; (with_reducible repeat (first | refine zB ?_ _ | refine zD ?_ | refine zC ?_ _)); exact BK761.out⟩
         have n5_ : Aside0 (Below w.heap.size w ((w94.setCell ⟨gb761, 0, none⟩ (.int .i64 t758)).setCell ⟨gb761, 1, none⟩ (.int .i64 t759))) := ⟨by repeat (first | (with_reducible first | exact HB.out | apply zG | apply zE | apply zF | refine zH ?_ GE748.out | refine zH ?_ GE749.out | refine zH ?_ GE753.out | refine zH ?_ GE757.out | refine zH ?_ GE761.out) | exact HB.out)⟩
         (try clear BK748)
         (try clear BK749)
         (try clear BK753)
         (try clear BK757)
         (try clear BK761)
         (try clear HB)
         generalize ((w94.setCell ⟨gb761, 0, none⟩ (.int .i64 t758)).setCell ⟨gb761, 1, none⟩ (.int .i64 t759)) = w100 at n0_ n1_ n2_ n3_ n4_ n5_ ⊢
         have BK748 := n0_
         have BK749 := n1_
         have BK753 := n2_
         have BK757 := n3_
         have BK761 := n4_
         have HB := n5_
         clear n0_ n1_ n2_ n3_ n4_ n5_
         have n0_ := zA (zD BK748.out)
         have n1_ := zA (zD BK749.out)
         have n2_ := zA (zD BK753.out)
         have n3_ := zA (zD BK757.out)
         have n4_ := zA (zD BK761.out)
         have n5_ := zA (zF HB.out)
         clear BK748
         clear BK749
         clear BK753
         clear BK757
         clear BK761
         clear HB
         have BK748 := n0_
         have BK749 := n1_
         have BK753 := n2_
         have BK757 := n3_
         have BK761 := n4_
         have HB := n5_
         clear n0_ n1_ n2_ n3_ n4_ n5_
         refine start_ (n := 29) (S := fun w' => w'.cell? ⟨gb753, 0, none⟩ = some (.int .i64 t750) ∧ w'.cell? ⟨gb753, 1, none⟩ = some (.int .i64 t751) ∧ w'.cell? ⟨gb749, 0, none⟩ = some (.int .i64 t746) ∧ w'.cell? ⟨gb749, 1, none⟩ = some (.int .i64 t747) ∧ w'.cell? ⟨gb748, 0, none⟩ = some (.int .i64 t744) ∧ w'.cell? ⟨gb748, 1, none⟩ = some (.int .i64 t745) ∧ w'.cell? ⟨gb761, 0, none⟩ = some (.int .i64 t758) ∧ w'.cell? ⟨gb761, 1, none⟩ = some (.int .i64 t759)) (ds := []) #[false, false, false, false, false, false, false, false, false, false, false, false, false, false, false, false, false, false, false, false, false, false, false, false, false, false, false, false, false] (by kernel_rfl) rfl rfl ⟨(zJ BK753.out 0).trans rfl, (zJ BK753.out 1).trans rfl, (zJ BK749.out 0).trans rfl, (zJ BK749.out 1).trans rfl, (zJ BK748.out 0).trans rfl, (zJ BK748.out 1).trans rfl, (zJ BK761.out 0).trans rfl, (zJ BK761.out 1).trans rfl⟩ (fun hHeld => ?_); refine with_tabW laws_FnDecMod.tab9 laws_FnDecMod.bits9 (fun HT_ HW_ => ?_)
         generalize w100.drew = w101 at BK748 BK749 BK753 BK757 BK761 HB hHeld ⊢
         refine take_ (i := 0) (N := some 57) (v := ?_) (a' := ?_) #[true, false, false, false, false, false, false, false, false, false, false, false, false, false, false, false, false, false, false, false, false, false, false, false, false, false, false, false, false] rfl rfl (take_ofW HT_.out HW_.out (by kernel_rfl)) (fun _ _ _ h => h) (Or.inl ⟨by rfl, ?_⟩) hHeld ?_ ?_
         rotate_left
         ·rintro w' ⟨s0, s1, s2, s3, s4, s5, s6, s7⟩
          go_simp
          with_reducible rfl
         rotate_left
         ·simp only [Act.put, zL, zM, zN, i64_w, i32_w]
          rfl
         refine take_ (i := 2) (N := some 59) (v := ?_) (a' := ?_) #[true, false, true, false, false, false, false, false, false, false, false, false, false, false, false, false, false, false, false, false, false, false, false, false, false, false, false, false, false] rfl rfl (take_ofW HT_.out HW_.out (by kernel_rfl)) (fun _ _ _ h => h) (Or.inl ⟨by rfl, ?_⟩) hHeld ?_ ?_
         rotate_left
         ·rintro w' ⟨s0, s1, s2, s3, s4, s5, s6, s7⟩
          go_simp
          with_reducible rfl
         rotate_left
         ·simp only [Act.put, zL, zM, zN, i64_w, i32_w]
          rfl
         refine one_ (i := 1) (N := some 58) #[true, true, true, false, false, false, false, false, false, false, false, false, false, false, false, false, false, false, false, false, false, false, false, false, false, false, false, false, false] rfl rfl (one_of HT_.out (by kernel_rfl)) (by decide) (fun K hK => ?_)
         refine goes_ Try.func39 (by kernel_rfl) rfl #[.agg #[.int .i64 t750, .int .i64 t751]] (by rfl) rfl rfl (by (try simp only [zW, yA, yB]); first | done | rfl | (simp only [zX, zZ]; rfl)) ?_
         with_reducible refine (laws_chAbs.calls t750 t751 t762 t763 _ A59.out).mono ?_
         rintro e w102 ⟨rfl, hb⟩
         refine ⟨_, rfl, ?_⟩
         have n0_ := zA (zP (g := gb748) (o := .cells #[.int .i64 t744, .int .i64 t745] 26 (0, 0)) (by (with_reducible repeat (first | refine zB ?_ _ | refine zD ?_ | refine zC ?_ _)); exact BK748.out) hb)
         have n1_ := zA (zP (g := gb749) (o := .cells #[.int .i64 t746, .int .i64 t747] 26 (0, 0)) (by (with_reducible repeat (first | refine zB ?_ _ | refine zD ?_ | refine zC ?_ _)); exact BK749.out) hb)
         have n2_ := zA (zP (g := gb753) (o := .cells #[.int .i64 t750, .int .i64 t751] 26 (0, 0)) (by (with_reducible repeat (first | refine zB ?_ _ | refine zD ?_ | refine zC ?_ _)); exact BK753.out) hb)
         have n3_ := zA (zP (g := gb757) (o := .cells #[.int .i64 t754, .int .i64 t755] 26 (0, 0)) (by (with_reducible repeat (first | refine zB ?_ _ | refine zD ?_ | refine zC ?_ _)); exact BK757.out) hb)
         have n4_ := zA (zP (g := gb761) (o := .cells #[.int .i64 t758, .int .i64 t759] 26 (0, 0)) (by (with_reducible repeat (first | refine zB ?_ _ | refine zD ?_ | refine zC ?_ _)); exact BK761.out) hb)
         have n5_ := zA (zQ (by repeat (first | (with_reducible first | exact HB.out | apply zG | apply zE | apply zF | refine zH ?_ GE748.out | refine zH ?_ GE749.out | refine zH ?_ GE753.out | refine zH ?_ GE757.out | refine zH ?_ GE761.out) | exact HB.out)) hb)
         clear BK748
         clear BK749
         clear BK753
         clear BK757
         clear BK761
         clear HB
         have BK748 := n0_
         have BK749 := n1_
         have BK753 := n2_
         have BK757 := n3_
         have BK761 := n4_
         have HB := n5_
         clear n0_ n1_ n2_ n3_ n4_ n5_
         (try clear hb)
         (try clear hb2)
         (try clear hk)
         (try clear hi)
         refine hK.out _ _ ⟨(zJ BK753.out 0).trans rfl, (zJ BK753.out 1).trans rfl, (zJ BK749.out 0).trans rfl, (zJ BK749.out 1).trans rfl, (zJ BK748.out 0).trans rfl, (zJ BK748.out 1).trans rfl, (zJ BK761.out 0).trans rfl, (zJ BK761.out 1).trans rfl⟩ (fun hHeld => ?_)
         clear hK K
         refine norm_ (a' := ?_) ?_ ?_
         rotate_left
         ·show Act.put _ (some 58) _ = _
          simp only [Act.put, zL, zM, zN, i64_w, i32_w]
          rfl
         refine one_ (i := 3) (N := some 60) #[true, true, true, true, false, false, false, false, false, false, false, false, false, false, false, false, false, false, false, false, false, false, false, false, false, false, false, false, false] rfl rfl (one_of HT_.out (by kernel_rfl)) (by decide) (fun K hK => ?_)
         refine goes_ Try.func39 (by kernel_rfl) rfl #[.agg #[.int .i64 t746, .int .i64 t747]] (by rfl) rfl rfl (by (try simp only [zW, yA, yB]); first | done | rfl | (simp only [zX, zZ]; rfl)) ?_
         with_reducible refine (laws_chAbs.calls t746 t747 t764 t765 _ A60.out).mono ?_
         rintro e w103 ⟨rfl, hb⟩
         refine ⟨_, rfl, ?_⟩
         have n0_ := zA (zP (g := gb748) (o := .cells #[.int .i64 t744, .int .i64 t745] 26 (0, 0)) (by (with_reducible repeat (first | refine zB ?_ _ | refine zD ?_ | refine zC ?_ _)); exact BK748.out) hb)
         have n1_ := zA (zP (g := gb749) (o := .cells #[.int .i64 t746, .int .i64 t747] 26 (0, 0)) (by (with_reducible repeat (first | refine zB ?_ _ | refine zD ?_ | refine zC ?_ _)); exact BK749.out) hb)
         have n2_ := zA (zP (g := gb753) (o := .cells #[.int .i64 t750, .int .i64 t751] 26 (0, 0)) (by (with_reducible repeat (first | refine zB ?_ _ | refine zD ?_ | refine zC ?_ _)); exact BK753.out) hb)
         have n3_ := zA (zP (g := gb757) (o := .cells #[.int .i64 t754, .int .i64 t755] 26 (0, 0)) (by (with_reducible repeat (first | refine zB ?_ _ | refine zD ?_ | refine zC ?_ _)); exact BK757.out) hb)
         have n4_ := zA (zP (g := gb761) (o := .cells #[.int .i64 t758, .int .i64 t759] 26 (0, 0)) (by (with_reducible repeat (first | refine zB ?_ _ | refine zD ?_ | refine zC ?_ _)); exact BK761.out) hb)
         have n5_ := zA (zQ (by repeat (first | (with_reducible first | exact HB.out | apply zG | apply zE | apply zF | refine zH ?_ GE748.out | refine zH ?_ GE749.out | refine zH ?_ GE753.out | refine zH ?_ GE757.out | refine zH ?_ GE761.out) | exact HB.out)) hb)
         clear BK748
         clear BK749
         clear BK753
         clear BK757
         clear BK761
         clear HB
         have BK748 := n0_
         have BK749 := n1_
         have BK753 := n2_
         have BK757 := n3_
         have BK761 := n4_
         have HB := n5_
         clear n0_ n1_ n2_ n3_ n4_ n5_
         (try clear hb)
         (try clear hb2)
         (try clear hk)
         (try clear hi)
         refine hK.out _ _ ⟨(zJ BK753.out 0).trans rfl, (zJ BK753.out 1).trans rfl, (zJ BK749.out 0).trans rfl, (zJ BK749.out 1).trans rfl, (zJ BK748.out 0).trans rfl, (zJ BK748.out 1).trans rfl, (zJ BK761.out 0).trans rfl, (zJ BK761.out 1).trans rfl⟩ (fun hHeld => ?_)
         clear hK K
         refine norm_ (a' := ?_) ?_ ?_
         rotate_left
         ·show Act.put _ (some 60) _ = _
          simp only [Act.put, zL, zM, zN, i64_w, i32_w]
          rfl
         refine one_ (i := 4) (N := some 61) #[true, true, true, true, true, false, false, false, false, false, false, false, false, false, false, false, false, false, false, false, false, false, false, false, false, false, false, false, false] rfl rfl (one_of HT_.out (by kernel_rfl)) (by decide) (fun K hK => ?_)
         refine goes_ Try.func34 (by kernel_rfl) rfl #[.agg #[.int .i64 t762, .int .i64 t763], .agg #[.int .i64 t764, .int .i64 t765]] (by rfl) rfl rfl (by (try simp only [zW, yA, yB]); first | done | rfl | (simp only [zX, zZ]; rfl)) ?_
         with_reducible refine (impl_DecCmp.calls kj5 t762 t763 t764 t765 t766 _ A61.out).mono ?_
         rintro e w104 ⟨rfl, hb⟩
         refine ⟨_, rfl, ?_⟩
         have n0_ := zA (zP (g := gb748) (o := .cells #[.int .i64 t744, .int .i64 t745] 26 (0, 0)) (by (with_reducible repeat (first | refine zB ?_ _ | refine zD ?_ | refine zC ?_ _)); exact BK748.out) hb)
         have n1_ := zA (zP (g := gb749) (o := .cells #[.int .i64 t746, .int .i64 t747] 26 (0, 0)) (by (with_reducible repeat (first | refine zB ?_ _ | refine zD ?_ | refine zC ?_ _)); exact BK749.out) hb)
         have n2_ := zA (zP (g := gb753) (o := .cells #[.int .i64 t750, .int .i64 t751] 26 (0, 0)) (by (with_reducible repeat (first | refine zB ?_ _ | refine zD ?_ | refine zC ?_ _)); exact BK753.out) hb)
         have n3_ := zA (zP (g := gb757) (o := .cells #[.int .i64 t754, .int .i64 t755] 26 (0, 0)) (by (with_reducible repeat (first | refine zB ?_ _ | refine zD ?_ | refine zC ?_ _)); exact BK757.out) hb)
         have n4_ := zA (zP (g := gb761) (o := .cells #[.int .i64 t758, .int .i64 t759] 26 (0, 0)) (by (with_reducible repeat (first | refine zB ?_ _ | refine zD ?_ | refine zC ?_ _)); exact BK761.out) hb)
         have n5_ := zA (zQ (by repeat (first | (with_reducible first | exact HB.out | apply zG | apply zE | apply zF | refine zH ?_ GE748.out | refine zH ?_ GE749.out | refine zH ?_ GE753.out | refine zH ?_ GE757.out | refine zH ?_ GE761.out) | exact HB.out)) hb)
         clear BK748
         clear BK749
         clear BK753
         clear BK757
         clear BK761
         clear HB
         have BK748 := n0_
         have BK749 := n1_
         have BK753 := n2_
         have BK757 := n3_
         have BK761 := n4_
         have HB := n5_
         clear n0_ n1_ n2_ n3_ n4_ n5_
         (try clear hb)
         (try clear hb2)
         (try clear hk)
         (try clear hi)
         refine hK.out _ _ ⟨(zJ BK753.out 0).trans rfl, (zJ BK753.out 1).trans rfl, (zJ BK749.out 0).trans rfl, (zJ BK749.out 1).trans rfl, (zJ BK748.out 0).trans rfl, (zJ BK748.out 1).trans rfl, (zJ BK761.out 0).trans rfl, (zJ BK761.out 1).trans rfl⟩ (fun hHeld => ?_)
         clear hK K
         refine norm_ (a' := ?_) ?_ ?_
         rotate_left
         ·show Act.put _ (some 61) _ = _
          simp only [Act.put, zL, zM, zN, i64_w, i32_w]
          rfl
         refine pure_ (i := 5) (N := some 62) (v := ?_) (a' := ?_) #[true, true, true, true, true, true, false, false, false, false, false, false, false, false, false, false, false, false, false, false, false, false, false, false, false, false, false, false, false] rfl rfl (any_of HT_.out (by kernel_rfl)) (fun _ _ _ h => h) (Or.inl ⟨by rfl, ?_⟩) ?_ ?_
         rotate_left
         ·intro w'
          go_simp
          with_reducible rfl
         rotate_left
         ·simp only [Act.put, zL, zM, zN, i64_w, i32_w]
          rfl
         refine pure_ (i := 6) (N := some 63) (v := ?_) (a' := ?_) #[true, true, true, true, true, true, true, false, false, false, false, false, false, false, false, false, false, false, false, false, false, false, false, false, false, false, false, false, false] rfl rfl (any_of HT_.out (by kernel_rfl)) (fun _ _ _ h => h) (Or.inl ⟨by rfl, ?_⟩) ?_ ?_
         rotate_left
         ·intro w'
          go_simp
          with_reducible rfl
         rotate_left
         ·simp only [Act.put, zL, zM, zN, i64_w, i32_w]
          rfl
         refine pure_ (i := 7) (N := some 64) (v := ?_) (a' := ?_) #[true, true, true, true, true, true, true, true, false, false, false, false, false, false, false, false, false, false, false, false, false, false, false, false, false, false, false, false, false] rfl rfl (any_of HT_.out (by kernel_rfl)) (fun _ _ _ h => h) (Or.inl ⟨by rfl, ?_⟩) ?_ ?_
         rotate_left
         ·intro w'
          go_simp
          with_reducible rfl
         rotate_left
         ·simp only [Act.put, zL, zM, zN, i64_w, i32_w]
          rfl
         refine take_ (i := 8) (N := some 65) (v := ?_) (a' := ?_) #[true, true, true, true, true, true, true, true, true, false, false, false, false, false, false, false, false, false, false, false, false, false, false, false, false, false, false, false, false] rfl rfl (take_ofW HT_.out HW_.out (by kernel_rfl)) (fun _ _ _ h => h) (Or.inl ⟨by rfl, ?_⟩) hHeld ?_ ?_
         rotate_left
         ·rintro w' ⟨s0, s1, s2, s3, s4, s5, s6, s7⟩
          go_simp
          with_reducible rfl
         rotate_left
         ·simp only [Act.put, zL, zM, zN, i64_w, i32_w]
          rfl
         refine pure_ (i := 9) (N := some 66) (v := ?_) (a' := ?_) #[true, true, true, true, true, true, true, true, true, true, false, false, false, false, false, false, false, false, false, false, false, false, false, false, false, false, false, false, false] rfl rfl (any_of HT_.out (by kernel_rfl)) (fun _ _ _ h => h) (Or.inl ⟨by rfl, ?_⟩) ?_ ?_
         rotate_left
         ·intro w'
          go_simp
          with_reducible rfl
         rotate_left
         ·simp only [Act.put, zL, zM, zN, i64_w, i32_w]
          rfl
         refine pure_ (i := 10) (N := some 67) (v := ?_) (a' := ?_) #[true, true, true, true, true, true, true, true, true, true, true, false, false, false, false, false, false, false, false, false, false, false, false, false, false, false, false, false, false] rfl rfl (any_of HT_.out (by kernel_rfl)) (fun _ _ _ h => h) (Or.inl ⟨by rfl, ?_⟩) ?_ ?_
         rotate_left
         ·intro w'
          go_simp
          with_reducible rfl
         rotate_left
         ·simp only [Act.put, zL, zM, zN, i64_w, i32_w]
          rfl
         refine pure_ (i := 11) (N := some 68) (v := ?_) (a' := ?_) #[true, true, true, true, true, true, true, true, true, true, true, true, false, false, false, false, false, false, false, false, false, false, false, false, false, false, false, false, false] rfl rfl (any_of HT_.out (by kernel_rfl)) (fun _ _ _ h => h) (Or.inl ⟨by rfl, ?_⟩) ?_ ?_
         rotate_left
         ·intro w'
          go_simp
          with_reducible rfl
         rotate_left
         ·simp only [Act.put, zL, zM, zN, i64_w, i32_w]
          rfl
         refine pure_ (i := 14) (N := some 71) (v := ?_) (a' := ?_) #[true, true, true, true, true, true, true, true, true, true, true, true, false, false, true, false, false, false, false, false, false, false, false, false, false, false, false, false, false] rfl rfl (any_of HT_.out (by kernel_rfl)) (fun _ _ _ h => h) (Or.inl ⟨by rfl, ?_⟩) ?_ ?_
         rotate_left
         ·intro w'
          go_simp
          with_reducible rfl
         rotate_left
         ·simp only [Act.put, zL, zM, zN, i64_w, i32_w]
          rfl
         refine take_ (i := 12) (N := some 69) (v := ?_) (a' := ?_) #[true, true, true, true, true, true, true, true, true, true, true, true, true, false, true, false, false, false, false, false, false, false, false, false, false, false, false, false, false] rfl rfl (take_ofW HT_.out HW_.out (by kernel_rfl)) (fun _ _ _ h => h) (Or.inl ⟨by rfl, ?_⟩) hHeld ?_ ?_
         rotate_left
         ·rintro w' ⟨s0, s1, s2, s3, s4, s5, s6, s7⟩
          go_simp
          with_reducible rfl
         rotate_left
         ·simp only [Act.put, zL, zM, zN, i64_w, i32_w]
          rfl
         refine pure_ (i := 13) (N := some 70) (v := ?_) (a' := ?_) #[true, true, true, true, true, true, true, true, true, true, true, true, true, true, true, false, false, false, false, false, false, false, false, false, false, false, false, false, false] rfl rfl (any_of HT_.out (by kernel_rfl)) (fun _ _ _ h => h) (Or.inl ⟨by rfl, ?_⟩) ?_ ?_
         rotate_left
         ·intro w'
          go_simp
          with_reducible rfl
         rotate_left
         ·simp only [Act.put, zL, zM, zN, i64_w, i32_w]
          rfl
         refine take_ (i := 15) (N := some 72) (v := ?_) (a' := ?_) #[true, true, true, true, true, true, true, true, true, true, true, true, true, true, true, true, false, false, false, false, false, false, false, false, false, false, false, false, false] rfl rfl (take_ofW HT_.out HW_.out (by kernel_rfl)) (fun _ _ _ h => h) (Or.inl ⟨by rfl, ?_⟩) hHeld ?_ ?_
         rotate_left
         ·rintro w' ⟨s0, s1, s2, s3, s4, s5, s6, s7⟩
          go_simp
          with_reducible rfl
         rotate_left
         ·simp only [Act.put, zL, zM, zN, i64_w, i32_w]
          rfl
         refine pure_ (i := 16) (N := some 73) (v := ?_) (a' := ?_) #[true, true, true, true, true, true, true, true, true, true, true, true, true, true, true, true, true, false, false, false, false, false, false, false, false, false, false, false, false] rfl rfl (any_of HT_.out (by kernel_rfl)) (fun _ _ _ h => h) (Or.inl ⟨by rfl, ?_⟩) ?_ ?_
         rotate_left
         ·intro w'
          go_simp
          with_reducible rfl
         rotate_left
         ·simp only [Act.put, zL, zM, zN, i64_w, i32_w]
          rfl
         refine pure_ (i := 17) (N := some 74) (v := ?_) (a' := ?_) #[true, true, true, true, true, true, true, true, true, true, true, true, true, true, true, true, true, true, false, false, false, false, false, false, false, false, false, false, false] rfl rfl (any_of HT_.out (by kernel_rfl)) (fun _ _ _ h => h) (Or.inl ⟨by rfl, ?_⟩) ?_ ?_
         rotate_left
         ·intro w'
          go_simp
          with_reducible rfl
         rotate_left
         ·simp only [Act.put, zL, zM, zN, i64_w, i32_w]
          rfl
         refine pure_ (i := 18) (N := some 75) (v := ?_) (a' := ?_) #[true, true, true, true, true, true, true, true, true, true, true, true, true, true, true, true, true, true, true, false, false, false, false, false, false, false, false, false, false] rfl rfl (any_of HT_.out (by kernel_rfl)) (fun _ _ _ h => h) (Or.inl ⟨by rfl, ?_⟩) ?_ ?_
         rotate_left
         ·intro w'
          go_simp
          with_reducible rfl
         rotate_left
         ·simp only [Act.put, zL, zM, zN, i64_w, i32_w]
          rfl
         refine pure_ (i := 19) (N := some 76) (v := ?_) (a' := ?_) #[true, true, true, true, true, true, true, true, true, true, true, true, true, true, true, true, true, true, true, true, false, false, false, false, false, false, false, false, false] rfl rfl (any_of HT_.out (by kernel_rfl)) (fun _ _ _ h => h) (Or.inl ⟨by rfl, ?_⟩) ?_ ?_
         rotate_left
         ·intro w'
          go_simp
          with_reducible rfl
         rotate_left
         ·simp only [Act.put, zL, zM, zN, i64_w, i32_w]
          rfl
         refine pure_ (i := 20) (N := some 77) (v := ?_) (a' := ?_) #[true, true, true, true, true, true, true, true, true, true, true, true, true, true, true, true, true, true, true, true, true, false, false, false, false, false, false, false, false] rfl rfl (any_of HT_.out (by kernel_rfl)) (fun _ _ _ h => h) (Or.inl ⟨by rfl, ?_⟩) ?_ ?_
         rotate_left
         ·intro w'
          go_simp
          with_reducible rfl
         rotate_left
         ·simp only [Act.put, zL, zM, zN, i64_w, i32_w]
          rfl
         refine pure_ (i := 21) (N := some 78) (v := ?_) (a' := ?_) #[true, true, true, true, true, true, true, true, true, true, true, true, true, true, true, true, true, true, true, true, true, true, false, false, false, false, false, false, false] rfl rfl (any_of HT_.out (by kernel_rfl)) (fun _ _ _ h => h) (Or.inl ⟨by rfl, ?_⟩) ?_ ?_
         rotate_left
         ·intro w'
          go_simp
          with_reducible rfl
         rotate_left
         ·simp only [Act.put, zL, zM, zN, i64_w, i32_w]
          rfl
         refine pure_ (i := 22) (N := some 79) (v := ?_) (a' := ?_) #[true, true, true, true, true, true, true, true, true, true, true, true, true, true, true, true, true, true, true, true, true, true, true, false, false, false, false, false, false] rfl rfl (any_of HT_.out (by kernel_rfl)) (fun _ _ _ h => h) (Or.inl ⟨by rfl, ?_⟩) ?_ ?_
         rotate_left
         ·intro w'
          go_simp
          with_reducible rfl
         rotate_left
         ·simp only [Act.put, zL, zM, zN, i64_w, i32_w]
          rfl
         refine pure_ (i := 23) (N := some 80) (v := ?_) (a' := ?_) #[true, true, true, true, true, true, true, true, true, true, true, true, true, true, true, true, true, true, true, true, true, true, true, true, false, false, false, false, false] rfl rfl (any_of HT_.out (by kernel_rfl)) (fun _ _ _ h => h) (Or.inl ⟨by rfl, ?_⟩) ?_ ?_
         rotate_left
         ·intro w'
          go_simp
          with_reducible rfl
         rotate_left
         ·simp only [Act.put, zL, zM, zN, i64_w, i32_w]
          rfl
         refine take_ (i := 24) (N := some 81) (v := ?_) (a' := ?_) #[true, true, true, true, true, true, true, true, true, true, true, true, true, true, true, true, true, true, true, true, true, true, true, true, true, false, false, false, false] rfl rfl (take_ofW HT_.out HW_.out (by kernel_rfl)) (fun _ _ _ h => h) (Or.inl ⟨by rfl, ?_⟩) hHeld ?_ ?_
         rotate_left
         ·rintro w' ⟨s0, s1, s2, s3, s4, s5, s6, s7⟩
          go_simp
          with_reducible rfl
         rotate_left
         ·simp only [Act.put, zL, zM, zN, i64_w, i32_w]
          rfl
         refine take_ (i := 25) (N := some 82) (v := ?_) (a' := ?_) #[true, true, true, true, true, true, true, true, true, true, true, true, true, true, true, true, true, true, true, true, true, true, true, true, true, true, false, false, false] rfl rfl (take_ofW HT_.out HW_.out (by kernel_rfl)) (fun _ _ _ h => h) (Or.inl ⟨by rfl, ?_⟩) hHeld ?_ ?_
         rotate_left
         ·rintro w' ⟨s0, s1, s2, s3, s4, s5, s6, s7⟩
          go_simp
          with_reducible rfl
         rotate_left
         ·simp only [Act.put, zL, zM, zN, i64_w, i32_w]
          rfl
         refine pure_ (i := 26) (N := some 83) (v := ?_) (a' := ?_) #[true, true, true, true, true, true, true, true, true, true, true, true, true, true, true, true, true, true, true, true, true, true, true, true, true, true, true, false, false] rfl rfl (any_of HT_.out (by kernel_rfl)) (fun _ _ _ h => h) (Or.inl ⟨by rfl, ?_⟩) ?_ ?_
         rotate_left
         ·intro w'
          go_simp
          with_reducible rfl
         rotate_left
         ·simp only [Act.put, zL, zM, zN, i64_w, i32_w]
          rfl
         refine pure_ (i := 27) (N := some 84) (v := ?_) (a' := ?_) #[true, true, true, true, true, true, true, true, true, true, true, true, true, true, true, true, true, true, true, true, true, true, true, true, true, true, true, true, false] rfl rfl (any_of HT_.out (by kernel_rfl)) (fun _ _ _ h => h) (Or.inl ⟨by rfl, ?_⟩) ?_ ?_
         rotate_left
         ·intro w'
          go_simp
          with_reducible rfl
         rotate_left
         ·simp only [Act.put, zL, zM, zN, i64_w, i32_w]
          rfl
         refine pure_ (i := 28) (N := some 2) (v := ?_) (a' := ?_) #[true, true, true, true, true, true, true, true, true, true, true, true, true, true, true, true, true, true, true, true, true, true, true, true, true, true, true, true, true] rfl rfl (any_of HT_.out (by kernel_rfl)) (fun _ _ _ h => h) (Or.inl ⟨by rfl, ?_⟩) ?_ ?_
         rotate_left
         ·intro w'
          go_simp
          with_reducible rfl
         rotate_left
         ·simp only [Act.put, zL, zM, zN, i64_w, i32_w]
          rfl
         refine done_ (done_of HT_.out (by kernel_rfl)) ?_
         try go_wp2
         go_ret
         exact ⟨by first | rfl | (simp [errW_none, errW_some] <;> rfl) | (simp [*, errW_none, errW_some] <;> rfl), by repeat (first | (with_reducible first | exact HB.out | apply zG | apply zE | apply zF | refine zH ?_ GE748.out | refine zH ?_ GE749.out | refine zH ?_ GE753.out | refine zH ?_ GE757.out | refine zH ?_ GE761.out) | exact HB.out)⟩
        ·replace c85 := Bool.eq_false_iff.mpr c85
         subst c85
         have H1 : (none) = some r := by rw [if_neg (show ¬ (false = true) by decide)] at H; exact H
         clear H
         have H := H1
         clear H1
         exact absurd H (by simp)
       ·rw [if_neg c84] at H
        have c84b0 : ((decide (t750 < 0)) == (decide (t744 < 0))) = false := by simpa using c84
        (try (have c84b1 : decide ((decide (t750 < 0)) = (decide (t744 < 0))) = false := by simpa using c84))
        (try (have c84b2 : ((decide (t750 < 0)) == (decide (t744 < 0))) = false := by simpa using c84))
        (try (have c84b3 : ¬ ((decide (t750 < 0)) = (decide (t744 < 0))) := by simpa using c84))
        clear c84
        exact absurd H (by simp)
     ·rw [if_neg c62] at H
      have c62b0 : decide (t766 < 0) = false := decide_eq_false c62
      clear c62
      exact absurd H (by simp)

/-- THE ONE PURE STATEMENT of laws_FnDecMod: yours. -/
def laws_FnDecMod.Pure : Prop := ∀ (l0 : List Int), l0.length ≤ maxLen → l0.length * 1 ≤ 140737488351232 → (∀ x ∈ l0, (Lit.int .u8 x).wf = true) → ∃ k, laws_FnDecMod.f k l0 = some true
theorem laws_FnDecMod.walk (P : laws_FnDecMod.Pure) (a0 : Option Addr) (len0 cap0 : Nat) (z0 : List Int) (w : World) (w0 : (a0 = none ∧ len0 = 0 ∧ cap0 = 0 ∧ z0 = []) ∨ ∃ x, a0 = some x ∧ len0 ≤ cap0 ∧ cap0 ≤ maxLen ∧ z0.length = cap0 ∧ (∀ i, i < z0.length → w.cell? (x.add i) = some (.int .u8 (z0.getD i 0))) ∧ ∀ n ∈ z0, (Lit.int .u8 n).wf = true) (y0 : len0 * 1 ≤ 140737488351232) :
  Calls Try.prog 12 #[.slice a0 len0 cap0] w fun e w' => e = .returned (.bool true) ∧ Below w.heap.size w w' := by
 obtain ⟨l0, rfl, hr0, hm0, hw0, hc0⟩ := ReadsInt.ofRowC w0
 obtain ⟨k, h⟩ := P l0 hm0 y0 hw0
 refine (laws_FnDecMod.calls k _ _ l0 true w (Kd.C_of_reads (d := (0 : Int)) (h1 := fun _ => rfl) hr0) hc0 h).mono ?_
 rintro e w' ⟨rfl, hd⟩
 exact ⟨rfl, hd⟩

end Go.Proofs.Ytmoaolcioihjnaa.Q

namespace Go.Proofs.Ytmoaolcioihjnaa.Q
open Go.RowKit Go.Proofs.YtmoaolcioihjnaaW.PrintWords Go.Proofs.YtmoaolcioihjnaaW.PrintLast Go.Proofs.YtmoaolcioihjnaaW.PrintMore Go.Proofs.YtmoaolcioihjnaaX
attribute [local go_sem] max2_int min2_int max_two min_two max_three min_three max_four min_four   -- for this text's walks alone
set_option linter.unusedVariables false
set_option linter.unusedSimpArgs false

def spec_DecMul.f (k : Nat) (a0_0 : Int) (a0_1 : Int) (a1_0 : Int) (a1_1 : Int) : Option (Int × Int × Bool) := (spec_DecOk.f a0_0 a0_1).bind fun t225 => (if t225 = true then ((spec_DecOk.f a1_0 a1_1).bind fun t226 => (if t226 = true then ((spec_l1New.f k (wrap64 (a0_0 * a1_0)) (wrap64 (a0_1 + a1_1))).bind fun bt227 => (some (bt227.1, bt227.2.1, bt227.2.2))) else (some (0, 0, false)))) else (some (0, 0, false)))
theorem spec_DecMul.mono : ∀ a0 a1 a2 a3 k, LeO (spec_DecMul.f k a0 a1 a2 a3) (spec_DecMul.f (k + 1) a0 a1 a2 a3) := by
 intro a0 a1 a2 a3 k
 unfold spec_DecMul.f
 repeat' first
   | (with_reducible exact spec_l1New.mono _ _ _)
   | (with_reducible exact LeO.refl _)
   | (with_reducible exact LeO.none _)
   | (with_reducible refine LeO.ite ?_ ?_)
   | (with_reducible refine LeO.bind ?_ (fun _ => ?_))
   | exact spec_l1New.mono _ _ _
   | exact LeO.none _
   | refine LeO.ite ?_ ?_
   | refine LeO.bind ?_ (fun _ => ?_)
set_option maxHeartbeats 8000000 in
set_option maxRecDepth 100000 in
theorem spec_DecMul.calls (k : Nat) (a0_0 : Int) (a0_1 : Int) (a1_0 : Int) (a1_1 : Int) (r1 : Int) (r2 : Int) (r3 : Bool) (w : World) (h : spec_DecMul.f k a0_0 a0_1 a1_0 a1_1 = some (r1, r2, r3)) :
  Calls Try.prog 19 #[.agg #[.int .i64 a0_0, .int .i64 a0_1], .agg #[.int .i64 a1_0, .int .i64 a1_1]] w fun e w' => e = .returned (.tuple #[.agg #[.int .i64 r1, .int .i64 r2], .bool r3]) ∧ Below w.heap.size w w' := by
 have hu26 := Try.underlying26
 have HB := zA (Below.refl w.heap.size w)
 have H : ((spec_DecOk.f a0_0 a0_1).bind fun t225 => (if t225 = true then ((spec_DecOk.f a1_0 a1_1).bind fun t226 => (if t226 = true then ((spec_l1New.f k (wrap64 (a0_0 * a1_0)) (wrap64 (a0_1 + a1_1))).bind fun bt227 => (some (bt227.1, bt227.2.1, bt227.2.2))) else (some (0, 0, false)))) else (some (0, 0, false)))) = some (r1, r2, r3) := h
 clear h
 replace H := Option.bind_eq_some_iff.mp H
 obtain ⟨t225, A30, H⟩ := H
 replace H : (if t225 = true then ((spec_DecOk.f a1_0 a1_1).bind fun t226 => (if t226 = true then ((spec_l1New.f k (wrap64 (a0_0 * a1_0)) (wrap64 (a0_1 + a1_1))).bind fun bt227 => (some (bt227.1, bt227.2.1, bt227.2.2))) else (some (0, 0, false)))) else (some (0, 0, false))) = some (r1, r2, r3) := H
 have A3 := zA A30
 clear A30
 by_cases c4 : t225 = true
 ·subst c4
  have H1 : ((spec_DecOk.f a1_0 a1_1).bind fun t226 => (if t226 = true then ((spec_l1New.f k (wrap64 (a0_0 * a1_0)) (wrap64 (a0_1 + a1_1))).bind fun bt227 => (some (bt227.1, bt227.2.1, bt227.2.2))) else (some (0, 0, false)))) = some (r1, r2, r3) := by rw [if_pos rfl] at H; exact H
  clear H
  have H := H1
  clear H1
  replace H := Option.bind_eq_some_iff.mp H
  obtain ⟨t226, A50, H⟩ := H
  replace H : (if t226 = true then ((spec_l1New.f k (wrap64 (a0_0 * a1_0)) (wrap64 (a0_1 + a1_1))).bind fun bt227 => (some (bt227.1, bt227.2.1, bt227.2.2))) else (some (0, 0, false))) = some (r1, r2, r3) := H
  have A5 := zA A50
  clear A50
  by_cases c6 : t226 = true
  ·subst c6
   have H1 : ((spec_l1New.f k (wrap64 (a0_0 * a1_0)) (wrap64 (a0_1 + a1_1))).bind fun bt227 => (some (bt227.1, bt227.2.1, bt227.2.2))) = some (r1, r2, r3) := by rw [if_pos rfl] at H; exact H
   clear H
   have H := H1
   clear H1
   replace H := Option.bind_eq_some_iff.mp H
   obtain ⟨⟨t227, t228, t229⟩, A70, H⟩ := H
   replace H : (some (t227, t228, t229)) = some (r1, r2, r3) := H
   have A7 := zA A70
   clear A70
   simp only [Option.some.injEq, Prod.mk.injEq] at H
   obtain ⟨rfl, rfl, rfl⟩ := H
   go_enter Try.func19, Try.ntmps19
   go_wp2_with (first | ((with_reducible refine zS (N := 2) rfl ?_); refine zV ?hg (N := 2) ?hd (cs := #[.int .i64 a0_0, .int .i64 a0_1]) (t := 26) ?hr ?_; (case hd => rfl); (case hg => rfl); (case hr => first | (go_simp; done) | (go_simp; rfl)); intro gb222 hg w8 hbox hb; have n0_ := zA (zQ (by repeat (first | (with_reducible first | exact HB.out | apply zG | apply zE | apply zF) | exact HB.out)) hb); have n1_ := zA (hbox); have n2_ := zA ((by rw [hg]; exact (zR (by repeat (first | (with_reducible first | exact HB.out | apply zG | apply zE | apply zF) | exact HB.out))) : w.heap.size ≤ gb222)); have n3_ := zA ((by rw [hg]; exact (zR (by repeat (first | (with_reducible first | exact HB.out | apply zG | apply zE | apply zF) | exact HB.out))) : w.heap.size ≤ gb222)); clear HB; have HB := n0_; have BK222 := n1_; have GW222 := n2_; have GE222 := n3_; clear n0_ n1_ n2_ n3_; clear hb hbox hg) | ((with_reducible refine zS (N := 3) rfl ?_); refine zV ?hg (N := 3) ?hd (cs := #[.int .i64 a1_0, .int .i64 a1_1]) (t := 26) ?hr ?_; (case hd => rfl); (case hg => rfl); (case hr => first | (go_simp; done) | (go_simp; rfl)); intro gb223 hg w9 hbox hb; have n0_ := zA (zP (g := gb222) (o := .cells #[.int .i64 a0_0, .int .i64 a0_1] 26 (0, 0)) (by (with_reducible repeat (first | refine zB ?_ _ | refine zD ?_ | refine zC ?_ _)); exact BK222.out) hb); have n1_ := zA (zQ (by repeat (first | (with_reducible first | exact HB.out | apply zG | apply zE | apply zF | refine zH ?_ GE222.out) | exact HB.out)) hb); have n2_ := zA (hbox); have n3_ := zA ((by rw [hg]; exact (zR (by repeat (first | (with_reducible first | exact HB.out | apply zG | apply zE | apply zF | refine zH ?_ GE222.out) | exact HB.out))) : w.heap.size ≤ gb223)); have n4_ := zA ((by rw [hg]; exact (zR (by repeat (first | (with_reducible first | exact HB.out | apply zG | apply zE | apply zF | refine zH ?_ GE222.out) | exact HB.out))) : w.heap.size ≤ gb223)); have n5_ := zA ((by rw [hg]; exact Nat.ne_of_lt (blk_lt (g := gb222) (o := .cells #[.int .i64 a0_0, .int .i64 a0_1] 26 (0, 0)) (by (with_reducible repeat (first | refine zB ?_ _ | refine zD ?_ | refine zC ?_ _)); exact BK222.out)) : gb222 ≠ gb223)); have n6_ := zA ((by rw [hg]; exact Nat.ne_of_gt (blk_lt (g := gb222) (o := .cells #[.int .i64 a0_0, .int .i64 a0_1] 26 (0, 0)) (by (with_reducible repeat (first | refine zB ?_ _ | refine zD ?_ | refine zC ?_ _)); exact BK222.out)) : gb223 ≠ gb222)); clear BK222; clear HB; have BK222 := n0_; have HB := n1_; have BK223 := n2_; have GW223 := n3_; have GE223 := n4_; have NB222_223 := n5_; have NB223_222 := n6_; clear n0_ n1_ n2_ n3_ n4_ n5_ n6_; clear hb hbox hg) | ((with_reducible refine zS (N := 4) rfl ?_); refine zV ?hg (N := 4) ?hd (cs := #[.int .i64 0, .int .i64 0]) (t := 26) ?hr ?_; (case hd => rfl); (case hg => rfl); (case hr => first | (go_simp; done) | (go_simp; rfl)); intro gb224 hg w10 hbox hb; have n0_ := zA (zP (g := gb222) (o := .cells #[.int .i64 a0_0, .int .i64 a0_1] 26 (0, 0)) (by (with_reducible repeat (first | refine zB ?_ _ | refine zD ?_ | refine zC ?_ _)); exact BK222.out) hb); have n1_ := zA (zP (g := gb223) (o := .cells #[.int .i64 a1_0, .int .i64 a1_1] 26 (0, 0)) (by (with_reducible repeat (first | refine zB ?_ _ | refine zD ?_ | refine zC ?_ _)); exact BK223.out) hb); have n2_ := zA (zQ (by repeat (first | (with_reducible first | exact HB.out | apply zG | apply zE | apply zF | refine zH ?_ GE222.out | refine zH ?_ GE223.out) | exact HB.out)) hb); have n3_ := zA (hbox); have n4_ := zA ((by rw [hg]; exact (zR (by repeat (first | (with_reducible first | exact HB.out | apply zG | apply zE | apply zF | refine zH ?_ GE222.out | refine zH ?_ GE223.out) | exact HB.out))) : w.heap.size ≤ gb224)); have n5_ := zA ((by rw [hg]; exact (zR (by repeat (first | (with_reducible first | exact HB.out | apply zG | apply zE | apply zF | refine zH ?_ GE222.out | refine zH ?_ GE223.out) | exact HB.out))) : w.heap.size ≤ gb224)); have n6_ := zA ((by rw [hg]; exact Nat.ne_of_lt (blk_lt (g := gb222) (o := .cells #[.int .i64 a0_0, .int .i64 a0_1] 26 (0, 0)) (by (with_reducible repeat (first | refine zB ?_ _ | refine zD ?_ | refine zC ?_ _)); exact BK222.out)) : gb222 ≠ gb224)); have n7_ := zA ((by rw [hg]; exact Nat.ne_of_gt (blk_lt (g := gb222) (o := .cells #[.int .i64 a0_0, .int .i64 a0_1] 26 (0, 0)) (by (with_reducible repeat (first | refine zB ?_ _ | refine zD ?_ | refine zC ?_ _)); exact BK222.out)) : gb224 ≠ gb222)); have n8_ := zA ((by rw [hg]; exact Nat.ne_of_lt (blk_lt (g := gb223) (o := .cells #[.int .i64 a1_0, .int .i64 a1_1] 26 (0, 0)) (by (with_reducible repeat (first | refine zB ?_ _ | refine zD ?_ | refine zC ?_ _)); exact BK223.out)) : gb223 ≠ gb224)); have n9_ := zA ((by rw [hg]; exact Nat.ne_of_gt (blk_lt (g := gb223) (o := .cells #[.int .i64 a1_0, .int .i64 a1_1] 26 (0, 0)) (by (with_reducible repeat (first | refine zB ?_ _ | refine zD ?_ | refine zC ?_ _)); exact BK223.out)) : gb224 ≠ gb223)); clear BK222; clear BK223; clear HB; have BK222 := n0_; have BK223 := n1_; have HB := n2_; have BK224 := n3_; have GW224 := n4_; have GE224 := n5_; have NB222_224 := n6_; have NB224_222 := n7_; have NB223_224 := n8_; have NB224_223 := n9_; clear n0_ n1_ n2_ n3_ n4_ n5_ n6_ n7_ n8_ n9_; clear hb hbox hg; have hnb11 := NB222_223.out; have hnc11 := NB223_222.out; have hnb12 := NB222_224.out; have hnc12 := NB224_222.out; have hcz13_0 : w10.cell? ⟨gb222, 0, none⟩ = some (.int .i64 a0_0) := (zJ BK222.out 0).trans rfl; have hcz13_1 : w10.cell? ⟨gb222, 1, none⟩ = some (.int .i64 a0_1) := (zJ BK222.out 1).trans rfl; have hfz13_0 := zK BK222.out 0; have hfz13_1 := zK BK222.out 1) | ((with_reducible refine zT (f := 20) rfl ?_); refine goesL_ (some 7) rfl rfl Try.func20 (by kernel_rfl) rfl #[.agg #[.int .i64 a0_0, .int .i64 a0_1]] rfl (by (try simp only [zW, yA, yB]); first | done | rfl | (simp only [zX, zZ]; rfl)) ?_; (with_reducible refine (spec_DecOk.calls a0_0 a0_1 true _ A3.out).mono ?_); rintro e w14 ⟨rfl, hb⟩; refine ⟨_, rfl, ?_⟩; have n0_ := zA (zP (g := gb222) (o := .cells #[.int .i64 a0_0, .int .i64 a0_1] 26 (0, 0)) (by (with_reducible repeat (first | refine zB ?_ _ | refine zD ?_ | refine zC ?_ _)); exact BK222.out) hb); have n1_ := zA (zP (g := gb223) (o := .cells #[.int .i64 a1_0, .int .i64 a1_1] 26 (0, 0)) (by (with_reducible repeat (first | refine zB ?_ _ | refine zD ?_ | refine zC ?_ _)); exact BK223.out) hb); have n2_ := zA (zP (g := gb224) (o := .cells #[.int .i64 0, .int .i64 0] 26 (0, 0)) (by (with_reducible repeat (first | refine zB ?_ _ | refine zD ?_ | refine zC ?_ _)); exact BK224.out) hb); have n3_ := zA (zQ (by repeat (first | (with_reducible first | exact HB.out | apply zG | apply zE | apply zF | refine zH ?_ GE222.out | refine zH ?_ GE223.out | refine zH ?_ GE224.out) | exact HB.out)) hb); clear BK222; clear BK223; clear BK224; clear HB; have BK222 := n0_; have BK223 := n1_; have BK224 := n2_; have HB := n3_; clear n0_ n1_ n2_ n3_; (try clear hb); (try clear hb2); (try clear hk); (try clear hi); have hnb15 := NB223_224.out; have hnc15 := NB224_223.out; have hcz16_0 : w14.cell? ⟨gb223, 0, none⟩ = some (.int .i64 a1_0) := (zJ BK223.out 0).trans rfl; have hcz16_1 : w14.cell? ⟨gb223, 1, none⟩ = some (.int .i64 a1_1) := (zJ BK223.out 1).trans rfl; have hfz16_0 := zK BK223.out 0; have hfz16_1 := zK BK223.out 1) | (go_at_call 20; (with_reducible refine (spec_DecOk.calls a1_0 a1_1 true _ A5.out).mono ?_); rintro e w17 ⟨rfl, hb⟩; have n0_ := zA (zP (g := gb222) (o := .cells #[.int .i64 a0_0, .int .i64 a0_1] 26 (0, 0)) (by (with_reducible repeat (first | refine zB ?_ _ | refine zD ?_ | refine zC ?_ _)); exact BK222.out) hb); have n1_ := zA (zP (g := gb223) (o := .cells #[.int .i64 a1_0, .int .i64 a1_1] 26 (0, 0)) (by (with_reducible repeat (first | refine zB ?_ _ | refine zD ?_ | refine zC ?_ _)); exact BK223.out) hb); have n2_ := zA (zP (g := gb224) (o := .cells #[.int .i64 0, .int .i64 0] 26 (0, 0)) (by (with_reducible repeat (first | refine zB ?_ _ | refine zD ?_ | refine zC ?_ _)); exact BK224.out) hb); have n3_ := zA (zQ (by repeat (first | (with_reducible first | exact HB.out | apply zG | apply zE | apply zF | refine zH ?_ GE222.out | refine zH ?_ GE223.out | refine zH ?_ GE224.out) | exact HB.out)) hb); clear BK222; clear BK223; clear BK224; clear HB; have BK222 := n0_; have BK223 := n1_; have BK224 := n2_; have HB := n3_; clear n0_ n1_ n2_ n3_; (try clear hb); (try clear hb2); (try clear hk); (try clear hi); have hcz18_0 : w17.cell? ⟨gb222, 0, none⟩ = some (.int .i64 a0_0) := (zJ BK222.out 0).trans rfl; have hcz18_1 : w17.cell? ⟨gb222, 1, none⟩ = some (.int .i64 a0_1) := (zJ BK222.out 1).trans rfl; have hfz18_0 := zK BK222.out 0; have hfz18_1 := zK BK222.out 1; have hcz19_0 : w17.cell? ⟨gb223, 0, none⟩ = some (.int .i64 a1_0) := (zJ BK223.out 0).trans rfl; have hcz19_1 : w17.cell? ⟨gb223, 1, none⟩ = some (.int .i64 a1_1) := (zJ BK223.out 1).trans rfl; have hfz19_0 := zK BK223.out 0; have hfz19_1 := zK BK223.out 1) | ((with_reducible refine zT (f := 49) rfl ?_); refine goesL_ (some 25) rfl rfl Try.func49 (by kernel_rfl) rfl #[.int .i64 (wrap64 (a0_0 * a1_0)), .int .i64 (wrap64 (a0_1 + a1_1))] rfl (by (try simp only [zW, yA, yB]); first | done | rfl | (simp only [zX, zZ]; rfl)) ?_; (with_reducible refine (spec_l1New.calls k (wrap64 (a0_0 * a1_0)) (wrap64 (a0_1 + a1_1)) t227 t228 t229 _ A7.out).mono ?_); rintro e w20 ⟨rfl, hb⟩; refine ⟨_, rfl, ?_⟩; have n0_ := zA (zP (g := gb222) (o := .cells #[.int .i64 a0_0, .int .i64 a0_1] 26 (0, 0)) (by (with_reducible repeat (first | refine zB ?_ _ | refine zD ?_ | refine zC ?_ _)); exact BK222.out) hb); have n1_ := zA (zP (g := gb223) (o := .cells #[.int .i64 a1_0, .int .i64 a1_1] 26 (0, 0)) (by (with_reducible repeat (first | refine zB ?_ _ | refine zD ?_ | refine zC ?_ _)); exact BK223.out) hb); have n2_ := zA (zP (g := gb224) (o := .cells #[.int .i64 0, .int .i64 0] 26 (0, 0)) (by (with_reducible repeat (first | refine zB ?_ _ | refine zD ?_ | refine zC ?_ _)); exact BK224.out) hb); have n3_ := zA (zQ (by repeat (first | (with_reducible first | exact HB.out | apply zG | apply zE | apply zF | refine zH ?_ GE222.out | refine zH ?_ GE223.out | refine zH ?_ GE224.out) | exact HB.out)) hb); clear BK222; clear BK223; clear BK224; clear HB; have BK222 := n0_; have BK223 := n1_; have BK224 := n2_; have HB := n3_; clear n0_ n1_ n2_ n3_; (try clear hb); (try clear hb2); (try clear hk); (try clear hi); have hcz21_0 : w20.cell? ⟨gb224, 0, none⟩ = some (.int .i64 0) := (zJ BK224.out 0).trans rfl; have hcz21_1 : w20.cell? ⟨gb224, 1, none⟩ = some (.int .i64 0) := (zJ BK224.out 1).trans rfl; have hfz21_0 := zK BK224.out 0; have hfz21_1 := zK BK224.out 1))
   refine bodyPost_ret (results_ct rfl _ _ gb224 26 #[.int .i64 t227, .int .i64 t228] (0, 0) _ rfl (by (with_reducible repeat (first | refine zB ?_ _ | refine zD ?_ | refine zC ?_ _)); refine blk_put (cs := #[.int .i64 t227, .int .i64 0]) ?_ 1 _ rfl; (with_reducible repeat (first | refine zB ?_ _ | refine zD ?_ | refine zC ?_ _)); refine blk_put (cs := #[.int .i64 0, .int .i64 0]) ?_ 0 _ rfl; (with_reducible repeat (first | refine zB ?_ _ | refine zD ?_ | refine zC ?_ _)); exact BK224.out) Try.underlying26 rfl (by kernel_rfl)) rfl ?_
   exact ⟨by first | rfl | (simp [errW_none, errW_some] <;> rfl) | (simp [*, errW_none, errW_some] <;> rfl), by repeat (first | (with_reducible first | exact HB.out | apply zG | apply zE | apply zF | refine zH ?_ GE222.out | refine zH ?_ GE223.out | refine zH ?_ GE224.out) | exact HB.out)⟩
  ·replace c6 := Bool.eq_false_iff.mpr c6
   subst c6
   have H1 : (some (0, 0, false)) = some (r1, r2, r3) := by rw [if_neg (show ¬ (false = true) by decide)] at H; exact H
   clear H
   have H := H1
   clear H1
   simp only [Option.some.injEq, Prod.mk.injEq] at H
   obtain ⟨rfl, rfl, rfl⟩ := H
   go_enter Try.func19, Try.ntmps19
   go_wp2_with (first | ((with_reducible refine zS (N := 2) rfl ?_); refine zV ?hg (N := 2) ?hd (cs := #[.int .i64 a0_0, .int .i64 a0_1]) (t := 26) ?hr ?_; (case hd => rfl); (case hg => rfl); (case hr => first | (go_simp; done) | (go_simp; rfl)); intro gb222 hg w22 hbox hb; have n0_ := zA (zQ (by repeat (first | (with_reducible first | exact HB.out | apply zG | apply zE | apply zF) | exact HB.out)) hb); have n1_ := zA (hbox); have n2_ := zA ((by rw [hg]; exact (zR (by repeat (first | (with_reducible first | exact HB.out | apply zG | apply zE | apply zF) | exact HB.out))) : w.heap.size ≤ gb222)); have n3_ := zA ((by rw [hg]; exact (zR (by repeat (first | (with_reducible first | exact HB.out | apply zG | apply zE | apply zF) | exact HB.out))) : w.heap.size ≤ gb222)); clear HB; have HB := n0_; have BK222 := n1_; have GW222 := n2_; have GE222 := n3_; clear n0_ n1_ n2_ n3_; clear hb hbox hg) | ((with_reducible refine zS (N := 3) rfl ?_); refine zV ?hg (N := 3) ?hd (cs := #[.int .i64 a1_0, .int .i64 a1_1]) (t := 26) ?hr ?_; (case hd => rfl); (case hg => rfl); (case hr => first | (go_simp; done) | (go_simp; rfl)); intro gb223 hg w23 hbox hb; have n0_ := zA (zP (g := gb222) (o := .cells #[.int .i64 a0_0, .int .i64 a0_1] 26 (0, 0)) (by (with_reducible repeat (first | refine zB ?_ _ | refine zD ?_ | refine zC ?_ _)); exact BK222.out) hb); have n1_ := zA (zQ (by repeat (first | (with_reducible first | exact HB.out | apply zG | apply zE | apply zF | refine zH ?_ GE222.out) | exact HB.out)) hb); have n2_ := zA (hbox); have n3_ := zA ((by rw [hg]; exact (zR (by repeat (first | (with_reducible first | exact HB.out | apply zG | apply zE | apply zF | refine zH ?_ GE222.out) | exact HB.out))) : w.heap.size ≤ gb223)); have n4_ := zA ((by rw [hg]; exact (zR (by repeat (first | (with_reducible first | exact HB.out | apply zG | apply zE | apply zF | refine zH ?_ GE222.out) | exact HB.out))) : w.heap.size ≤ gb223)); have n5_ := zA ((by rw [hg]; exact Nat.ne_of_lt (blk_lt (g := gb222) (o := .cells #[.int .i64 a0_0, .int .i64 a0_1] 26 (0, 0)) (by (with_reducible repeat (first | refine zB ?_ _ | refine zD ?_ | refine zC ?_ _)); exact BK222.out)) : gb222 ≠ gb223)); have n6_ := zA ((by rw [hg]; exact Nat.ne_of_gt (blk_lt (g := gb222) (o := .cells #[.int .i64 a0_0, .int .i64 a0_1] 26 (0, 0)) (by (with_reducible repeat (first | refine zB ?_ _ | refine zD ?_ | refine zC ?_ _)); exact BK222.out)) : gb223 ≠ gb222)); clear BK222; clear HB; have BK222 := n0_; have HB := n1_; have BK223 := n2_; have GW223 := n3_; have GE223 := n4_; have NB222_223 := n5_; have NB223_222 := n6_; clear n0_ n1_ n2_ n3_ n4_ n5_ n6_; clear hb hbox hg) | ((with_reducible refine zS (N := 4) rfl ?_); refine zV ?hg (N := 4) ?hd (cs := #[.int .i64 0, .int .i64 0]) (t := 26) ?hr ?_; (case hd => rfl); (case hg => rfl); (case hr => first | (go_simp; done) | (go_simp; rfl)); intro gb224 hg w24 hbox hb; have n0_ := zA (zP (g := gb222) (o := .cells #[.int .i64 a0_0, .int .i64 a0_1] 26 (0, 0)) (by (with_reducible repeat (first | refine zB ?_ _ | refine zD ?_ | refine zC ?_ _)); exact BK222.out) hb); have n1_ := zA (zP (g := gb223) (o := .cells #[.int .i64 a1_0, .int .i64 a1_1] 26 (0, 0)) (by (with_reducible repeat (first | refine zB ?_ _ | refine zD ?_ | refine zC ?_ _)); exact BK223.out) hb); have n2_ := zA (zQ (by repeat (first | (with_reducible first | exact HB.out | apply zG | apply zE | apply zF | refine zH ?_ GE222.out | refine zH ?_ GE223.out) | exact HB.out)) hb); have n3_ := zA (hbox); have n4_ := zA ((by rw [hg]; exact (zR (by repeat (first | (with_reducible first | exact HB.out | apply zG | apply zE | apply zF | refine zH ?_ GE222.out | refine zH ?_ GE223.out) | exact HB.out))) : w.heap.size ≤ gb224)); have n5_ := zA ((by rw [hg]; exact (zR (by repeat (first | (with_reducible first | exact HB.out | apply zG | apply zE | apply zF | refine zH ?_ GE222.out | refine zH ?_ GE223.out) | exact HB.out))) : w.heap.size ≤ gb224)); have n6_ := zA ((by rw [hg]; exact Nat.ne_of_lt (blk_lt (g := gb222) (o := .cells #[.int .i64 a0_0, .int .i64 a0_1] 26 (0, 0)) (by (with_reducible repeat (first | refine zB ?_ _ | refine zD ?_ | refine zC ?_ _)); exact BK222.out)) : gb222 ≠ gb224)); have n7_ := zA ((by rw [hg]; exact Nat.ne_of_gt (blk_lt (g := gb222) (o := .cells #[.int .i64 a0_0, .int .i64 a0_1] 26 (0, 0)) (by (with_reducible repeat (first | refine zB ?_ _ | refine zD ?_ | refine zC ?_ _)); exact BK222.out)) : gb224 ≠ gb222)); have n8_ := zA ((by rw [hg]; exact Nat.ne_of_lt (blk_lt (g := gb223) (o := .cells #[.int .i64 a1_0, .int .i64 a1_1] 26 (0, 0)) (by (with_reducible repeat (first | refine zB ?_ _ | refine zD ?_ | refine zC ?_ _)); exact BK223.out)) : gb223 ≠ gb224)); have n9_ := zA ((by rw [hg]; exact Nat.ne_of_gt (blk_lt (g := gb223) (o := .cells #[.int .i64 a1_0, .int .i64 a1_1] 26 (0, 0)) (by (with_reducible repeat (first | refine zB ?_ _ | refine zD ?_ | refine zC ?_ _)); exact BK223.out)) : gb224 ≠ gb223)); clear BK222; clear BK223; clear HB; have BK222 := n0_; have BK223 := n1_; have HB := n2_; have BK224 := n3_; have GW224 := n4_; have GE224 := n5_; have NB222_224 := n6_; have NB224_222 := n7_; have NB223_224 := n8_; have NB224_223 := n9_; clear n0_ n1_ n2_ n3_ n4_ n5_ n6_ n7_ n8_ n9_; clear hb hbox hg; have hnb25 := NB222_223.out; have hnc25 := NB223_222.out; have hnb26 := NB222_224.out; have hnc26 := NB224_222.out; have hcz27_0 : w24.cell? ⟨gb222, 0, none⟩ = some (.int .i64 a0_0) := (zJ BK222.out 0).trans rfl; have hcz27_1 : w24.cell? ⟨gb222, 1, none⟩ = some (.int .i64 a0_1) := (zJ BK222.out 1).trans rfl; have hfz27_0 := zK BK222.out 0; have hfz27_1 := zK BK222.out 1) | ((with_reducible refine zT (f := 20) rfl ?_); refine goesL_ (some 7) rfl rfl Try.func20 (by kernel_rfl) rfl #[.agg #[.int .i64 a0_0, .int .i64 a0_1]] rfl (by (try simp only [zW, yA, yB]); first | done | rfl | (simp only [zX, zZ]; rfl)) ?_; (with_reducible refine (spec_DecOk.calls a0_0 a0_1 true _ A3.out).mono ?_); rintro e w28 ⟨rfl, hb⟩; refine ⟨_, rfl, ?_⟩; have n0_ := zA (zP (g := gb222) (o := .cells #[.int .i64 a0_0, .int .i64 a0_1] 26 (0, 0)) (by (with_reducible repeat (first | refine zB ?_ _ | refine zD ?_ | refine zC ?_ _)); exact BK222.out) hb); have n1_ := zA (zP (g := gb223) (o := .cells #[.int .i64 a1_0, .int .i64 a1_1] 26 (0, 0)) (by (with_reducible repeat (first | refine zB ?_ _ | refine zD ?_ | refine zC ?_ _)); exact BK223.out) hb); have n2_ := zA (zP (g := gb224) (o := .cells #[.int .i64 0, .int .i64 0] 26 (0, 0)) (by (with_reducible repeat (first | refine zB ?_ _ | refine zD ?_ | refine zC ?_ _)); exact BK224.out) hb); have n3_ := zA (zQ (by repeat (first | (with_reducible first | exact HB.out | apply zG | apply zE | apply zF | refine zH ?_ GE222.out | refine zH ?_ GE223.out | refine zH ?_ GE224.out) | exact HB.out)) hb); clear BK222; clear BK223; clear BK224; clear HB; have BK222 := n0_; have BK223 := n1_; have BK224 := n2_; have HB := n3_; clear n0_ n1_ n2_ n3_; (try clear hb); (try clear hb2); (try clear hk); (try clear hi); have hnb29 := NB223_224.out; have hnc29 := NB224_223.out; have hcz30_0 : w28.cell? ⟨gb223, 0, none⟩ = some (.int .i64 a1_0) := (zJ BK223.out 0).trans rfl; have hcz30_1 : w28.cell? ⟨gb223, 1, none⟩ = some (.int .i64 a1_1) := (zJ BK223.out 1).trans rfl; have hfz30_0 := zK BK223.out 0; have hfz30_1 := zK BK223.out 1) | (go_at_call 20; (with_reducible refine (spec_DecOk.calls a1_0 a1_1 false _ A5.out).mono ?_); rintro e w31 ⟨rfl, hb⟩; have n0_ := zA (zP (g := gb222) (o := .cells #[.int .i64 a0_0, .int .i64 a0_1] 26 (0, 0)) (by (with_reducible repeat (first | refine zB ?_ _ | refine zD ?_ | refine zC ?_ _)); exact BK222.out) hb); have n1_ := zA (zP (g := gb223) (o := .cells #[.int .i64 a1_0, .int .i64 a1_1] 26 (0, 0)) (by (with_reducible repeat (first | refine zB ?_ _ | refine zD ?_ | refine zC ?_ _)); exact BK223.out) hb); have n2_ := zA (zP (g := gb224) (o := .cells #[.int .i64 0, .int .i64 0] 26 (0, 0)) (by (with_reducible repeat (first | refine zB ?_ _ | refine zD ?_ | refine zC ?_ _)); exact BK224.out) hb); have n3_ := zA (zQ (by repeat (first | (with_reducible first | exact HB.out | apply zG | apply zE | apply zF | refine zH ?_ GE222.out | refine zH ?_ GE223.out | refine zH ?_ GE224.out) | exact HB.out)) hb); clear BK222; clear BK223; clear BK224; clear HB; have BK222 := n0_; have BK223 := n1_; have BK224 := n2_; have HB := n3_; clear n0_ n1_ n2_ n3_; (try clear hb); (try clear hb2); (try clear hk); (try clear hi); have hcz32_0 : w31.cell? ⟨gb224, 0, none⟩ = some (.int .i64 0) := (zJ BK224.out 0).trans rfl; have hcz32_1 : w31.cell? ⟨gb224, 1, none⟩ = some (.int .i64 0) := (zJ BK224.out 1).trans rfl; have hfz32_0 := zK BK224.out 0; have hfz32_1 := zK BK224.out 1))
   refine bodyPost_ret (results_ct rfl _ _ gb224 26 #[.int .i64 0, .int .i64 0] (0, 0) _ rfl (by (with_reducible repeat (first | refine zB ?_ _ | refine zD ?_ | refine zC ?_ _)); refine blk_put (cs := #[.int .i64 0, .int .i64 0]) ?_ 1 _ rfl; (with_reducible repeat (first | refine zB ?_ _ | refine zD ?_ | refine zC ?_ _)); refine blk_put (cs := #[.int .i64 0, .int .i64 0]) ?_ 0 _ rfl; (with_reducible repeat (first | refine zB ?_ _ | refine zD ?_ | refine zC ?_ _)); exact BK224.out) Try.underlying26 rfl (by kernel_rfl)) rfl ?_
   exact ⟨by first | rfl | (simp [errW_none, errW_some] <;> rfl) | (simp [*, errW_none, errW_some] <;> rfl), by repeat (first | (with_reducible first | exact HB.out | apply zG | apply zE | apply zF | refine zH ?_ GE222.out | refine zH ?_ GE223.out | refine zH ?_ GE224.out) | exact HB.out)⟩
 ·replace c4 := Bool.eq_false_iff.mpr c4
  subst c4
  have H1 : (some (0, 0, false)) = some (r1, r2, r3) := by rw [if_neg (show ¬ (false = true) by decide)] at H; exact H
  clear H
  have H := H1
  clear H1
  simp only [Option.some.injEq, Prod.mk.injEq] at H
  obtain ⟨rfl, rfl, rfl⟩ := H
  go_enter Try.func19, Try.ntmps19
  go_wp2_with (first | ((with_reducible refine zS (N := 2) rfl ?_); refine zV ?hg (N := 2) ?hd (cs := #[.int .i64 a0_0, .int .i64 a0_1]) (t := 26) ?hr ?_; (case hd => rfl); (case hg => rfl); (case hr => first | (go_simp; done) | (go_simp; rfl)); intro gb222 hg w33 hbox hb; have n0_ := zA (zQ (by repeat (first | (with_reducible first | exact HB.out | apply zG | apply zE | apply zF) | exact HB.out)) hb); have n1_ := zA (hbox); have n2_ := zA ((by rw [hg]; exact (zR (by repeat (first | (with_reducible first | exact HB.out | apply zG | apply zE | apply zF) | exact HB.out))) : w.heap.size ≤ gb222)); have n3_ := zA ((by rw [hg]; exact (zR (by repeat (first | (with_reducible first | exact HB.out | apply zG | apply zE | apply zF) | exact HB.out))) : w.heap.size ≤ gb222)); clear HB; have HB := n0_; have BK222 := n1_; have GW222 := n2_; have GE222 := n3_; clear n0_ n1_ n2_ n3_; clear hb hbox hg) | ((with_reducible refine zS (N := 3) rfl ?_); refine zV ?hg (N := 3) ?hd (cs := #[.int .i64 a1_0, .int .i64 a1_1]) (t := 26) ?hr ?_; (case hd => rfl); (case hg => rfl); (case hr => first | (go_simp; done) | (go_simp; rfl)); intro gb223 hg w34 hbox hb; have n0_ := zA (zP (g := gb222) (o := .cells #[.int .i64 a0_0, .int .i64 a0_1] 26 (0, 0)) (by (with_reducible repeat (first | refine zB ?_ _ | refine zD ?_ | refine zC ?_ _)); exact BK222.out) hb); have n1_ := zA (zQ (by repeat (first | (with_reducible first | exact HB.out | apply zG | apply zE | apply zF | refine zH ?_ GE222.out) | exact HB.out)) hb); have n2_ := zA (hbox); have n3_ := zA ((by rw [hg]; exact (zR (by repeat (first | (with_reducible first | exact HB.out | apply zG | apply zE | apply zF | refine zH ?_ GE222.out) | exact HB.out))) : w.heap.size ≤ gb223)); have n4_ := zA ((by rw [hg]; exact (zR (by repeat (first | (with_reducible first | exact HB.out | apply zG | apply zE | apply zF | refine zH ?_ GE222.out) | exact HB.out))) : w.heap.size ≤ gb223)); have n5_ := zA ((by rw [hg]; exact Nat.ne_of_lt (blk_lt (g := gb222) (o := .cells #[.int .i64 a0_0, .int .i64 a0_1] 26 (0, 0)) (by (with_reducible repeat (first | refine zB ?_ _ | refine zD ?_ | refine zC ?_ _)); exact BK222.out)) : gb222 ≠ gb223)); have n6_ := zA ((by rw [hg]; exact Nat.ne_of_gt (blk_lt (g := gb222) (o := .cells #[.int .i64 a0_0, .int .i64 a0_1] 26 (0, 0)) (by (with_reducible repeat (first | refine zB ?_ _ | refine zD ?_ | refine zC ?_ _)); exact BK222.out)) : gb223 ≠ gb222)); clear BK222; clear HB; have BK222 := n0_; have HB := n1_; have BK223 := n2_; have GW223 := n3_; have GE223 := n4_; have NB222_223 := n5_; have NB223_222 := n6_; clear n0_ n1_ n2_ n3_ n4_ n5_ n6_; clear hb hbox hg) | ((with_reducible refine zS (N := 4) rfl ?_); refine zV ?hg (N := 4) ?hd (cs := #[.int .i64 0, .int .i64 0]) (t := 26) ?hr ?_; (case hd => rfl); (case hg => rfl); (case hr => first | (go_simp; done) | (go_simp; rfl)); intro gb224 hg w35 hbox hb; have n0_ := zA (zP (g := gb222) (o := .cells #[.int .i64 a0_0, .int .i64 a0_1] 26 (0, 0)) (by (with_reducible repeat (first | refine zB ?_ _ | refine zD ?_ | refine zC ?_ _)); exact BK222.out) hb); have n1_ := zA (zP (g := gb223) (o := .cells #[.int .i64 a1_0, .int .i64 a1_1] 26 (0, 0)) (by (with_reducible repeat (first | refine zB ?_ _ | refine zD ?_ | refine zC ?_ _)); exact BK223.out) hb); have n2_ := zA (zQ (by repeat (first | (with_reducible first | exact HB.out | apply zG | apply zE | apply zF | refine zH ?_ GE222.out | refine zH ?_ GE223.out) | exact HB.out)) hb); have n3_ := zA (hbox); have n4_ := zA ((by rw [hg]; exact (zR (by repeat (first | (with_reducible first | exact HB.out | apply zG | apply zE | apply zF | refine zH ?_ GE222.out | refine zH ?_ GE223.out) | exact HB.out))) : w.heap.size ≤ gb224)); have n5_ := zA ((by rw [hg]; exact (zR (by repeat (first | (with_reducible first | exact HB.out | apply zG | apply zE | apply zF | refine zH ?_ GE222.out | refine zH ?_ GE223.out) | exact HB.out))) : w.heap.size ≤ gb224)); have n6_ := zA ((by rw [hg]; exact Nat.ne_of_lt (blk_lt (g := gb222) (o := .cells #[.int .i64 a0_0, .int .i64 a0_1] 26 (0, 0)) (by (with_reducible repeat (first | refine zB ?_ _ | refine zD ?_ | refine zC ?_ _)); exact BK222.out)) : gb222 ≠ gb224)); have n7_ := zA ((by rw [hg]; exact Nat.ne_of_gt (blk_lt (g := gb222) (o := .cells #[.int .i64 a0_0, .int .i64 a0_1] 26 (0, 0)) (by (with_reducible repeat (first | refine zB ?_ _ | refine zD ?_ | refine zC ?_ _)); exact BK222.out)) : gb224 ≠ gb222)); have n8_ := zA ((by rw [hg]; exact Nat.ne_of_lt (blk_lt (g := gb223) (o := .cells #[.int .i64 a1_0, .int .i64 a1_1] 26 (0, 0)) (by (with_reducible repeat (first | refine zB ?_ _ | refine zD ?_ | refine zC ?_ _)); exact BK223.out)) : gb223 ≠ gb224)); have n9_ := zA ((by rw [hg]; exact Nat.ne_of_gt (blk_lt (g := gb223) (o := .cells #[.int .i64 a1_0, .int .i64 a1_1] 26 (0, 0)) (by (with_reducible repeat (first | refine zB ?_ _ | refine zD ?_ | refine zC ?_ _)); exact BK223.out)) : gb224 ≠ gb223)); clear BK222; clear BK223; clear HB; have BK222 := n0_; have BK223 := n1_; have HB := n2_; have BK224 := n3_; have GW224 := n4_; have GE224 := n5_; have NB222_224 := n6_; have NB224_222 := n7_; have NB223_224 := n8_; have NB224_223 := n9_; clear n0_ n1_ n2_ n3_ n4_ n5_ n6_ n7_ n8_ n9_; clear hb hbox hg; have hnb36 := NB222_223.out; have hnc36 := NB223_222.out; have hnb37 := NB222_224.out; have hnc37 := NB224_222.out; have hcz38_0 : w35.cell? ⟨gb222, 0, none⟩ = some (.int .i64 a0_0) := (zJ BK222.out 0).trans rfl; have hcz38_1 : w35.cell? ⟨gb222, 1, none⟩ = some (.int .i64 a0_1) := (zJ BK222.out 1).trans rfl; have hfz38_0 := zK BK222.out 0; have hfz38_1 := zK BK222.out 1) | ((with_reducible refine zT (f := 20) rfl ?_); refine goesL_ (some 7) rfl rfl Try.func20 (by kernel_rfl) rfl #[.agg #[.int .i64 a0_0, .int .i64 a0_1]] rfl (by (try simp only [zW, yA, yB]); first | done | rfl | (simp only [zX, zZ]; rfl)) ?_; (with_reducible refine (spec_DecOk.calls a0_0 a0_1 false _ A3.out).mono ?_); rintro e w39 ⟨rfl, hb⟩; refine ⟨_, rfl, ?_⟩; have n0_ := zA (zP (g := gb222) (o := .cells #[.int .i64 a0_0, .int .i64 a0_1] 26 (0, 0)) (by (with_reducible repeat (first | refine zB ?_ _ | refine zD ?_ | refine zC ?_ _)); exact BK222.out) hb); have n1_ := zA (zP (g := gb223) (o := .cells #[.int .i64 a1_0, .int .i64 a1_1] 26 (0, 0)) (by (with_reducible repeat (first | refine zB ?_ _ | refine zD ?_ | refine zC ?_ _)); exact BK223.out) hb); have n2_ := zA (zP (g := gb224) (o := .cells #[.int .i64 0, .int .i64 0] 26 (0, 0)) (by (with_reducible repeat (first | refine zB ?_ _ | refine zD ?_ | refine zC ?_ _)); exact BK224.out) hb); have n3_ := zA (zQ (by repeat (first | (with_reducible first | exact HB.out | apply zG | apply zE | apply zF | refine zH ?_ GE222.out | refine zH ?_ GE223.out | refine zH ?_ GE224.out) | exact HB.out)) hb); clear BK222; clear BK223; clear BK224; clear HB; have BK222 := n0_; have BK223 := n1_; have BK224 := n2_; have HB := n3_; clear n0_ n1_ n2_ n3_; (try clear hb); (try clear hb2); (try clear hk); (try clear hi); have hnb40 := NB224_223.out; have hnc40 := NB223_224.out; have hcz41_0 : w39.cell? ⟨gb224, 0, none⟩ = some (.int .i64 0) := (zJ BK224.out 0).trans rfl; have hcz41_1 : w39.cell? ⟨gb224, 1, none⟩ = some (.int .i64 0) := (zJ BK224.out 1).trans rfl; have hfz41_0 := zK BK224.out 0; have hfz41_1 := zK BK224.out 1))
  refine bodyPost_ret (results_ct rfl _ _ gb224 26 #[.int .i64 0, .int .i64 0] (0, 0) _ rfl (by (with_reducible repeat (first | refine zB ?_ _ | refine zD ?_ | refine zC ?_ _)); refine blk_put (cs := #[.int .i64 0, .int .i64 0]) ?_ 1 _ rfl; (with_reducible repeat (first | refine zB ?_ _ | refine zD ?_ | refine zC ?_ _)); refine blk_put (cs := #[.int .i64 0, .int .i64 0]) ?_ 0 _ rfl; (with_reducible repeat (first | refine zB ?_ _ | refine zD ?_ | refine zC ?_ _)); exact BK224.out) Try.underlying26 rfl (by kernel_rfl)) rfl ?_
  exact ⟨by first | rfl | (simp [errW_none, errW_some] <;> rfl) | (simp [*, errW_none, errW_some] <;> rfl), by repeat (first | (with_reducible first | exact HB.out | apply zG | apply zE | apply zF | refine zH ?_ GE222.out | refine zH ?_ GE223.out | refine zH ?_ GE224.out) | exact HB.out)⟩

end Go.Proofs.Ytmoaolcioihjnaa.Q

namespace Go.Proofs.Ytmoaolcioihjnaa.Q
open Go.RowKit Go.Proofs.YtmoaolcioihjnaaW.PrintWords Go.Proofs.YtmoaolcioihjnaaW.PrintLast Go.Proofs.YtmoaolcioihjnaaW.PrintMore Go.Proofs.YtmoaolcioihjnaaX
attribute [local go_sem] max2_int min2_int max_two min_two max_three min_three max_four min_four   -- for this text's walks alone
set_option linter.unusedVariables false
set_option linter.unusedSimpArgs false

def spec_DecAdd.f (k : Nat) (a0_0 : Int) (a0_1 : Int) (a1_0 : Int) (a1_1 : Int) : Option (Int × Int × Bool) := (spec_DecOk.f a0_0 a0_1).bind fun t280 => (if t280 = true then ((spec_DecOk.f a1_0 a1_1).bind fun t281 => (if t281 = true then ((spec_l1Add.f k a0_0 a0_1 a1_0 a1_1).bind fun bt282 => (some (bt282.1, bt282.2.1, bt282.2.2))) else (some (0, 0, false)))) else (some (0, 0, false)))
theorem spec_DecAdd.mono : ∀ a0 a1 a2 a3 k, LeO (spec_DecAdd.f k a0 a1 a2 a3) (spec_DecAdd.f (k + 1) a0 a1 a2 a3) := by
 intro a0 a1 a2 a3 k
 unfold spec_DecAdd.f
 repeat' first
   | (with_reducible exact spec_l1Add.mono _ _ _ _ _)
   | (with_reducible exact LeO.refl _)
   | (with_reducible exact LeO.none _)
   | (with_reducible refine LeO.ite ?_ ?_)
   | (with_reducible refine LeO.bind ?_ (fun _ => ?_))
   | exact spec_l1Add.mono _ _ _ _ _
   | exact LeO.none _
   | refine LeO.ite ?_ ?_
   | refine LeO.bind ?_ (fun _ => ?_)
set_option maxHeartbeats 8000000 in
set_option maxRecDepth 100000 in
theorem spec_DecAdd.calls (k : Nat) (a0_0 : Int) (a0_1 : Int) (a1_0 : Int) (a1_1 : Int) (r1 : Int) (r2 : Int) (r3 : Bool) (w : World) (h : spec_DecAdd.f k a0_0 a0_1 a1_0 a1_1 = some (r1, r2, r3)) :
  Calls Try.prog 23 #[.agg #[.int .i64 a0_0, .int .i64 a0_1], .agg #[.int .i64 a1_0, .int .i64 a1_1]] w fun e w' => e = .returned (.tuple #[.agg #[.int .i64 r1, .int .i64 r2], .bool r3]) ∧ Below w.heap.size w w' := by
 have hu26 := Try.underlying26
 have HB := zA (Below.refl w.heap.size w)
 have H : ((spec_DecOk.f a0_0 a0_1).bind fun t280 => (if t280 = true then ((spec_DecOk.f a1_0 a1_1).bind fun t281 => (if t281 = true then ((spec_l1Add.f k a0_0 a0_1 a1_0 a1_1).bind fun bt282 => (some (bt282.1, bt282.2.1, bt282.2.2))) else (some (0, 0, false)))) else (some (0, 0, false)))) = some (r1, r2, r3) := h
 clear h
 replace H := Option.bind_eq_some_iff.mp H
 obtain ⟨t280, A30, H⟩ := H
 replace H : (if t280 = true then ((spec_DecOk.f a1_0 a1_1).bind fun t281 => (if t281 = true then ((spec_l1Add.f k a0_0 a0_1 a1_0 a1_1).bind fun bt282 => (some (bt282.1, bt282.2.1, bt282.2.2))) else (some (0, 0, false)))) else (some (0, 0, false))) = some (r1, r2, r3) := H
 have A3 := zA A30
 clear A30
 by_cases c4 : t280 = true
 ·subst c4
  have H1 : ((spec_DecOk.f a1_0 a1_1).bind fun t281 => (if t281 = true then ((spec_l1Add.f k a0_0 a0_1 a1_0 a1_1).bind fun bt282 => (some (bt282.1, bt282.2.1, bt282.2.2))) else (some (0, 0, false)))) = some (r1, r2, r3) := by rw [if_pos rfl] at H; exact H
  clear H
  have H := H1
  clear H1
  replace H := Option.bind_eq_some_iff.mp H
  obtain ⟨t281, A50, H⟩ := H
  replace H : (if t281 = true then ((spec_l1Add.f k a0_0 a0_1 a1_0 a1_1).bind fun bt282 => (some (bt282.1, bt282.2.1, bt282.2.2))) else (some (0, 0, false))) = some (r1, r2, r3) := H
  have A5 := zA A50
  clear A50
  by_cases c6 : t281 = true
  ·subst c6
   have H1 : ((spec_l1Add.f k a0_0 a0_1 a1_0 a1_1).bind fun bt282 => (some (bt282.1, bt282.2.1, bt282.2.2))) = some (r1, r2, r3) := by rw [if_pos rfl] at H; exact H
   clear H
   have H := H1
   clear H1
   replace H := Option.bind_eq_some_iff.mp H
   obtain ⟨⟨t282, t283, t284⟩, A70, H⟩ := H
   replace H : (some (t282, t283, t284)) = some (r1, r2, r3) := H
   have A7 := zA A70
   clear A70
   simp only [Option.some.injEq, Prod.mk.injEq] at H
   obtain ⟨rfl, rfl, rfl⟩ := H
   go_enter Try.func23, Try.ntmps23
   go_wp2_with (first | ((with_reducible refine zS (N := 2) rfl ?_); refine zV ?hg (N := 2) ?hd (cs := #[.int .i64 a0_0, .int .i64 a0_1]) (t := 26) ?hr ?_; (case hd => rfl); (case hg => rfl); (case hr => first | (go_simp; done) | (go_simp; rfl)); intro gb277 hg w8 hbox hb; have n0_ := zA (zQ (by repeat (first | (with_reducible first | exact HB.out | apply zG | apply zE | apply zF) | exact HB.out)) hb); have n1_ := zA (hbox); have n2_ := zA ((by rw [hg]; exact (zR (by repeat (first | (with_reducible first | exact HB.out | apply zG | apply zE | apply zF) | exact HB.out))) : w.heap.size ≤ gb277)); have n3_ := zA ((by rw [hg]; exact (zR (by repeat (first | (with_reducible first | exact HB.out | apply zG | apply zE | apply zF) | exact HB.out))) : w.heap.size ≤ gb277)); clear HB; have HB := n0_; have BK277 := n1_; have GW277 := n2_; have GE277 := n3_; clear n0_ n1_ n2_ n3_; clear hb hbox hg) | ((with_reducible refine zS (N := 3) rfl ?_); refine zV ?hg (N := 3) ?hd (cs := #[.int .i64 a1_0, .int .i64 a1_1]) (t := 26) ?hr ?_; (case hd => rfl); (case hg => rfl); (case hr => first | (go_simp; done) | (go_simp; rfl)); intro gb278 hg w9 hbox hb; have n0_ := zA (zP (g := gb277) (o := .cells #[.int .i64 a0_0, .int .i64 a0_1] 26 (0, 0)) (by (with_reducible repeat (first | refine zB ?_ _ | refine zD ?_ | refine zC ?_ _)); exact BK277.out) hb); have n1_ := zA (zQ (by repeat (first | (with_reducible first | exact HB.out | apply zG | apply zE | apply zF | refine zH ?_ GE277.out) | exact HB.out)) hb); have n2_ := zA (hbox); have n3_ := zA ((by rw [hg]; exact (zR (by repeat (first | (with_reducible first | exact HB.out | apply zG | apply zE | apply zF | refine zH ?_ GE277.out) | exact HB.out))) : w.heap.size ≤ gb278)); have n4_ := zA ((by rw [hg]; exact (zR (by repeat (first | (with_reducible first | exact HB.out | apply zG | apply zE | apply zF | refine zH ?_ GE277.out) | exact HB.out))) : w.heap.size ≤ gb278)); have n5_ := zA ((by rw [hg]; exact Nat.ne_of_lt (blk_lt (g := gb277) (o := .cells #[.int .i64 a0_0, .int .i64 a0_1] 26 (0, 0)) (by (with_reducible repeat (first | refine zB ?_ _ | refine zD ?_ | refine zC ?_ _)); exact BK277.out)) : gb277 ≠ gb278)); have n6_ := zA ((by rw [hg]; exact Nat.ne_of_gt (blk_lt (g := gb277) (o := .cells #[.int .i64 a0_0, .int .i64 a0_1] 26 (0, 0)) (by (with_reducible repeat (first | refine zB ?_ _ | refine zD ?_ | refine zC ?_ _)); exact BK277.out)) : gb278 ≠ gb277)); clear BK277; clear HB; have BK277 := n0_; have HB := n1_; have BK278 := n2_; have GW278 := n3_; have GE278 := n4_; have NB277_278 := n5_; have NB278_277 := n6_; clear n0_ n1_ n2_ n3_ n4_ n5_ n6_; clear hb hbox hg) | ((with_reducible refine zS (N := 4) rfl ?_); refine zV ?hg (N := 4) ?hd (cs := #[.int .i64 0, .int .i64 0]) (t := 26) ?hr ?_; (case hd => rfl); (case hg => rfl); (case hr => first | (go_simp; done) | (go_simp; rfl)); intro gb279 hg w10 hbox hb; have n0_ := zA (zP (g := gb277) (o := .cells #[.int .i64 a0_0, .int .i64 a0_1] 26 (0, 0)) (by (with_reducible repeat (first | refine zB ?_ _ | refine zD ?_ | refine zC ?_ _)); exact BK277.out) hb); have n1_ := zA (zP (g := gb278) (o := .cells #[.int .i64 a1_0, .int .i64 a1_1] 26 (0, 0)) (by (with_reducible repeat (first | refine zB ?_ _ | refine zD ?_ | refine zC ?_ _)); exact BK278.out) hb); have n2_ := zA (zQ (by repeat (first | (with_reducible first | exact HB.out | apply zG | apply zE | apply zF | refine zH ?_ GE277.out | refine zH ?_ GE278.out) | exact HB.out)) hb); have n3_ := zA (hbox); have n4_ := zA ((by rw [hg]; exact (zR (by repeat (first | (with_reducible first | exact HB.out | apply zG | apply zE | apply zF | refine zH ?_ GE277.out | refine zH ?_ GE278.out) | exact HB.out))) : w.heap.size ≤ gb279)); have n5_ := zA ((by rw [hg]; exact (zR (by repeat (first | (with_reducible first | exact HB.out | apply zG | apply zE | apply zF | refine zH ?_ GE277.out | refine zH ?_ GE278.out) | exact HB.out))) : w.heap.size ≤ gb279)); have n6_ := zA ((by rw [hg]; exact Nat.ne_of_lt (blk_lt (g := gb277) (o := .cells #[.int .i64 a0_0, .int .i64 a0_1] 26 (0, 0)) (by (with_reducible repeat (first | refine zB ?_ _ | refine zD ?_ | refine zC ?_ _)); exact BK277.out)) : gb277 ≠ gb279)); have n7_ := zA ((by rw [hg]; exact Nat.ne_of_gt (blk_lt (g := gb277) (o := .cells #[.int .i64 a0_0, .int .i64 a0_1] 26 (0, 0)) (by (with_reducible repeat (first | refine zB ?_ _ | refine zD ?_ | refine zC ?_ _)); exact BK277.out)) : gb279 ≠ gb277)); have n8_ := zA ((by rw [hg]; exact Nat.ne_of_lt (blk_lt (g := gb278) (o := .cells #[.int .i64 a1_0, .int .i64 a1_1] 26 (0, 0)) (by (with_reducible repeat (first | refine zB ?_ _ | refine zD ?_ | refine zC ?_ _)); exact BK278.out)) : gb278 ≠ gb279)); have n9_ := zA ((by rw [hg]; exact Nat.ne_of_gt (blk_lt (g := gb278) (o := .cells #[.int .i64 a1_0, .int .i64 a1_1] 26 (0, 0)) (by (with_reducible repeat (first | refine zB ?_ _ | refine zD ?_ | refine zC ?_ _)); exact BK278.out)) : gb279 ≠ gb278)); clear BK277; clear BK278; clear HB; have BK277 := n0_; have BK278 := n1_; have HB := n2_; have BK279 := n3_; have GW279 := n4_; have GE279 := n5_; have NB277_279 := n6_; have NB279_277 := n7_; have NB278_279 := n8_; have NB279_278 := n9_; clear n0_ n1_ n2_ n3_ n4_ n5_ n6_ n7_ n8_ n9_; clear hb hbox hg; have hnb11 := NB277_278.out; have hnc11 := NB278_277.out; have hnb12 := NB277_279.out; have hnc12 := NB279_277.out; have hcz13_0 : w10.cell? ⟨gb277, 0, none⟩ = some (.int .i64 a0_0) := (zJ BK277.out 0).trans rfl; have hcz13_1 : w10.cell? ⟨gb277, 1, none⟩ = some (.int .i64 a0_1) := (zJ BK277.out 1).trans rfl; have hfz13_0 := zK BK277.out 0; have hfz13_1 := zK BK277.out 1) | ((with_reducible refine zT (f := 20) rfl ?_); refine goesL_ (some 7) rfl rfl Try.func20 (by kernel_rfl) rfl #[.agg #[.int .i64 a0_0, .int .i64 a0_1]] rfl (by (try simp only [zW, yA, yB]); first | done | rfl | (simp only [zX, zZ]; rfl)) ?_; (with_reducible refine (spec_DecOk.calls a0_0 a0_1 true _ A3.out).mono ?_); rintro e w14 ⟨rfl, hb⟩; refine ⟨_, rfl, ?_⟩; have n0_ := zA (zP (g := gb277) (o := .cells #[.int .i64 a0_0, .int .i64 a0_1] 26 (0, 0)) (by (with_reducible repeat (first | refine zB ?_ _ | refine zD ?_ | refine zC ?_ _)); exact BK277.out) hb); have n1_ := zA (zP (g := gb278) (o := .cells #[.int .i64 a1_0, .int .i64 a1_1] 26 (0, 0)) (by (with_reducible repeat (first | refine zB ?_ _ | refine zD ?_ | refine zC ?_ _)); exact BK278.out) hb); have n2_ := zA (zP (g := gb279) (o := .cells #[.int .i64 0, .int .i64 0] 26 (0, 0)) (by (with_reducible repeat (first | refine zB ?_ _ | refine zD ?_ | refine zC ?_ _)); exact BK279.out) hb); have n3_ := zA (zQ (by repeat (first | (with_reducible first | exact HB.out | apply zG | apply zE | apply zF | refine zH ?_ GE277.out | refine zH ?_ GE278.out | refine zH ?_ GE279.out) | exact HB.out)) hb); clear BK277; clear BK278; clear BK279; clear HB; have BK277 := n0_; have BK278 := n1_; have BK279 := n2_; have HB := n3_; clear n0_ n1_ n2_ n3_; (try clear hb); (try clear hb2); (try clear hk); (try clear hi); have hnb15 := NB278_279.out; have hnc15 := NB279_278.out; have hcz16_0 : w14.cell? ⟨gb278, 0, none⟩ = some (.int .i64 a1_0) := (zJ BK278.out 0).trans rfl; have hcz16_1 : w14.cell? ⟨gb278, 1, none⟩ = some (.int .i64 a1_1) := (zJ BK278.out 1).trans rfl; have hfz16_0 := zK BK278.out 0; have hfz16_1 := zK BK278.out 1) | (go_at_call 20; (with_reducible refine (spec_DecOk.calls a1_0 a1_1 true _ A5.out).mono ?_); rintro e w17 ⟨rfl, hb⟩; have n0_ := zA (zP (g := gb277) (o := .cells #[.int .i64 a0_0, .int .i64 a0_1] 26 (0, 0)) (by (with_reducible repeat (first | refine zB ?_ _ | refine zD ?_ | refine zC ?_ _)); exact BK277.out) hb); have n1_ := zA (zP (g := gb278) (o := .cells #[.int .i64 a1_0, .int .i64 a1_1] 26 (0, 0)) (by (with_reducible repeat (first | refine zB ?_ _ | refine zD ?_ | refine zC ?_ _)); exact BK278.out) hb); have n2_ := zA (zP (g := gb279) (o := .cells #[.int .i64 0, .int .i64 0] 26 (0, 0)) (by (with_reducible repeat (first | refine zB ?_ _ | refine zD ?_ | refine zC ?_ _)); exact BK279.out) hb); have n3_ := zA (zQ (by repeat (first | (with_reducible first | exact HB.out | apply zG | apply zE | apply zF | refine zH ?_ GE277.out | refine zH ?_ GE278.out | refine zH ?_ GE279.out) | exact HB.out)) hb); clear BK277; clear BK278; clear BK279; clear HB; have BK277 := n0_; have BK278 := n1_; have BK279 := n2_; have HB := n3_; clear n0_ n1_ n2_ n3_; (try clear hb); (try clear hb2); (try clear hk); (try clear hi); have hcz18_0 : w17.cell? ⟨gb277, 0, none⟩ = some (.int .i64 a0_0) := (zJ BK277.out 0).trans rfl; have hcz18_1 : w17.cell? ⟨gb277, 1, none⟩ = some (.int .i64 a0_1) := (zJ BK277.out 1).trans rfl; have hfz18_0 := zK BK277.out 0; have hfz18_1 := zK BK277.out 1; have hcz19_0 : w17.cell? ⟨gb278, 0, none⟩ = some (.int .i64 a1_0) := (zJ BK278.out 0).trans rfl; have hcz19_1 : w17.cell? ⟨gb278, 1, none⟩ = some (.int .i64 a1_1) := (zJ BK278.out 1).trans rfl; have hfz19_0 := zK BK278.out 0; have hfz19_1 := zK BK278.out 1) | ((with_reducible refine zT (f := 52) rfl ?_); refine goesL_ (some 17) rfl rfl Try.func52 (by kernel_rfl) rfl #[.agg #[.int .i64 a0_0, .int .i64 a0_1], .agg #[.int .i64 a1_0, .int .i64 a1_1]] rfl (by (try simp only [zW, yA, yB]); first | done | rfl | (simp only [zX, zZ]; rfl)) ?_; (with_reducible refine (spec_l1Add.calls k a0_0 a0_1 a1_0 a1_1 t282 t283 t284 _ A7.out).mono ?_); rintro e w20 ⟨rfl, hb⟩; refine ⟨_, rfl, ?_⟩; have n0_ := zA (zP (g := gb277) (o := .cells #[.int .i64 a0_0, .int .i64 a0_1] 26 (0, 0)) (by (with_reducible repeat (first | refine zB ?_ _ | refine zD ?_ | refine zC ?_ _)); exact BK277.out) hb); have n1_ := zA (zP (g := gb278) (o := .cells #[.int .i64 a1_0, .int .i64 a1_1] 26 (0, 0)) (by (with_reducible repeat (first | refine zB ?_ _ | refine zD ?_ | refine zC ?_ _)); exact BK278.out) hb); have n2_ := zA (zP (g := gb279) (o := .cells #[.int .i64 0, .int .i64 0] 26 (0, 0)) (by (with_reducible repeat (first | refine zB ?_ _ | refine zD ?_ | refine zC ?_ _)); exact BK279.out) hb); have n3_ := zA (zQ (by repeat (first | (with_reducible first | exact HB.out | apply zG | apply zE | apply zF | refine zH ?_ GE277.out | refine zH ?_ GE278.out | refine zH ?_ GE279.out) | exact HB.out)) hb); clear BK277; clear BK278; clear BK279; clear HB; have BK277 := n0_; have BK278 := n1_; have BK279 := n2_; have HB := n3_; clear n0_ n1_ n2_ n3_; (try clear hb); (try clear hb2); (try clear hk); (try clear hi); have hcz21_0 : w20.cell? ⟨gb279, 0, none⟩ = some (.int .i64 0) := (zJ BK279.out 0).trans rfl; have hcz21_1 : w20.cell? ⟨gb279, 1, none⟩ = some (.int .i64 0) := (zJ BK279.out 1).trans rfl; have hfz21_0 := zK BK279.out 0; have hfz21_1 := zK BK279.out 1))
   refine bodyPost_ret (results_ct rfl _ _ gb279 26 #[.int .i64 t282, .int .i64 t283] (0, 0) _ rfl (by (with_reducible repeat (first | refine zB ?_ _ | refine zD ?_ | refine zC ?_ _)); refine blk_put (cs := #[.int .i64 t282, .int .i64 0]) ?_ 1 _ rfl; (with_reducible repeat (first | refine zB ?_ _ | refine zD ?_ | refine zC ?_ _)); refine blk_put (cs := #[.int .i64 0, .int .i64 0]) ?_ 0 _ rfl; (with_reducible repeat (first | refine zB ?_ _ | refine zD ?_ | refine zC ?_ _)); exact BK279.out) Try.underlying26 rfl (by kernel_rfl)) rfl ?_
   exact ⟨by first | rfl | (simp [errW_none, errW_some] <;> rfl) | (simp [*, errW_none, errW_some] <;> rfl), by repeat (first | (with_reducible first | exact HB.out | apply zG | apply zE | apply zF | refine zH ?_ GE277.out | refine zH ?_ GE278.out | refine zH ?_ GE279.out) | exact HB.out)⟩
  ·replace c6 := Bool.eq_false_iff.mpr c6
   subst c6
   have H1 : (some (0, 0, false)) = some (r1, r2, r3) := by rw [if_neg (show ¬ (false = true) by decide)] at H; exact H
   clear H
   have H := H1
   clear H1
   simp only [Option.some.injEq, Prod.mk.injEq] at H
   obtain ⟨rfl, rfl, rfl⟩ := H
   go_enter Try.func23, Try.ntmps23
   go_wp2_with (first | ((with_reducible refine zS (N := 2) rfl ?_); refine zV ?hg (N := 2) ?hd (cs := #[.int .i64 a0_0, .int .i64 a0_1]) (t := 26) ?hr ?_; (case hd => rfl); (case hg => rfl); (case hr => first | (go_simp; done) | (go_simp; rfl)); intro gb277 hg w22 hbox hb; have n0_ := zA (zQ (by repeat (first | (with_reducible first | exact HB.out | apply zG | apply zE | apply zF) | exact HB.out)) hb); have n1_ := zA (hbox); have n2_ := zA ((by rw [hg]; exact (zR (by repeat (first | (with_reducible first | exact HB.out | apply zG | apply zE | apply zF) | exact HB.out))) : w.heap.size ≤ gb277)); have n3_ := zA ((by rw [hg]; exact (zR (by repeat (first | (with_reducible first | exact HB.out | apply zG | apply zE | apply zF) | exact HB.out))) : w.heap.size ≤ gb277)); clear HB; have HB := n0_; have BK277 := n1_; have GW277 := n2_; have GE277 := n3_; clear n0_ n1_ n2_ n3_; clear hb hbox hg) | ((with_reducible refine zS (N := 3) rfl ?_); refine zV ?hg (N := 3) ?hd (cs := #[.int .i64 a1_0, .int .i64 a1_1]) (t := 26) ?hr ?_; (case hd => rfl); (case hg => rfl); (case hr => first | (go_simp; done) | (go_simp; rfl)); intro gb278 hg w23 hbox hb; have n0_ := zA (zP (g := gb277) (o := .cells #[.int .i64 a0_0, .int .i64 a0_1] 26 (0, 0)) (by (with_reducible repeat (first | refine zB ?_ _ | refine zD ?_ | refine zC ?_ _)); exact BK277.out) hb); have n1_ := zA (zQ (by repeat (first | (with_reducible first | exact HB.out | apply zG | apply zE | apply zF | refine zH ?_ GE277.out) | exact HB.out)) hb); have n2_ := zA (hbox); have n3_ := zA ((by rw [hg]; exact (zR (by repeat (first | (with_reducible first | exact HB.out | apply zG | apply zE | apply zF | refine zH ?_ GE277.out) | exact HB.out))) : w.heap.size ≤ gb278)); have n4_ := zA ((by rw [hg]; exact (zR (by repeat (first | (with_reducible first | exact HB.out | apply zG | apply zE | apply zF | refine zH ?_ GE277.out) | exact HB.out))) : w.heap.size ≤ gb278)); have n5_ := zA ((by rw [hg]; exact Nat.ne_of_lt (blk_lt (g := gb277) (o := .cells #[.int .i64 a0_0, .int .i64 a0_1] 26 (0, 0)) (by (with_reducible repeat (first | refine zB ?_ _ | refine zD ?_ | refine zC ?_ _)); exact BK277.out)) : gb277 ≠ gb278)); have n6_ := zA ((by rw [hg]; exact Nat.ne_of_gt (blk_lt (g := gb277) (o := .cells #[.int .i64 a0_0, .int .i64 a0_1] 26 (0, 0)) (by (with_reducible repeat (first | refine zB ?_ _ | refine zD ?_ | refine zC ?_ _)); exact BK277.out)) : gb278 ≠ gb277)); clear BK277; clear HB; have BK277 := n0_; have HB := n1_; have BK278 := n2_; have GW278 := n3_; have GE278 := n4_; have NB277_278 := n5_; have NB278_277 := n6_; clear n0_ n1_ n2_ n3_ n4_ n5_ n6_; clear hb hbox hg) | ((with_reducible refine zS (N := 4) rfl ?_); refine zV ?hg (N := 4) ?hd (cs := #[.int .i64 0, .int .i64 0]) (t := 26) ?hr ?_; (case hd => rfl); (case hg => rfl); (case hr => first | (go_simp; done) | (go_simp; rfl)); intro gb279 hg w24 hbox hb; have n0_ := zA (zP (g := gb277) (o := .cells #[.int .i64 a0_0, .int .i64 a0_1] 26 (0, 0)) (by (with_reducible repeat (first | refine zB ?_ _ | refine zD ?_ | refine zC ?_ _)); exact BK277.out) hb); have n1_ := zA (zP (g := gb278) (o := .cells #[.int .i64 a1_0, .int .i64 a1_1] 26 (0, 0)) (by (with_reducible repeat (first | refine zB ?_ _ | refine zD ?_ | refine zC ?_ _)); exact BK278.out) hb); have n2_ := zA (zQ (by repeat (first | (with_reducible first | exact HB.out | apply zG | apply zE | apply zF | refine zH ?_ GE277.out | refine zH ?_ GE278.out) | exact HB.out)) hb); have n3_ := zA (hbox); have n4_ := zA ((by rw [hg]; exact (zR (by repeat (first | (with_reducible first | exact HB.out | apply zG | apply zE | apply zF | refine zH ?_ GE277.out | refine zH ?_ GE278.out) | exact HB.out))) : w.heap.size ≤ gb279)); have n5_ := zA ((by rw [hg]; exact (zR (by repeat (first | (with_reducible first | exact HB.out | apply zG | apply zE | apply zF | refine zH ?_ GE277.out | refine zH ?_ GE278.out) | exact HB.out))) : w.heap.size ≤ gb279)); have n6_ := zA ((by rw [hg]; exact Nat.ne_of_lt (blk_lt (g := gb277) (o := .cells #[.int .i64 a0_0, .int .i64 a0_1] 26 (0, 0)) (by (with_reducible repeat (first | refine zB ?_ _ | refine zD ?_ | refine zC ?_ _)); exact BK277.out)) : gb277 ≠ gb279)); have n7_ := zA ((by rw [hg]; exact Nat.ne_of_gt (blk_lt (g := gb277) (o := .cells #[.int .i64 a0_0, .int .i64 a0_1] 26 (0, 0)) (by (with_reducible repeat (first | refine zB ?_ _ | refine zD ?_ | refine zC ?_ _)); exact BK277.out)) : gb279 ≠ gb277)); have n8_ := zA ((by rw [hg]; exact Nat.ne_of_lt (blk_lt (g := gb278) (o := .cells #[.int .i64 a1_0, .int .i64 a1_1] 26 (0, 0)) (by (with_reducible repeat (first | refine zB ?_ _ | refine zD ?_ | refine zC ?_ _)); exact BK278.out)) : gb278 ≠ gb279)); have n9_ := zA ((by rw [hg]; exact Nat.ne_of_gt (blk_lt (g := gb278) (o := .cells #[.int .i64 a1_0, .int .i64 a1_1] 26 (0, 0)) (by (with_reducible repeat (first | refine zB ?_ _ | refine zD ?_ | refine zC ?_ _)); exact BK278.out)) : gb279 ≠ gb278)); clear BK277; clear BK278; clear HB; have BK277 := n0_; have BK278 := n1_; have HB := n2_; have BK279 := n3_; have GW279 := n4_; have GE279 := n5_; have NB277_279 := n6_; have NB279_277 := n7_; have NB278_279 := n8_; have NB279_278 := n9_; clear n0_ n1_ n2_ n3_ n4_ n5_ n6_ n7_ n8_ n9_; clear hb hbox hg; have hnb25 := NB277_278.out; have hnc25 := NB278_277.out; have hnb26 := NB277_279.out; have hnc26 := NB279_277.out; have hcz27_0 : w24.cell? ⟨gb277, 0, none⟩ = some (.int .i64 a0_0) := (zJ BK277.out 0).trans rfl; have hcz27_1 : w24.cell? ⟨gb277, 1, none⟩ = some (.int .i64 a0_1) := (zJ BK277.out 1).trans rfl; have hfz27_0 := zK BK277.out 0; have hfz27_1 := zK BK277.out 1) | ((with_reducible refine zT (f := 20) rfl ?_); refine goesL_ (some 7) rfl rfl Try.func20 (by kernel_rfl) rfl #[.agg #[.int .i64 a0_0, .int .i64 a0_1]] rfl (by (try simp only [zW, yA, yB]); first | done | rfl | (simp only [zX, zZ]; rfl)) ?_; (with_reducible refine (spec_DecOk.calls a0_0 a0_1 true _ A3.out).mono ?_); rintro e w28 ⟨rfl, hb⟩; refine ⟨_, rfl, ?_⟩; have n0_ := zA (zP (g := gb277) (o := .cells #[.int .i64 a0_0, .int .i64 a0_1] 26 (0, 0)) (by (with_reducible repeat (first | refine zB ?_ _ | refine zD ?_ | refine zC ?_ _)); exact BK277.out) hb); have n1_ := zA (zP (g := gb278) (o := .cells #[.int .i64 a1_0, .int .i64 a1_1] 26 (0, 0)) (by (with_reducible repeat (first | refine zB ?_ _ | refine zD ?_ | refine zC ?_ _)); exact BK278.out) hb); have n2_ := zA (zP (g := gb279) (o := .cells #[.int .i64 0, .int .i64 0] 26 (0, 0)) (by (with_reducible repeat (first | refine zB ?_ _ | refine zD ?_ | refine zC ?_ _)); exact BK279.out) hb); have n3_ := zA (zQ (by repeat (first | (with_reducible first | exact HB.out | apply zG | apply zE | apply zF | refine zH ?_ GE277.out | refine zH ?_ GE278.out | refine zH ?_ GE279.out) | exact HB.out)) hb); clear BK277; clear BK278; clear BK279; clear HB; have BK277 := n0_; have BK278 := n1_; have BK279 := n2_; have HB := n3_; clear n0_ n1_ n2_ n3_; (try clear hb); (try clear hb2); (try clear hk); (try clear hi); have hnb29 := NB278_279.out; have hnc29 := NB279_278.out; have hcz30_0 : w28.cell? ⟨gb278, 0, none⟩ = some (.int .i64 a1_0) := (zJ BK278.out 0).trans rfl; have hcz30_1 : w28.cell? ⟨gb278, 1, none⟩ = some (.int .i64 a1_1) := (zJ BK278.out 1).trans rfl; have hfz30_0 := zK BK278.out 0; have hfz30_1 := zK BK278.out 1) | (go_at_call 20; (with_reducible refine (spec_DecOk.calls a1_0 a1_1 false _ A5.out).mono ?_); rintro e w31 ⟨rfl, hb⟩; have n0_ := zA (zP (g := gb277) (o := .cells #[.int .i64 a0_0, .int .i64 a0_1] 26 (0, 0)) (by (with_reducible repeat (first | refine zB ?_ _ | refine zD ?_ | refine zC ?_ _)); exact BK277.out) hb); have n1_ := zA (zP (g := gb278) (o := .cells #[.int .i64 a1_0, .int .i64 a1_1] 26 (0, 0)) (by (with_reducible repeat (first | refine zB ?_ _ | refine zD ?_ | refine zC ?_ _)); exact BK278.out) hb); have n2_ := zA (zP (g := gb279) (o := .cells #[.int .i64 0, .int .i64 0] 26 (0, 0)) (by (with_reducible repeat (first | refine zB ?_ _ | refine zD ?_ | refine zC ?_ _)); exact BK279.out) hb); have n3_ := zA (zQ (by repeat (first | (with_reducible first | exact HB.out | apply zG | apply zE | apply zF | refine zH ?_ GE277.out | refine zH ?_ GE278.out | refine zH ?_ GE279.out) | exact HB.out)) hb); clear BK277; clear BK278; clear BK279; clear HB; have BK277 := n0_; have BK278 := n1_; have BK279 := n2_; have HB := n3_; clear n0_ n1_ n2_ n3_; (try clear hb); (try clear hb2); (try clear hk); (try clear hi); have hcz32_0 : w31.cell? ⟨gb279, 0, none⟩ = some (.int .i64 0) := (zJ BK279.out 0).trans rfl; have hcz32_1 : w31.cell? ⟨gb279, 1, none⟩ = some (.int .i64 0) := (zJ BK279.out 1).trans rfl; have hfz32_0 := zK BK279.out 0; have hfz32_1 := zK BK279.out 1))
   refine bodyPost_ret (results_ct rfl _ _ gb279 26 #[.int .i64 0, .int .i64 0] (0, 0) _ rfl (by (with_reducible repeat (first | refine zB ?_ _ | refine zD ?_ | refine zC ?_ _)); refine blk_put (cs := #[.int .i64 0, .int .i64 0]) ?_ 1 _ rfl; (with_reducible repeat (first | refine zB ?_ _ | refine zD ?_ | refine zC ?_ _)); refine blk_put (cs := #[.int .i64 0, .int .i64 0]) ?_ 0 _ rfl; (with_reducible repeat (first | refine zB ?_ _ | refine zD ?_ | refine zC ?_ _)); exact BK279.out) Try.underlying26 rfl (by kernel_rfl)) rfl ?_
   exact ⟨by first | rfl | (simp [errW_none, errW_some] <;> rfl) | (simp [*, errW_none, errW_some] <;> rfl), by repeat (first | (with_reducible first | exact HB.out | apply zG | apply zE | apply zF | refine zH ?_ GE277.out | refine zH ?_ GE278.out | refine zH ?_ GE279.out) | exact HB.out)⟩
 ·replace c4 := Bool.eq_false_iff.mpr c4
  subst c4
  have H1 : (some (0, 0, false)) = some (r1, r2, r3) := by rw [if_neg (show ¬ (false = true) by decide)] at H; exact H
  clear H
  have H := H1
  clear H1
  simp only [Option.some.injEq, Prod.mk.injEq] at H
  obtain ⟨rfl, rfl, rfl⟩ := H
  go_enter Try.func23, Try.ntmps23
  go_wp2_with (first | ((with_reducible refine zS (N := 2) rfl ?_); refine zV ?hg (N := 2) ?hd (cs := #[.int .i64 a0_0, .int .i64 a0_1]) (t := 26) ?hr ?_; (case hd => rfl); (case hg => rfl); (case hr => first | (go_simp; done) | (go_simp; rfl)); intro gb277 hg w33 hbox hb; have n0_ := zA (zQ (by repeat (first | (with_reducible first | exact HB.out | apply zG | apply zE | apply zF) | exact HB.out)) hb); have n1_ := zA (hbox); have n2_ := zA ((by rw [hg]; exact (zR (by repeat (first | (with_reducible first | exact HB.out | apply zG | apply zE | apply zF) | exact HB.out))) : w.heap.size ≤ gb277)); have n3_ := zA ((by rw [hg]; exact (zR (by repeat (first | (with_reducible first | exact HB.out | apply zG | apply zE | apply zF) | exact HB.out))) : w.heap.size ≤ gb277)); clear HB; have HB := n0_; have BK277 := n1_; have GW277 := n2_; have GE277 := n3_; clear n0_ n1_ n2_ n3_; clear hb hbox hg) | ((with_reducible refine zS (N := 3) rfl ?_); refine zV ?hg (N := 3) ?hd (cs := #[.int .i64 a1_0, .int .i64 a1_1]) (t := 26) ?hr ?_; (case hd => rfl); (case hg => rfl); (case hr => first | (go_simp; done) | (go_simp; rfl)); intro gb278 hg w34 hbox hb; have n0_ := zA (zP (g := gb277) (o := .cells #[.int .i64 a0_0, .int .i64 a0_1] 26 (0, 0)) (by (with_reducible repeat (first | refine zB ?_ _ | refine zD ?_ | refine zC ?_ _)); exact BK277.out) hb); have n1_ := zA (zQ (by repeat (first | (with_reducible first | exact HB.out | apply zG | apply zE | apply zF | refine zH ?_ GE277.out) | exact HB.out)) hb); have n2_ := zA (hbox); have n3_ := zA ((by rw [hg]; exact (zR (by repeat (first | (with_reducible first | exact HB.out | apply zG | apply zE | apply zF | refine zH ?_ GE277.out) | exact HB.out))) : w.heap.size ≤ gb278)); have n4_ := zA ((by rw [hg]; exact (zR (by repeat (first | (with_reducible first | exact HB.out | apply zG | apply zE | apply zF | refine zH ?_ GE277.out) | exact HB.out))) : w.heap.size ≤ gb278)); have n5_ := zA ((by rw [hg]; exact Nat.ne_of_lt (blk_lt (g := gb277) (o := .cells #[.int .i64 a0_0, .int .i64 a0_1] 26 (0, 0)) (by (with_reducible repeat (first | refine zB ?_ _ | refine zD ?_ | refine zC ?_ _)); exact BK277.out)) : gb277 ≠ gb278)); have n6_ := zA ((by rw [hg]; exact Nat.ne_of_gt (blk_lt (g := gb277) (o := .cells #[.int .i64 a0_0, .int .i64 a0_1] 26 (0, 0)) (by (with_reducible repeat (first | refine zB ?_ _ | refine zD ?_ | refine zC ?_ _)); exact BK277.out)) : gb278 ≠ gb277)); clear BK277; clear HB; have BK277 := n0_; have HB := n1_; have BK278 := n2_; have GW278 := n3_; have GE278 := n4_; have NB277_278 := n5_; have NB278_277 := n6_; clear n0_ n1_ n2_ n3_ n4_ n5_ n6_; clear hb hbox hg) | ((with_reducible refine zS (N := 4) rfl ?_); refine zV ?hg (N := 4) ?hd (cs := #[.int .i64 0, .int .i64 0]) (t := 26) ?hr ?_; (case hd => rfl); (case hg => rfl); (case hr => first | (go_simp; done) | (go_simp; rfl)); intro gb279 hg w35 hbox hb; have n0_ := zA (zP (g := gb277) (o := .cells #[.int .i64 a0_0, .int .i64 a0_1] 26 (0, 0)) (by (with_reducible repeat (first | refine zB ?_ _ | refine zD ?_ | refine zC ?_ _)); exact BK277.out) hb); have n1_ := zA (zP (g := gb278) (o := .cells #[.int .i64 a1_0, .int .i64 a1_1] 26 (0, 0)) (by (with_reducible repeat (first | refine zB ?_ _ | refine zD ?_ | refine zC ?_ _)); exact BK278.out) hb); have n2_ := zA (zQ (by repeat (first | (with_reducible first | exact HB.out | apply zG | apply zE | apply zF | refine zH ?_ GE277.out | refine zH ?_ GE278.out) | exact HB.out)) hb); have n3_ := zA (hbox); have n4_ := zA ((by rw [hg]; exact (zR (by repeat (first | (with_reducible first | exact HB.out | apply zG | apply zE | apply zF | refine zH ?_ GE277.out | refine zH ?_ GE278.out) | exact HB.out))) : w.heap.size ≤ gb279)); have n5_ := zA ((by rw [hg]; exact (zR (by repeat (first | (with_reducible first | exact HB.out | apply zG | apply zE | apply zF | refine zH ?_ GE277.out | refine zH ?_ GE278.out) | exact HB.out))) : w.heap.size ≤ gb279)); have n6_ := zA ((by rw [hg]; exact Nat.ne_of_lt (blk_lt (g := gb277) (o := .cells #[.int .i64 a0_0, .int .i64 a0_1] 26 (0, 0)) (by (with_reducible repeat (first | refine zB ?_ _ | refine zD ?_ | refine zC ?_ _)); exact BK277.out)) : gb277 ≠ gb279)); have n7_ := zA ((by rw [hg]; exact Nat.ne_of_gt (blk_lt (g := gb277) (o := .cells #[.int .i64 a0_0, .int .i64 a0_1] 26 (0, 0)) (by (with_reducible repeat (first | refine zB ?_ _ | refine zD ?_ | refine zC ?_ _)); exact BK277.out)) : gb279 ≠ gb277)); have n8_ := zA ((by rw [hg]; exact Nat.ne_of_lt (blk_lt (g := gb278) (o := .cells #[.int .i64 a1_0, .int .i64 a1_1] 26 (0, 0)) (by (with_reducible repeat (first | refine zB ?_ _ | refine zD ?_ | refine zC ?_ _)); exact BK278.out)) : gb278 ≠ gb279)); have n9_ := zA ((by rw [hg]; exact Nat.ne_of_gt (blk_lt (g := gb278) (o := .cells #[.int .i64 a1_0, .int .i64 a1_1] 26 (0, 0)) (by (with_reducible repeat (first | refine zB ?_ _ | refine zD ?_ | refine zC ?_ _)); exact BK278.out)) : gb279 ≠ gb278)); clear BK277; clear BK278; clear HB; have BK277 := n0_; have BK278 := n1_; have HB := n2_; have BK279 := n3_; have GW279 := n4_; have GE279 := n5_; have NB277_279 := n6_; have NB279_277 := n7_; have NB278_279 := n8_; have NB279_278 := n9_; clear n0_ n1_ n2_ n3_ n4_ n5_ n6_ n7_ n8_ n9_; clear hb hbox hg; have hnb36 := NB277_278.out; have hnc36 := NB278_277.out; have hnb37 := NB277_279.out; have hnc37 := NB279_277.out; have hcz38_0 : w35.cell? ⟨gb277, 0, none⟩ = some (.int .i64 a0_0) := (zJ BK277.out 0).trans rfl; have hcz38_1 : w35.cell? ⟨gb277, 1, none⟩ = some (.int .i64 a0_1) := (zJ BK277.out 1).trans rfl; have hfz38_0 := zK BK277.out 0; have hfz38_1 := zK BK277.out 1) | ((with_reducible refine zT (f := 20) rfl ?_); refine goesL_ (some 7) rfl rfl Try.func20 (by kernel_rfl) rfl #[.agg #[.int .i64 a0_0, .int .i64 a0_1]] rfl (by (try simp only [zW, yA, yB]); first | done | rfl | (simp only [zX, zZ]; rfl)) ?_; (with_reducible refine (spec_DecOk.calls a0_0 a0_1 false _ A3.out).mono ?_); rintro e w39 ⟨rfl, hb⟩; refine ⟨_, rfl, ?_⟩; have n0_ := zA (zP (g := gb277) (o := .cells #[.int .i64 a0_0, .int .i64 a0_1] 26 (0, 0)) (by (with_reducible repeat (first | refine zB ?_ _ | refine zD ?_ | refine zC ?_ _)); exact BK277.out) hb); have n1_ := zA (zP (g := gb278) (o := .cells #[.int .i64 a1_0, .int .i64 a1_1] 26 (0, 0)) (by (with_reducible repeat (first | refine zB ?_ _ | refine zD ?_ | refine zC ?_ _)); exact BK278.out) hb); have n2_ := zA (zP (g := gb279) (o := .cells #[.int .i64 0, .int .i64 0] 26 (0, 0)) (by (with_reducible repeat (first | refine zB ?_ _ | refine zD ?_ | refine zC ?_ _)); exact BK279.out) hb); have n3_ := zA (zQ (by repeat (first | (with_reducible first | exact HB.out | apply zG | apply zE | apply zF | refine zH ?_ GE277.out | refine zH ?_ GE278.out | refine zH ?_ GE279.out) | exact HB.out)) hb); clear BK277; clear BK278; clear BK279; clear HB; have BK277 := n0_; have BK278 := n1_; have BK279 := n2_; have HB := n3_; clear n0_ n1_ n2_ n3_; (try clear hb); (try clear hb2); (try clear hk); (try clear hi); have hnb40 := NB279_278.out; have hnc40 := NB278_279.out; have hcz41_0 : w39.cell? ⟨gb279, 0, none⟩ = some (.int .i64 0) := (zJ BK279.out 0).trans rfl; have hcz41_1 : w39.cell? ⟨gb279, 1, none⟩ = some (.int .i64 0) := (zJ BK279.out 1).trans rfl; have hfz41_0 := zK BK279.out 0; have hfz41_1 := zK BK279.out 1))
  refine bodyPost_ret (results_ct rfl _ _ gb279 26 #[.int .i64 0, .int .i64 0] (0, 0) _ rfl (by (with_reducible repeat (first | refine zB ?_ _ | refine zD ?_ | refine zC ?_ _)); refine blk_put (cs := #[.int .i64 0, .int .i64 0]) ?_ 1 _ rfl; (with_reducible repeat (first | refine zB ?_ _ | refine zD ?_ | refine zC ?_ _)); refine blk_put (cs := #[.int .i64 0, .int .i64 0]) ?_ 0 _ rfl; (with_reducible repeat (first | refine zB ?_ _ | refine zD ?_ | refine zC ?_ _)); exact BK279.out) Try.underlying26 rfl (by kernel_rfl)) rfl ?_
  exact ⟨by first | rfl | (simp [errW_none, errW_some] <;> rfl) | (simp [*, errW_none, errW_some] <;> rfl), by repeat (first | (with_reducible first | exact HB.out | apply zG | apply zE | apply zF | refine zH ?_ GE277.out | refine zH ?_ GE278.out | refine zH ?_ GE279.out) | exact HB.out)⟩

end Go.Proofs.Ytmoaolcioihjnaa.Q

namespace Go.Proofs.Ytmoaolcioihjnaa.Q
open Go.RowKit Go.Proofs.YtmoaolcioihjnaaW.PrintWords Go.Proofs.YtmoaolcioihjnaaW.PrintLast Go.Proofs.YtmoaolcioihjnaaW.PrintMore Go.Proofs.YtmoaolcioihjnaaX
attribute [local go_sem] max2_int min2_int max_two min_two max_three min_three max_four min_four   -- for this text's walks alone
set_option linter.unusedVariables false
set_option linter.unusedSimpArgs false

def spec_DecSub.j0 : Nat → Bool → Int → Int → Int → Int → Option (Int × Int × Bool)
 | 0, _, _, _, _, _ => none
 | k + 1, x13, x377000, x377001, x378000, x378001 => if x13 = true then (some (0, 0, false)) else ((spec_l1Neg.f x378000 x378001).bind fun bt381 => ((spec_l1Add.f k x377000 x377001 bt381.1 bt381.2).bind fun bt383 => (some (bt383.1, bt383.2.1, bt383.2.2))))
def spec_DecSub.f (k : Nat) (a0_0 : Int) (a0_1 : Int) (a1_0 : Int) (a1_1 : Int) : Option (Int × Int × Bool) := (spec_DecOk.f a0_0 a0_1).bind fun t379 => (if t379 = true then ((spec_DecOk.f a1_0 a1_1).bind fun t380 => (spec_DecSub.j0 k (!t380) a0_0 a0_1 a1_0 a1_1)) else (spec_DecSub.j0 k true a0_0 a0_1 a1_0 a1_1))
theorem spec_DecSub.mono_l : ∀ k, (∀ y0 y1 y2 y3 y4, LeO (spec_DecSub.j0 k y0 y1 y2 y3 y4) (spec_DecSub.j0 (k + 1) y0 y1 y2 y3 y4))
 | 0 => fun _ _ _ _ _ r h => by simp [spec_DecSub.j0] at h
 | k + 1 => by
  have ih0 := spec_DecSub.mono_l k
  ·intro y0 y1 y2 y3 y4
   unfold spec_DecSub.j0
   repeat' first
   | (with_reducible exact ih0 _ _ _ _ _)
   | (with_reducible exact spec_l1Add.mono _ _ _ _ _)
   | (with_reducible exact LeO.refl _)
   | (with_reducible exact LeO.none _)
   | (with_reducible refine LeO.ite ?_ ?_)
   | (with_reducible refine LeO.bind ?_ (fun _ => ?_))
   | exact ih0 _ _ _ _ _
   | exact spec_l1Add.mono _ _ _ _ _
   | exact LeO.none _
   | refine LeO.ite ?_ ?_
   | refine LeO.bind ?_ (fun _ => ?_)
theorem spec_DecSub.mono : ∀ a0 a1 a2 a3 k, LeO (spec_DecSub.f k a0 a1 a2 a3) (spec_DecSub.f (k + 1) a0 a1 a2 a3) := by
 intro a0 a1 a2 a3 k
 have ih0 := spec_DecSub.mono_l k
 unfold spec_DecSub.f
 repeat' first
   | (with_reducible exact ih0 _ _ _ _ _)
   | (with_reducible exact spec_l1Add.mono _ _ _ _ _)
   | (with_reducible exact LeO.refl _)
   | (with_reducible exact LeO.none _)
   | (with_reducible refine LeO.ite ?_ ?_)
   | (with_reducible refine LeO.bind ?_ (fun _ => ?_))
   | exact ih0 _ _ _ _ _
   | exact spec_l1Add.mono _ _ _ _ _
   | exact LeO.none _
   | refine LeO.ite ?_ ?_
   | refine LeO.bind ?_ (fun _ => ?_)
def spec_DecSub.T3 : Bool × List (List Nat × List Nat) := (true, [([], []), ([], []), ([1], [1]), ([0, 2, 2], [0, 2]), ([3], [3]), ([3], [3]), ([4, 3, 0, 1, 2, 3, 4, 5], [4]), ([5, 6, 0, 1, 2, 3, 4, 5, 6], [5])])
def spec_DecSub.B3 : List Nat := [0, 0, 2, 7, 15, 15, 63, 127]
theorem spec_DecSub.tab3 : rtab .any (opsOf Try.f26 3) = spec_DecSub.T3 := by kernel_rfl
theorem spec_DecSub.bits3 : waitsOk spec_DecSub.T3.2 spec_DecSub.B3 = true := by kernel_rfl
set_option maxHeartbeats 8000000 in
set_option maxRecDepth 100000 in
theorem spec_DecSub.calls (k : Nat) (a0_0 : Int) (a0_1 : Int) (a1_0 : Int) (a1_1 : Int) (r1 : Int) (r2 : Int) (r3 : Bool) (w : World) (h : spec_DecSub.f k a0_0 a0_1 a1_0 a1_1 = some (r1, r2, r3)) :
  Calls Try.prog 26 #[.agg #[.int .i64 a0_0, .int .i64 a0_1], .agg #[.int .i64 a1_0, .int .i64 a1_1]] w fun e w' => e = .returned (.tuple #[.agg #[.int .i64 r1, .int .i64 r2], .bool r3]) ∧ Below w.heap.size w w' := by
 have hu26 := Try.underlying26
 have HB := zA (Below.refl w.heap.size w)
 have H : ((spec_DecOk.f a0_0 a0_1).bind fun t379 => (if t379 = true then ((spec_DecOk.f a1_0 a1_1).bind fun t380 => (spec_DecSub.j0 k (!t380) a0_0 a0_1 a1_0 a1_1)) else (spec_DecSub.j0 k true a0_0 a0_1 a1_0 a1_1))) = some (r1, r2, r3) := h
 clear h
 have HC3 := zA H
 clear H
 go_enter Try.func26, Try.ntmps26
 go_upto_region 1 with (first | ((with_reducible refine zS (N := 2) rfl ?_); refine zV ?hg (N := 2) ?hd (cs := #[.int .i64 a0_0, .int .i64 a0_1]) (t := 26) ?hr ?_; (case hd => rfl); (case hg => rfl); (case hr => first | (go_simp; done) | (go_simp; rfl)); intro gb376 hg w4 hbox hb; have n0_ := zA (zQ (by repeat (first | (with_reducible first | exact HB.out | apply zG | apply zE | apply zF) | exact HB.out)) hb); have n1_ := zA (hbox); have n2_ := zA ((by rw [hg]; exact (zR (by repeat (first | (with_reducible first | exact HB.out | apply zG | apply zE | apply zF) | exact HB.out))) : w.heap.size ≤ gb376)); have n3_ := zA ((by rw [hg]; exact (zR (by repeat (first | (with_reducible first | exact HB.out | apply zG | apply zE | apply zF) | exact HB.out))) : w.heap.size ≤ gb376)); clear HB; have HB := n0_; have BK376 := n1_; have GW376 := n2_; have GE376 := n3_; clear n0_ n1_ n2_ n3_; clear hb hbox hg) | ((with_reducible refine zS (N := 3) rfl ?_); refine zV ?hg (N := 3) ?hd (cs := #[.int .i64 a1_0, .int .i64 a1_1]) (t := 26) ?hr ?_; (case hd => rfl); (case hg => rfl); (case hr => first | (go_simp; done) | (go_simp; rfl)); intro gb377 hg w5 hbox hb; have n0_ := zA (zP (g := gb376) (o := .cells #[.int .i64 a0_0, .int .i64 a0_1] 26 (0, 0)) (by (with_reducible repeat (first | refine zB ?_ _ | refine zD ?_ | refine zC ?_ _)); exact BK376.out) hb); have n1_ := zA (zQ (by repeat (first | (with_reducible first | exact HB.out | apply zG | apply zE | apply zF | refine zH ?_ GE376.out) | exact HB.out)) hb); have n2_ := zA (hbox); have n3_ := zA ((by rw [hg]; exact (zR (by repeat (first | (with_reducible first | exact HB.out | apply zG | apply zE | apply zF | refine zH ?_ GE376.out) | exact HB.out))) : w.heap.size ≤ gb377)); have n4_ := zA ((by rw [hg]; exact (zR (by repeat (first | (with_reducible first | exact HB.out | apply zG | apply zE | apply zF | refine zH ?_ GE376.out) | exact HB.out))) : w.heap.size ≤ gb377)); have n5_ := zA ((by rw [hg]; exact Nat.ne_of_lt (blk_lt (g := gb376) (o := .cells #[.int .i64 a0_0, .int .i64 a0_1] 26 (0, 0)) (by (with_reducible repeat (first | refine zB ?_ _ | refine zD ?_ | refine zC ?_ _)); exact BK376.out)) : gb376 ≠ gb377)); have n6_ := zA ((by rw [hg]; exact Nat.ne_of_gt (blk_lt (g := gb376) (o := .cells #[.int .i64 a0_0, .int .i64 a0_1] 26 (0, 0)) (by (with_reducible repeat (first | refine zB ?_ _ | refine zD ?_ | refine zC ?_ _)); exact BK376.out)) : gb377 ≠ gb376)); clear BK376; clear HB; have BK376 := n0_; have HB := n1_; have BK377 := n2_; have GW377 := n3_; have GE377 := n4_; have NB376_377 := n5_; have NB377_376 := n6_; clear n0_ n1_ n2_ n3_ n4_ n5_ n6_; clear hb hbox hg) | ((with_reducible refine zS (N := 4) rfl ?_); refine zV ?hg (N := 4) ?hd (cs := #[.int .i64 0, .int .i64 0]) (t := 26) ?hr ?_; (case hd => rfl); (case hg => rfl); (case hr => first | (go_simp; done) | (go_simp; rfl)); intro gb378 hg w6 hbox hb; have n0_ := zA (zP (g := gb376) (o := .cells #[.int .i64 a0_0, .int .i64 a0_1] 26 (0, 0)) (by (with_reducible repeat (first | refine zB ?_ _ | refine zD ?_ | refine zC ?_ _)); exact BK376.out) hb); have n1_ := zA (zP (g := gb377) (o := .cells #[.int .i64 a1_0, .int .i64 a1_1] 26 (0, 0)) (by (with_reducible repeat (first | refine zB ?_ _ | refine zD ?_ | refine zC ?_ _)); exact BK377.out) hb); have n2_ := zA (zQ (by repeat (first | (with_reducible first | exact HB.out | apply zG | apply zE | apply zF | refine zH ?_ GE376.out | refine zH ?_ GE377.out) | exact HB.out)) hb); have n3_ := zA (hbox); have n4_ := zA ((by rw [hg]; exact (zR (by repeat (first | (with_reducible first | exact HB.out | apply zG | apply zE | apply zF | refine zH ?_ GE376.out | refine zH ?_ GE377.out) | exact HB.out))) : w.heap.size ≤ gb378)); have n5_ := zA ((by rw [hg]; exact (zR (by repeat (first | (with_reducible first | exact HB.out | apply zG | apply zE | apply zF | refine zH ?_ GE376.out | refine zH ?_ GE377.out) | exact HB.out))) : w.heap.size ≤ gb378)); have n6_ := zA ((by rw [hg]; exact Nat.ne_of_lt (blk_lt (g := gb376) (o := .cells #[.int .i64 a0_0, .int .i64 a0_1] 26 (0, 0)) (by (with_reducible repeat (first | refine zB ?_ _ | refine zD ?_ | refine zC ?_ _)); exact BK376.out)) : gb376 ≠ gb378)); have n7_ := zA ((by rw [hg]; exact Nat.ne_of_gt (blk_lt (g := gb376) (o := .cells #[.int .i64 a0_0, .int .i64 a0_1] 26 (0, 0)) (by (with_reducible repeat (first | refine zB ?_ _ | refine zD ?_ | refine zC ?_ _)); exact BK376.out)) : gb378 ≠ gb376)); have n8_ := zA ((by rw [hg]; exact Nat.ne_of_lt (blk_lt (g := gb377) (o := .cells #[.int .i64 a1_0, .int .i64 a1_1] 26 (0, 0)) (by (with_reducible repeat (first | refine zB ?_ _ | refine zD ?_ | refine zC ?_ _)); exact BK377.out)) : gb377 ≠ gb378)); have n9_ := zA ((by rw [hg]; exact Nat.ne_of_gt (blk_lt (g := gb377) (o := .cells #[.int .i64 a1_0, .int .i64 a1_1] 26 (0, 0)) (by (with_reducible repeat (first | refine zB ?_ _ | refine zD ?_ | refine zC ?_ _)); exact BK377.out)) : gb378 ≠ gb377)); clear BK376; clear BK377; clear HB; have BK376 := n0_; have BK377 := n1_; have HB := n2_; have BK378 := n3_; have GW378 := n4_; have GE378 := n5_; have NB376_378 := n6_; have NB378_376 := n7_; have NB377_378 := n8_; have NB378_377 := n9_; clear n0_ n1_ n2_ n3_ n4_ n5_ n6_ n7_ n8_ n9_; clear hb hbox hg))
 (try simp only [Act.put, zL, zM, zN])
 go_cut [13] (fun v13 wc => ∃ (kq : Nat) (x13_2 : Bool), v13 = .bool x13_2 ∧ Aside0 (spec_DecSub.j0 kq x13_2 a0_0 a0_1 a1_0 a1_1 = some (r1, r2, r3)) ∧ Aside0 (kq ≤ k) ∧ Aside0 (wc.heap[gb376]? = some (.cells #[.int .i64 a0_0, .int .i64 a0_1] 26 (0, 0))) ∧ Aside0 (wc.heap[gb377]? = some (.cells #[.int .i64 a1_0, .int .i64 a1_1] 26 (0, 0))) ∧ Aside0 (wc.heap[gb378]? = some (.cells #[.int .i64 0, .int .i64 0] 26 (0, 0))) ∧ Aside0 (Below w.heap.size w wc))
 case first =>
  have H := HC3.out
  clear HC3
  replace H := Option.bind_eq_some_iff.mp H
  obtain ⟨t379, A70, H⟩ := H
  replace H : (if t379 = true then ((spec_DecOk.f a1_0 a1_1).bind fun t380 => (spec_DecSub.j0 k (!t380) a0_0 a0_1 a1_0 a1_1)) else (spec_DecSub.j0 k true a0_0 a0_1 a1_0 a1_1)) = some (r1, r2, r3) := H
  have A7 := zA A70
  clear A70
  by_cases c8 : t379 = true
  ·subst c8
   have H1 : ((spec_DecOk.f a1_0 a1_1).bind fun t380 => (spec_DecSub.j0 k (!t380) a0_0 a0_1 a1_0 a1_1)) = some (r1, r2, r3) := by rw [if_pos rfl] at H; exact H
   clear H
   have H := H1
   clear H1
   replace H := Option.bind_eq_some_iff.mp H
   obtain ⟨t380, A90, H⟩ := H
   replace H : (spec_DecSub.j0 k (!t380) a0_0 a0_1 a1_0 a1_1) = some (r1, r2, r3) := H
   have A9 := zA A90
   clear A90
   have H' := zA H
   clear H
   have hnb10 := NB376_377.out
   have hnc10 := NB377_376.out
   have hnb11 := NB376_378.out
   have hnc11 := NB378_376.out
   have hcz12_0 : w6.cell? ⟨gb376, 0, none⟩ = some (.int .i64 a0_0) := (zJ BK376.out 0).trans rfl
   have hcz12_1 : w6.cell? ⟨gb376, 1, none⟩ = some (.int .i64 a0_1) := (zJ BK376.out 1).trans rfl
   have hfz12_0 := zK BK376.out 0
   have hfz12_1 := zK BK376.out 1
   go_wp2_with (first | ((with_reducible refine zT (f := 20) rfl ?_); refine goesL_ (some 7) rfl rfl Try.func20 (by kernel_rfl) rfl #[.agg #[.int .i64 a0_0, .int .i64 a0_1]] rfl (by (try simp only [zW, yA, yB]); first | done | rfl | (simp only [zX, zZ]; rfl)) ?_; (with_reducible refine (spec_DecOk.calls a0_0 a0_1 true _ A7.out).mono ?_); rintro e w13 ⟨rfl, hb⟩; refine ⟨_, rfl, ?_⟩; have n0_ := zA (zP (g := gb376) (o := .cells #[.int .i64 a0_0, .int .i64 a0_1] 26 (0, 0)) (by (with_reducible repeat (first | refine zB ?_ _ | refine zD ?_ | refine zC ?_ _)); exact BK376.out) hb); have n1_ := zA (zP (g := gb377) (o := .cells #[.int .i64 a1_0, .int .i64 a1_1] 26 (0, 0)) (by (with_reducible repeat (first | refine zB ?_ _ | refine zD ?_ | refine zC ?_ _)); exact BK377.out) hb); have n2_ := zA (zP (g := gb378) (o := .cells #[.int .i64 0, .int .i64 0] 26 (0, 0)) (by (with_reducible repeat (first | refine zB ?_ _ | refine zD ?_ | refine zC ?_ _)); exact BK378.out) hb); have n3_ := zA (zQ (by repeat (first | (with_reducible first | exact HB.out | apply zG | apply zE | apply zF | refine zH ?_ GE376.out | refine zH ?_ GE377.out | refine zH ?_ GE378.out) | exact HB.out)) hb); clear BK376; clear BK377; clear BK378; clear HB; have BK376 := n0_; have BK377 := n1_; have BK378 := n2_; have HB := n3_; clear n0_ n1_ n2_ n3_; (try clear hb); (try clear hb2); (try clear hk); (try clear hi); have hnb14 := NB377_378.out; have hnc14 := NB378_377.out; have hcz15_0 : w13.cell? ⟨gb377, 0, none⟩ = some (.int .i64 a1_0) := (zJ BK377.out 0).trans rfl; have hcz15_1 : w13.cell? ⟨gb377, 1, none⟩ = some (.int .i64 a1_1) := (zJ BK377.out 1).trans rfl; have hfz15_0 := zK BK377.out 0; have hfz15_1 := zK BK377.out 1) | (go_at_call 20; (with_reducible refine (spec_DecOk.calls a1_0 a1_1 t380 _ A9.out).mono ?_); rintro e w16 ⟨rfl, hb⟩; have n0_ := zA (zP (g := gb376) (o := .cells #[.int .i64 a0_0, .int .i64 a0_1] 26 (0, 0)) (by (with_reducible repeat (first | refine zB ?_ _ | refine zD ?_ | refine zC ?_ _)); exact BK376.out) hb); have n1_ := zA (zP (g := gb377) (o := .cells #[.int .i64 a1_0, .int .i64 a1_1] 26 (0, 0)) (by (with_reducible repeat (first | refine zB ?_ _ | refine zD ?_ | refine zC ?_ _)); exact BK377.out) hb); have n2_ := zA (zP (g := gb378) (o := .cells #[.int .i64 0, .int .i64 0] 26 (0, 0)) (by (with_reducible repeat (first | refine zB ?_ _ | refine zD ?_ | refine zC ?_ _)); exact BK378.out) hb); have n3_ := zA (zQ (by repeat (first | (with_reducible first | exact HB.out | apply zG | apply zE | apply zF | refine zH ?_ GE376.out | refine zH ?_ GE377.out | refine zH ?_ GE378.out) | exact HB.out)) hb); clear BK376; clear BK377; clear BK378; clear HB; have BK376 := n0_; have BK377 := n1_; have BK378 := n2_; have HB := n3_; clear n0_ n1_ n2_ n3_; (try clear hb); (try clear hb2); (try clear hk); (try clear hi)))
   go_meet
   case rel => exact ⟨_, (!t380), (by first | rfl | (simp; done) | (simp [*]; done)), H', ⟨by first | omega | exact Nat.le_refl _⟩, ⟨by (with_reducible repeat (first | refine zB ?_ _ | refine zD ?_ | refine zC ?_ _)); exact BK376.out⟩, ⟨by (with_reducible repeat (first | refine zB ?_ _ | refine zD ?_ | refine zC ?_ _)); exact BK377.out⟩, ⟨by (with_reducible repeat (first | refine zB ?_ _ | refine zD ?_ | refine zC ?_ _)); exact BK378.out⟩, ⟨by repeat (first | (with_reducible first | exact HB.out | apply zG | apply zE | apply zF | refine zH ?_ GE376.out | refine zH ?_ GE377.out | refine zH ?_ GE378.out) | exact HB.out)⟩⟩
  ·replace c8 := Bool.eq_false_iff.mpr c8
   subst c8
   have H1 : (spec_DecSub.j0 k true a0_0 a0_1 a1_0 a1_1) = some (r1, r2, r3) := by rw [if_neg (show ¬ (false = true) by decide)] at H; exact H
   clear H
   have H := H1
   clear H1
   have H' := zA H
   clear H
   have hnb17 := NB376_377.out
   have hnc17 := NB377_376.out
   have hnb18 := NB376_378.out
   have hnc18 := NB378_376.out
   have hcz19_0 : w6.cell? ⟨gb376, 0, none⟩ = some (.int .i64 a0_0) := (zJ BK376.out 0).trans rfl
   have hcz19_1 : w6.cell? ⟨gb376, 1, none⟩ = some (.int .i64 a0_1) := (zJ BK376.out 1).trans rfl
   have hfz19_0 := zK BK376.out 0
   have hfz19_1 := zK BK376.out 1
   go_wp2_with (first | ((with_reducible refine zT (f := 20) rfl ?_); refine goesL_ (some 7) rfl rfl Try.func20 (by kernel_rfl) rfl #[.agg #[.int .i64 a0_0, .int .i64 a0_1]] rfl (by (try simp only [zW, yA, yB]); first | done | rfl | (simp only [zX, zZ]; rfl)) ?_; (with_reducible refine (spec_DecOk.calls a0_0 a0_1 false _ A7.out).mono ?_); rintro e w20 ⟨rfl, hb⟩; refine ⟨_, rfl, ?_⟩; have n0_ := zA (zP (g := gb376) (o := .cells #[.int .i64 a0_0, .int .i64 a0_1] 26 (0, 0)) (by (with_reducible repeat (first | refine zB ?_ _ | refine zD ?_ | refine zC ?_ _)); exact BK376.out) hb); have n1_ := zA (zP (g := gb377) (o := .cells #[.int .i64 a1_0, .int .i64 a1_1] 26 (0, 0)) (by (with_reducible repeat (first | refine zB ?_ _ | refine zD ?_ | refine zC ?_ _)); exact BK377.out) hb); have n2_ := zA (zP (g := gb378) (o := .cells #[.int .i64 0, .int .i64 0] 26 (0, 0)) (by (with_reducible repeat (first | refine zB ?_ _ | refine zD ?_ | refine zC ?_ _)); exact BK378.out) hb); have n3_ := zA (zQ (by repeat (first | (with_reducible first | exact HB.out | apply zG | apply zE | apply zF | refine zH ?_ GE376.out | refine zH ?_ GE377.out | refine zH ?_ GE378.out) | exact HB.out)) hb); clear BK376; clear BK377; clear BK378; clear HB; have BK376 := n0_; have BK377 := n1_; have BK378 := n2_; have HB := n3_; clear n0_ n1_ n2_ n3_; (try clear hb); (try clear hb2); (try clear hk); (try clear hi)))
   go_meet
   case rel => exact ⟨_, (true), (by first | rfl | (simp; done) | (simp [*]; done)), H', ⟨by first | omega | exact Nat.le_refl _⟩, ⟨by (with_reducible repeat (first | refine zB ?_ _ | refine zD ?_ | refine zC ?_ _)); exact BK376.out⟩, ⟨by (with_reducible repeat (first | refine zB ?_ _ | refine zD ?_ | refine zC ?_ _)); exact BK377.out⟩, ⟨by (with_reducible repeat (first | refine zB ?_ _ | refine zD ?_ | refine zC ?_ _)); exact BK378.out⟩, ⟨by repeat (first | (with_reducible first | exact HB.out | apply zG | apply zE | apply zF | refine zH ?_ GE376.out | refine zH ?_ GE377.out | refine zH ?_ GE378.out) | exact HB.out)⟩⟩
 case rest =>
  clear HC3
  try clear c1
  try clear c2
  try clear p2
  try clear c8
  try clear c10
  try clear c11
  try clear c14
  try clear c17
  try clear c18
  try clear c20
  try clear hcz12_0
  try clear hcz12_1
  try clear hcz15_0
  try clear hcz15_1
  try clear hcz19_0
  try clear hcz19_1
  try clear hfz12_0
  try clear hfz12_1
  try clear hfz15_0
  try clear hfz15_1
  try clear hfz19_0
  try clear hfz19_1
  obtain ⟨kq, x13_2, rfl, HA, HJ2, BK376, BK377, BK378, HB⟩ := hcut
  cases kq with
  | zero => exact absurd HA.out (by simp [spec_DecSub.j0])
  | succ kj2 =>
   have H := HA.out
   clear HA
   simp only [spec_DecSub.j0] at H
   by_cases c21 : x13_2 = true
   ·subst c21
    have H1 : (some (0, 0, false)) = some (r1, r2, r3) := by rw [if_pos rfl] at H; exact H
    clear H
    have H := H1
    clear H1
    simp only [Option.some.injEq, Prod.mk.injEq] at H
    obtain ⟨rfl, rfl, rfl⟩ := H
    have hnb22 := NB378_376.out
    have hnc22 := NB376_378.out
    have hnb23 := NB378_377.out
    have hnc23 := NB377_378.out
    have hcz24_0 : wc.cell? ⟨gb378, 0, none⟩ = some (.int .i64 0) := (zJ BK378.out 0).trans rfl
    have hcz24_1 : wc.cell? ⟨gb378, 1, none⟩ = some (.int .i64 0) := (zJ BK378.out 1).trans rfl
    have hfz24_0 := zK BK378.out 0
    have hfz24_1 := zK BK378.out 1
    go_wp2
    refine bodyPost_ret (results_ct rfl _ _ gb378 26 #[.int .i64 0, .int .i64 0] (0, 0) _ rfl (by (with_reducible repeat (first | refine zB ?_ _ | refine zD ?_ | refine zC ?_ _)); refine blk_put (cs := #[.int .i64 0, .int .i64 0]) ?_ 1 _ rfl; (with_reducible repeat (first | refine zB ?_ _ | refine zD ?_ | refine zC ?_ _)); refine blk_put (cs := #[.int .i64 0, .int .i64 0]) ?_ 0 _ rfl; (with_reducible repeat (first | refine zB ?_ _ | refine zD ?_ | refine zC ?_ _)); exact BK378.out) Try.underlying26 rfl (by kernel_rfl)) rfl ?_
    exact ⟨by first | rfl | (simp [errW_none, errW_some] <;> rfl) | (simp [*, errW_none, errW_some] <;> rfl), by repeat (first | (with_reducible first | exact HB.out | apply zG | apply zE | apply zF | refine zH ?_ GE376.out | refine zH ?_ GE377.out | refine zH ?_ GE378.out) | exact HB.out)⟩
   ·replace c21 := Bool.eq_false_iff.mpr c21
    subst c21
    have H1 : ((spec_l1Neg.f a1_0 a1_1).bind fun bt381 => ((spec_l1Add.f kj2 a0_0 a0_1 bt381.1 bt381.2).bind fun bt383 => (some (bt383.1, bt383.2.1, bt383.2.2)))) = some (r1, r2, r3) := by rw [if_neg (show ¬ (false = true) by decide)] at H; exact H
    clear H
    have H := H1
    clear H1
    replace H := Option.bind_eq_some_iff.mp H
    obtain ⟨⟨t381, t382⟩, A250, H⟩ := H
    replace H : ((spec_l1Add.f kj2 a0_0 a0_1 t381 t382).bind fun bt383 => (some (bt383.1, bt383.2.1, bt383.2.2))) = some (r1, r2, r3) := H
    have A25 := zA A250
    clear A250
    replace H := Option.bind_eq_some_iff.mp H
    obtain ⟨⟨t383, t384, t385⟩, A260, H⟩ := H
    replace H : (some (t383, t384, t385)) = some (r1, r2, r3) := H
    have A26 := zA A260
    clear A260
    simp only [Option.some.injEq, Prod.mk.injEq] at H
    obtain ⟨rfl, rfl, rfl⟩ := H
    try go_wp2
    have n0_ := zA (zD BK376.out)
    have n1_ := zA (zD BK377.out)
    have n2_ := zA (zD BK378.out)
    have n3_ := zA (zF HB.out)
    clear BK376
    clear BK377
    clear BK378
    clear HB
    have BK376 := n0_
    have BK377 := n1_
    have BK378 := n2_
    have HB := n3_
    clear n0_ n1_ n2_ n3_
    refine start_ (n := 8) (S := fun w' => w'.cell? ⟨gb376, 0, none⟩ = some (.int .i64 a0_0) ∧ w'.cell? ⟨gb376, 1, none⟩ = some (.int .i64 a0_1) ∧ w'.cell? ⟨gb377, 0, none⟩ = some (.int .i64 a1_0) ∧ w'.cell? ⟨gb377, 1, none⟩ = some (.int .i64 a1_1)) (ds := []) #[false, false, false, false, false, false, false, false] (by kernel_rfl) rfl rfl ⟨(zJ BK376.out 0).trans rfl, (zJ BK376.out 1).trans rfl, (zJ BK377.out 0).trans rfl, (zJ BK377.out 1).trans rfl⟩ (fun hHeld => ?_); refine with_tabW spec_DecSub.tab3 spec_DecSub.bits3 (fun HT_ HW_ => ?_)
    generalize wc.drew = w27 at BK376 BK377 BK378 HB hHeld ⊢
    refine take_ (i := 0) (N := some 15) (v := ?_) (a' := ?_) #[true, false, false, false, false, false, false, false] rfl rfl (take_ofW HT_.out HW_.out (by kernel_rfl)) (fun _ _ _ h => h) (Or.inl ⟨by rfl, ?_⟩) hHeld ?_ ?_
    rotate_left
    ·rintro w' ⟨s0, s1, s2, s3⟩
     go_simp
     with_reducible rfl
    rotate_left
    ·simp only [Act.put, zL, zM, zN, i64_w, i32_w]
     rfl
    refine take_ (i := 1) (N := some 16) (v := ?_) (a' := ?_) #[true, true, false, false, false, false, false, false] rfl rfl (take_ofW HT_.out HW_.out (by kernel_rfl)) (fun _ _ _ h => h) (Or.inl ⟨by rfl, ?_⟩) hHeld ?_ ?_
    rotate_left
    ·rintro w' ⟨s0, s1, s2, s3⟩
     go_simp
     with_reducible rfl
    rotate_left
    ·simp only [Act.put, zL, zM, zN, i64_w, i32_w]
     rfl
    refine one_ (i := 2) (N := some 17) #[true, true, true, false, false, false, false, false] rfl rfl (one_of HT_.out (by kernel_rfl)) (by decide) (fun K hK => ?_)
    refine goes_ Try.func53 (by kernel_rfl) rfl #[.agg #[.int .i64 a1_0, .int .i64 a1_1]] (by rfl) rfl rfl (by (try simp only [zW, yA, yB]); first | done | rfl | (simp only [zX, zZ]; rfl)) ?_
    with_reducible refine (spec_l1Neg.calls a1_0 a1_1 t381 t382 _ A25.out).mono ?_
    rintro e w28 ⟨rfl, hb⟩
    refine ⟨_, rfl, ?_⟩
    have n0_ := zA (zP (g := gb376) (o := .cells #[.int .i64 a0_0, .int .i64 a0_1] 26 (0, 0)) (by (with_reducible repeat (first | refine zB ?_ _ | refine zD ?_ | refine zC ?_ _)); exact BK376.out) hb)
    have n1_ := zA (zP (g := gb377) (o := .cells #[.int .i64 a1_0, .int .i64 a1_1] 26 (0, 0)) (by (with_reducible repeat (first | refine zB ?_ _ | refine zD ?_ | refine zC ?_ _)); exact BK377.out) hb)
    have n2_ := zA (zP (g := gb378) (o := .cells #[.int .i64 0, .int .i64 0] 26 (0, 0)) (by (with_reducible repeat (first | refine zB ?_ _ | refine zD ?_ | refine zC ?_ _)); exact BK378.out) hb)
    have n3_ := zA (zQ (by repeat (first | (with_reducible first | exact HB.out | apply zG | apply zE | apply zF | refine zH ?_ GE376.out | refine zH ?_ GE377.out | refine zH ?_ GE378.out) | exact HB.out)) hb)
    clear BK376
    clear BK377
    clear BK378
    clear HB
    have BK376 := n0_
    have BK377 := n1_
    have BK378 := n2_
    have HB := n3_
    clear n0_ n1_ n2_ n3_
    (try clear hb)
    (try clear hb2)
    (try clear hk)
    (try clear hi)
    refine hK.out _ _ ⟨(zJ BK376.out 0).trans rfl, (zJ BK376.out 1).trans rfl, (zJ BK377.out 0).trans rfl, (zJ BK377.out 1).trans rfl⟩ (fun hHeld => ?_)
    clear hK K
    refine norm_ (a' := ?_) ?_ ?_
    rotate_left
    ·show Act.put _ (some 17) _ = _
     simp only [Act.put, zL, zM, zN, i64_w, i32_w]
     rfl
    refine one_ (i := 3) (N := some 18) #[true, true, true, true, false, false, false, false] rfl rfl (one_of HT_.out (by kernel_rfl)) (by decide) (fun K hK => ?_)
    refine goes_ Try.func52 (by kernel_rfl) rfl #[.agg #[.int .i64 a0_0, .int .i64 a0_1], .agg #[.int .i64 t381, .int .i64 t382]] (by rfl) rfl rfl (by (try simp only [zW, yA, yB]); first | done | rfl | (simp only [zX, zZ]; rfl)) ?_
    with_reducible refine (spec_l1Add.calls kj2 a0_0 a0_1 t381 t382 t383 t384 t385 _ A26.out).mono ?_
    rintro e w29 ⟨rfl, hb⟩
    refine ⟨_, rfl, ?_⟩
    have n0_ := zA (zP (g := gb376) (o := .cells #[.int .i64 a0_0, .int .i64 a0_1] 26 (0, 0)) (by (with_reducible repeat (first | refine zB ?_ _ | refine zD ?_ | refine zC ?_ _)); exact BK376.out) hb)
    have n1_ := zA (zP (g := gb377) (o := .cells #[.int .i64 a1_0, .int .i64 a1_1] 26 (0, 0)) (by (with_reducible repeat (first | refine zB ?_ _ | refine zD ?_ | refine zC ?_ _)); exact BK377.out) hb)
    have n2_ := zA (zP (g := gb378) (o := .cells #[.int .i64 0, .int .i64 0] 26 (0, 0)) (by (with_reducible repeat (first | refine zB ?_ _ | refine zD ?_ | refine zC ?_ _)); exact BK378.out) hb)
    have n3_ := zA (zQ (by repeat (first | (with_reducible first | exact HB.out | apply zG | apply zE | apply zF | refine zH ?_ GE376.out | refine zH ?_ GE377.out | refine zH ?_ GE378.out) | exact HB.out)) hb)
    clear BK376
    clear BK377
    clear BK378
    clear HB
    have BK376 := n0_
    have BK377 := n1_
    have BK378 := n2_
    have HB := n3_
    clear n0_ n1_ n2_ n3_
    (try clear hb)
    (try clear hb2)
    (try clear hk)
    (try clear hi)
    refine hK.out _ _ ⟨(zJ BK376.out 0).trans rfl, (zJ BK376.out 1).trans rfl, (zJ BK377.out 0).trans rfl, (zJ BK377.out 1).trans rfl⟩ (fun hHeld => ?_)
    clear hK K
    refine norm_ (a' := ?_) ?_ ?_
    rotate_left
    ·show Act.put _ (some 18) _ = _
     simp only [Act.put, zL, zM, zN, i64_w, i32_w]
     rfl
    refine pure_ (i := 4) (N := some 19) (v := ?_) (a' := ?_) #[true, true, true, true, true, false, false, false] rfl rfl (any_of HT_.out (by kernel_rfl)) (fun _ _ _ h => h) (Or.inl ⟨by rfl, ?_⟩) ?_ ?_
    rotate_left
    ·intro w'
     go_simp
     with_reducible rfl
    rotate_left
    ·simp only [Act.put, zL, zM, zN, i64_w, i32_w]
     rfl
    refine pure_ (i := 5) (N := some 20) (v := ?_) (a' := ?_) #[true, true, true, true, true, true, false, false] rfl rfl (any_of HT_.out (by kernel_rfl)) (fun _ _ _ h => h) (Or.inl ⟨by rfl, ?_⟩) ?_ ?_
    rotate_left
    ·intro w'
     go_simp
     with_reducible rfl
    rotate_left
    ·simp only [Act.put, zL, zM, zN, i64_w, i32_w]
     rfl
    refine one_ (i := 6) (N := none) #[true, true, true, true, true, true, true, false] rfl rfl (one_of HT_.out (by kernel_rfl)) (by decide) (fun K hK => ?_)
    have hs30 : w29.cell? ⟨gb378, 0, none⟩ = some (.int .i64 0) := (zJ BK378.out 0).trans rfl
    have hfs30 := zK BK378.out 0
    have hns30_0 := NB376_378.out
    have hns30_1 := NB377_378.out
    have hms30_0 := NB378_376.out
    have hms30_1 := NB378_377.out
    have hs31 : w29.cell? ⟨gb378, 1, none⟩ = some (.int .i64 0) := (zJ BK378.out 1).trans rfl
    have hfs31 := zK BK378.out 1
    have hns31_0 := NB376_378.out
    have hns31_1 := NB377_378.out
    have hms31_0 := NB378_376.out
    have hms31_1 := NB378_377.out
    refine skip_ (w1 := ?_) (by rfl) rfl ?_ ?_
    rotate_left
    ·go_simp
     rfl
    refine hK.out _ _ ⟨((cell_far (p := ⟨gb378, _, none⟩) NB376_378.out _).trans (((cell_far (p := ⟨gb378, _, none⟩) NB376_378.out _).trans (hHeld.1)))), ((cell_far (p := ⟨gb378, _, none⟩) NB376_378.out _).trans (((cell_far (p := ⟨gb378, _, none⟩) NB376_378.out _).trans (hHeld.2.1)))), ((cell_far (p := ⟨gb378, _, none⟩) NB377_378.out _).trans (((cell_far (p := ⟨gb378, _, none⟩) NB377_378.out _).trans (hHeld.2.2.1)))), ((cell_far (p := ⟨gb378, _, none⟩) NB377_378.out _).trans (((cell_far (p := ⟨gb378, _, none⟩) NB377_378.out _).trans (hHeld.2.2.2))))⟩ (fun hHeld => ?_)
    clear hK K
    refine pure_ (i := 7) (N := some 5) (v := ?_) (a' := ?_) #[true, true, true, true, true, true, true, true] rfl rfl (any_of HT_.out (by kernel_rfl)) (fun _ _ _ h => h) (Or.inl ⟨by rfl, ?_⟩) ?_ ?_
    rotate_left
    ·intro w'
     go_simp
     with_reducible rfl
    rotate_left
    ·simp only [Act.put, zL, zM, zN, i64_w, i32_w]
     rfl
    refine done_ (done_of HT_.out (by kernel_rfl)) ?_
    try go_wp2
    refine bodyPost_ret (results_ct rfl _ _ gb378 26 #[.int .i64 t383, .int .i64 t384] (0, 0) _ rfl (by (with_reducible repeat (first | refine zB ?_ _ | refine zD ?_ | refine zC ?_ _)); refine blk_put (cs := #[.int .i64 t383, .int .i64 0]) ?_ 1 _ rfl; (with_reducible repeat (first | refine zB ?_ _ | refine zD ?_ | refine zC ?_ _)); refine blk_put (cs := #[.int .i64 0, .int .i64 0]) ?_ 0 _ rfl; (with_reducible repeat (first | refine zB ?_ _ | refine zD ?_ | refine zC ?_ _)); exact BK378.out) Try.underlying26 rfl (by kernel_rfl)) rfl ?_
    exact ⟨by first | rfl | (simp [errW_none, errW_some] <;> rfl) | (simp [*, errW_none, errW_some] <;> rfl), by repeat (first | (with_reducible first | exact HB.out | apply zG | apply zE | apply zF | refine zH ?_ GE376.out | refine zH ?_ GE377.out | refine zH ?_ GE378.out) | exact HB.out)⟩

end Go.Proofs.Ytmoaolcioihjnaa.Q
