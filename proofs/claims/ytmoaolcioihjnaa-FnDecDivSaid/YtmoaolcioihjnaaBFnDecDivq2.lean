-- laid by a program of this session (wip/tools) out of the translation; Lean checks it
import Derived.Test.YtmoaolcioihjnaaBFnDecDivq1
namespace Go.Proofs.Ytmoaolcioihjnaa.Q
open Go.RowKit Go.Proofs.YtmoaolcioihjnaaW.PrintWords Go.Proofs.YtmoaolcioihjnaaW.PrintLast Go.Proofs.YtmoaolcioihjnaaW.PrintMore Go.Proofs.YtmoaolcioihjnaaX
attribute [local go_sem] max2_int min2_int max_two min_two max_three min_three max_four min_four   -- for this text's walks alone
set_option linter.unusedVariables false
set_option linter.unusedSimpArgs false

mutual
def impl_DecDiv.j0 : Nat → Int → Bool → Int → Int → Int → Int → Option (Int × Int × Bool)
 | 0, _, _, _, _, _, _ => none
 | k + 1, x2, x33, x632000, x632001, x633000, x633001 => if x33 = true then (some (0, 0, false)) else ((impl_size.f x632000).bind fun t636 => ((impl_size.f x633000).bind fun t637 => (impl_DecDiv.l0 k x2 t636 t637 (wrap64 ((wrap64 (x632001 - x633001)) + x2)) x632000 x632001 x633000 x633001)))
def impl_DecDiv.l0 : Nat → Int → Int → Int → Int → Int → Int → Int → Int → Option (Int × Int × Bool)
 | 0, _, _, _, _, _, _, _, _ => none
 | k + 1, x2, x8, x9, x10, x632000, x632001, x633000, x633001 => if x10 < 0 then (impl_DecDiv.j2 k x2 x8 x9 x10 (decide (x8 > 0)) x632000 x632001 x633000 x633001) else (impl_DecDiv.j2 k x2 x8 x9 x10 false x632000 x632001 x633000 x633001)
def impl_DecDiv.j2 : Nat → Int → Int → Int → Int → Bool → Int → Int → Int → Int → Option (Int × Int × Bool)
 | 0, _, _, _, _, _, _, _, _, _ => none
 | k + 1, x2, x8, x9, x10, x53, x632000, x632001, x633000, x633001 => if x53 = true then (if x9 > 100000000000000000 then (impl_DecDiv.l0 k x2 0 (wrap64 (x9 * 10)) (wrap64 (x10 + 1)) x632000 x632001 x633000 x633001) else (impl_DecDiv.l0 k x2 x8 (wrap64 (x9 * 10)) (wrap64 (x10 + 1)) x632000 x632001 x633000 x633001)) else (if x9 = 0 then (none) else (impl_DecDiv.l1 k x2 x9 x10 (wrap64 (Int.tdiv x8 x9)) (Int.tmod x8 x9) x632000 x632001 x633000 x633001))
def impl_DecDiv.l1 : Nat → Int → Int → Int → Int → Int → Int → Int → Int → Int → Option (Int × Int × Bool)
 | 0, _, _, _, _, _, _, _, _, _ => none
 | k + 1, x2, x9, x10, x11, x12, x632000, x632001, x633000, x633001 => if x10 > 0 then (if x9 = 0 then (none) else (if (wrap64 ((wrap64 (x11 * 10)) + (wrap64 (Int.tdiv (wrap64 (x12 * 10)) x9)))) > 100000000000000000 then (some (0, 0, false)) else (impl_DecDiv.l1 k x2 x9 (wrap64 (x10 - 1)) (wrap64 ((wrap64 (x11 * 10)) + (wrap64 (Int.tdiv (wrap64 (x12 * 10)) x9)))) (Int.tmod (wrap64 (x12 * 10)) x9) x632000 x632001 x633000 x633001))) else (if ((decide (x632000 < 0)) != (decide (x633000 < 0))) = true then ((impl_form.f k (wrap64 (-x11)) (wrap64 (-x2))).bind fun bt638 => (some (bt638.1, bt638.2.1, bt638.2.2))) else ((impl_form.f k x11 (wrap64 (-x2))).bind fun bt641 => (some (bt641.1, bt641.2.1, bt641.2.2))))
end
def impl_DecDiv.f (k : Nat) (a0_0 : Int) (a0_1 : Int) (a1_0 : Int) (a1_1 : Int) (a2 : Int) : Option (Int × Int × Bool) := (impl_DecOk.f a0_0 a0_1).bind fun t634 => (if t634 = true then ((impl_DecOk.f a1_0 a1_1).bind fun t635 => (if t635 = true then (if a1_0 = 0 then (impl_DecDiv.j0 k a2 true a0_0 a0_1 a1_0 a1_1) else (if a2 < 0 then (impl_DecDiv.j0 k a2 true a0_0 a0_1 a1_0 a1_1) else (impl_DecDiv.j0 k a2 (decide (a2 > 8)) a0_0 a0_1 a1_0 a1_1))) else (impl_DecDiv.j0 k a2 true a0_0 a0_1 a1_0 a1_1))) else (impl_DecDiv.j0 k a2 true a0_0 a0_1 a1_0 a1_1))
theorem impl_DecDiv.mono_l : ∀ k, (∀ y0 y1 y2 y3 y4 y5, LeO (impl_DecDiv.j0 k y0 y1 y2 y3 y4 y5) (impl_DecDiv.j0 (k + 1) y0 y1 y2 y3 y4 y5)) ∧ (∀ y0 y1 y2 y3 y4 y5 y6 y7, LeO (impl_DecDiv.l0 k y0 y1 y2 y3 y4 y5 y6 y7) (impl_DecDiv.l0 (k + 1) y0 y1 y2 y3 y4 y5 y6 y7)) ∧ (∀ y0 y1 y2 y3 y4 y5 y6 y7 y8, LeO (impl_DecDiv.j2 k y0 y1 y2 y3 y4 y5 y6 y7 y8) (impl_DecDiv.j2 (k + 1) y0 y1 y2 y3 y4 y5 y6 y7 y8)) ∧ (∀ y0 y1 y2 y3 y4 y5 y6 y7 y8, LeO (impl_DecDiv.l1 k y0 y1 y2 y3 y4 y5 y6 y7 y8) (impl_DecDiv.l1 (k + 1) y0 y1 y2 y3 y4 y5 y6 y7 y8))
 | 0 => ⟨fun _ _ _ _ _ _ r h => by simp [impl_DecDiv.j0] at h, fun _ _ _ _ _ _ _ _ r h => by simp [impl_DecDiv.l0] at h, fun _ _ _ _ _ _ _ _ _ r h => by simp [impl_DecDiv.j2] at h, fun _ _ _ _ _ _ _ _ _ r h => by simp [impl_DecDiv.l1] at h⟩
 | k + 1 => by
  obtain ⟨ih0, ih1, ih2, ih3⟩ := impl_DecDiv.mono_l k
  refine ⟨?_, ?_, ?_, ?_⟩
  ·intro y0 y1 y2 y3 y4 y5
   unfold impl_DecDiv.j0
   repeat' first
   | (with_reducible exact ih0 _ _ _ _ _ _)
   | (with_reducible exact ih1 _ _ _ _ _ _ _ _)
   | (with_reducible exact ih2 _ _ _ _ _ _ _ _ _)
   | (with_reducible exact ih3 _ _ _ _ _ _ _ _ _)
   | (with_reducible exact impl_form.mono _ _ _)
   | (with_reducible exact LeO.refl _)
   | (with_reducible exact LeO.none _)
   | (with_reducible refine LeO.ite ?_ ?_)
   | (with_reducible refine LeO.bind ?_ (fun _ => ?_))
   | exact ih0 _ _ _ _ _ _
   | exact ih1 _ _ _ _ _ _ _ _
   | exact ih2 _ _ _ _ _ _ _ _ _
   | exact ih3 _ _ _ _ _ _ _ _ _
   | exact impl_form.mono _ _ _
   | exact LeO.none _
   | refine LeO.ite ?_ ?_
   | refine LeO.bind ?_ (fun _ => ?_)
  ·intro y0 y1 y2 y3 y4 y5 y6 y7
   unfold impl_DecDiv.l0
   repeat' first
   | (with_reducible exact ih0 _ _ _ _ _ _)
   | (with_reducible exact ih1 _ _ _ _ _ _ _ _)
   | (with_reducible exact ih2 _ _ _ _ _ _ _ _ _)
   | (with_reducible exact ih3 _ _ _ _ _ _ _ _ _)
   | (with_reducible exact impl_form.mono _ _ _)
   | (with_reducible exact LeO.refl _)
   | (with_reducible exact LeO.none _)
   | (with_reducible refine LeO.ite ?_ ?_)
   | (with_reducible refine LeO.bind ?_ (fun _ => ?_))
   | exact ih0 _ _ _ _ _ _
   | exact ih1 _ _ _ _ _ _ _ _
   | exact ih2 _ _ _ _ _ _ _ _ _
   | exact ih3 _ _ _ _ _ _ _ _ _
   | exact impl_form.mono _ _ _
   | exact LeO.none _
   | refine LeO.ite ?_ ?_
   | refine LeO.bind ?_ (fun _ => ?_)
  ·intro y0 y1 y2 y3 y4 y5 y6 y7 y8
   unfold impl_DecDiv.j2
   repeat' first
   | (with_reducible exact ih0 _ _ _ _ _ _)
   | (with_reducible exact ih1 _ _ _ _ _ _ _ _)
   | (with_reducible exact ih2 _ _ _ _ _ _ _ _ _)
   | (with_reducible exact ih3 _ _ _ _ _ _ _ _ _)
   | (with_reducible exact impl_form.mono _ _ _)
   | (with_reducible exact LeO.refl _)
   | (with_reducible exact LeO.none _)
   | (with_reducible refine LeO.ite ?_ ?_)
   | (with_reducible refine LeO.bind ?_ (fun _ => ?_))
   | exact ih0 _ _ _ _ _ _
   | exact ih1 _ _ _ _ _ _ _ _
   | exact ih2 _ _ _ _ _ _ _ _ _
   | exact ih3 _ _ _ _ _ _ _ _ _
   | exact impl_form.mono _ _ _
   | exact LeO.none _
   | refine LeO.ite ?_ ?_
   | refine LeO.bind ?_ (fun _ => ?_)
  ·intro y0 y1 y2 y3 y4 y5 y6 y7 y8
   unfold impl_DecDiv.l1
   repeat' first
   | (with_reducible exact ih0 _ _ _ _ _ _)
   | (with_reducible exact ih1 _ _ _ _ _ _ _ _)
   | (with_reducible exact ih2 _ _ _ _ _ _ _ _ _)
   | (with_reducible exact ih3 _ _ _ _ _ _ _ _ _)
   | (with_reducible exact impl_form.mono _ _ _)
   | (with_reducible exact LeO.refl _)
   | (with_reducible exact LeO.none _)
   | (with_reducible refine LeO.ite ?_ ?_)
   | (with_reducible refine LeO.bind ?_ (fun _ => ?_))
   | exact ih0 _ _ _ _ _ _
   | exact ih1 _ _ _ _ _ _ _ _
   | exact ih2 _ _ _ _ _ _ _ _ _
   | exact ih3 _ _ _ _ _ _ _ _ _
   | exact impl_form.mono _ _ _
   | exact LeO.none _
   | refine LeO.ite ?_ ?_
   | refine LeO.bind ?_ (fun _ => ?_)
theorem impl_DecDiv.mono : ∀ a0 a1 a2 a3 a4 k, LeO (impl_DecDiv.f k a0 a1 a2 a3 a4) (impl_DecDiv.f (k + 1) a0 a1 a2 a3 a4) := by
 intro a0 a1 a2 a3 a4 k
 obtain ⟨ih0, ih1, ih2, ih3⟩ := impl_DecDiv.mono_l k
 unfold impl_DecDiv.f
 repeat' first
   | (with_reducible exact ih0 _ _ _ _ _ _)
   | (with_reducible exact ih1 _ _ _ _ _ _ _ _)
   | (with_reducible exact ih2 _ _ _ _ _ _ _ _ _)
   | (with_reducible exact ih3 _ _ _ _ _ _ _ _ _)
   | (with_reducible exact impl_form.mono _ _ _)
   | (with_reducible exact LeO.refl _)
   | (with_reducible exact LeO.none _)
   | (with_reducible refine LeO.ite ?_ ?_)
   | (with_reducible refine LeO.bind ?_ (fun _ => ?_))
   | exact ih0 _ _ _ _ _ _
   | exact ih1 _ _ _ _ _ _ _ _
   | exact ih2 _ _ _ _ _ _ _ _ _
   | exact ih3 _ _ _ _ _ _ _ _ _
   | exact impl_form.mono _ _ _
   | exact LeO.none _
   | refine LeO.ite ?_ ?_
   | refine LeO.bind ?_ (fun _ => ?_)
def impl_DecDiv.T3 : Bool × List (List Nat × List Nat) := (true, [([], []), ([0], [0]), ([1], [1]), ([], []), ([3], [3]), ([4, 2], [4]), ([2, 5, 0, 1, 2], [2]), ([5, 6, 0, 1, 2, 3, 4, 5, 6], [5])])
def impl_DecDiv.B3 : List Nat := [0, 1, 3, 0, 8, 31, 63, 127]
theorem impl_DecDiv.tab3 : rtab .any (opsOf Try.f37 3) = impl_DecDiv.T3 := by kernel_rfl
theorem impl_DecDiv.bits3 : waitsOk impl_DecDiv.T3.2 impl_DecDiv.B3 = true := by kernel_rfl
def impl_DecDiv.T10 : Bool × List (List Nat × List Nat) := (true, [([], []), ([], []), ([0, 1], [0, 1]), ([], []), ([], []), ([3, 4], [3, 4]), ([2, 0, 1, 2], [2]), ([5, 6, 0, 1, 2, 3, 4, 5, 6], [5])])
def impl_DecDiv.B10 : List Nat := [0, 0, 3, 0, 0, 24, 7, 127]
theorem impl_DecDiv.tab10 : rtab .any (opsOf Try.f37 10) = impl_DecDiv.T10 := by kernel_rfl
theorem impl_DecDiv.bits10 : waitsOk impl_DecDiv.T10.2 impl_DecDiv.B10 = true := by kernel_rfl
set_option maxHeartbeats 8000000 in
set_option maxRecDepth 100000 in
theorem impl_DecDiv.calls (k : Nat) (a0_0 : Int) (a0_1 : Int) (a1_0 : Int) (a1_1 : Int) (a2 : Int) (r1 : Int) (r2 : Int) (r3 : Bool) (w : World) (h : impl_DecDiv.f k a0_0 a0_1 a1_0 a1_1 a2 = some (r1, r2, r3)) :
  Calls Try.prog 37 #[.agg #[.int .i64 a0_0, .int .i64 a0_1], .agg #[.int .i64 a1_0, .int .i64 a1_1], .int .i64 a2] w fun e w' => e = .returned (.tuple #[.agg #[.int .i64 r1, .int .i64 r2], .bool r3]) ∧ Below w.heap.size w w' := by
 have hu26 := Try.underlying26
 have HB := zA (Below.refl w.heap.size w)
 have H : ((impl_DecOk.f a0_0 a0_1).bind fun t634 => (if t634 = true then ((impl_DecOk.f a1_0 a1_1).bind fun t635 => (if t635 = true then (if a1_0 = 0 then (impl_DecDiv.j0 k a2 true a0_0 a0_1 a1_0 a1_1) else (if a2 < 0 then (impl_DecDiv.j0 k a2 true a0_0 a0_1 a1_0 a1_1) else (impl_DecDiv.j0 k a2 (decide (a2 > 8)) a0_0 a0_1 a1_0 a1_1))) else (impl_DecDiv.j0 k a2 true a0_0 a0_1 a1_0 a1_1))) else (impl_DecDiv.j0 k a2 true a0_0 a0_1 a1_0 a1_1))) = some (r1, r2, r3) := h
 clear h
 have HC4 := zA H
 clear H
 go_enter Try.func37, Try.ntmps37
 go_upto_region 1 with (first | ((with_reducible refine zS (N := 3) rfl ?_); refine zV ?hg (N := 3) ?hd (cs := #[.int .i64 a0_0, .int .i64 a0_1]) (t := 26) ?hr ?_; (case hd => rfl); (case hg => rfl); (case hr => first | (go_simp; done) | (go_simp; rfl)); intro gb631 hg w5 hbox hb; have n0_ := zA (zQ (by repeat (first | (with_reducible first | exact HB.out | apply zG | apply zE | apply zF) | exact HB.out)) hb); have n1_ := zA (hbox); have n2_ := zA ((by rw [hg]; exact (zR (by repeat (first | (with_reducible first | exact HB.out | apply zG | apply zE | apply zF) | exact HB.out))) : w.heap.size ≤ gb631)); have n3_ := zA ((by rw [hg]; exact (zR (by repeat (first | (with_reducible first | exact HB.out | apply zG | apply zE | apply zF) | exact HB.out))) : w.heap.size ≤ gb631)); clear HB; have HB := n0_; have BK631 := n1_; have GW631 := n2_; have GE631 := n3_; clear n0_ n1_ n2_ n3_; clear hb hbox hg) | ((with_reducible refine zS (N := 4) rfl ?_); refine zV ?hg (N := 4) ?hd (cs := #[.int .i64 a1_0, .int .i64 a1_1]) (t := 26) ?hr ?_; (case hd => rfl); (case hg => rfl); (case hr => first | (go_simp; done) | (go_simp; rfl)); intro gb632 hg w6 hbox hb; have n0_ := zA (zP (g := gb631) (o := .cells #[.int .i64 a0_0, .int .i64 a0_1] 26 (0, 0)) (by (with_reducible repeat (first | refine zB ?_ _ | refine zD ?_ | refine zC ?_ _)); exact BK631.out) hb); have n1_ := zA (zQ (by repeat (first | (with_reducible first | exact HB.out | apply zG | apply zE | apply zF | refine zH ?_ GE631.out) | exact HB.out)) hb); have n2_ := zA (hbox); have n3_ := zA ((by rw [hg]; exact (zR (by repeat (first | (with_reducible first | exact HB.out | apply zG | apply zE | apply zF | refine zH ?_ GE631.out) | exact HB.out))) : w.heap.size ≤ gb632)); have n4_ := zA ((by rw [hg]; exact (zR (by repeat (first | (with_reducible first | exact HB.out | apply zG | apply zE | apply zF | refine zH ?_ GE631.out) | exact HB.out))) : w.heap.size ≤ gb632)); have n5_ := zA ((by rw [hg]; exact Nat.ne_of_lt (blk_lt (g := gb631) (o := .cells #[.int .i64 a0_0, .int .i64 a0_1] 26 (0, 0)) (by (with_reducible repeat (first | refine zB ?_ _ | refine zD ?_ | refine zC ?_ _)); exact BK631.out)) : gb631 ≠ gb632)); have n6_ := zA ((by rw [hg]; exact Nat.ne_of_gt (blk_lt (g := gb631) (o := .cells #[.int .i64 a0_0, .int .i64 a0_1] 26 (0, 0)) (by (with_reducible repeat (first | refine zB ?_ _ | refine zD ?_ | refine zC ?_ _)); exact BK631.out)) : gb632 ≠ gb631)); clear BK631; clear HB; have BK631 := n0_; have HB := n1_; have BK632 := n2_; have GW632 := n3_; have GE632 := n4_; have NB631_632 := n5_; have NB632_631 := n6_; clear n0_ n1_ n2_ n3_ n4_ n5_ n6_; clear hb hbox hg) | ((with_reducible refine zS (N := 6) rfl ?_); refine zV ?hg (N := 6) ?hd (cs := #[.int .i64 0, .int .i64 0]) (t := 26) ?hr ?_; (case hd => rfl); (case hg => rfl); (case hr => first | (go_simp; done) | (go_simp; rfl)); intro gb633 hg w7 hbox hb; have n0_ := zA (zP (g := gb631) (o := .cells #[.int .i64 a0_0, .int .i64 a0_1] 26 (0, 0)) (by (with_reducible repeat (first | refine zB ?_ _ | refine zD ?_ | refine zC ?_ _)); exact BK631.out) hb); have n1_ := zA (zP (g := gb632) (o := .cells #[.int .i64 a1_0, .int .i64 a1_1] 26 (0, 0)) (by (with_reducible repeat (first | refine zB ?_ _ | refine zD ?_ | refine zC ?_ _)); exact BK632.out) hb); have n2_ := zA (zQ (by repeat (first | (with_reducible first | exact HB.out | apply zG | apply zE | apply zF | refine zH ?_ GE631.out | refine zH ?_ GE632.out) | exact HB.out)) hb); have n3_ := zA (hbox); have n4_ := zA ((by rw [hg]; exact (zR (by repeat (first | (with_reducible first | exact HB.out | apply zG | apply zE | apply zF | refine zH ?_ GE631.out | refine zH ?_ GE632.out) | exact HB.out))) : w.heap.size ≤ gb633)); have n5_ := zA ((by rw [hg]; exact (zR (by repeat (first | (with_reducible first | exact HB.out | apply zG | apply zE | apply zF | refine zH ?_ GE631.out | refine zH ?_ GE632.out) | exact HB.out))) : w.heap.size ≤ gb633)); have n6_ := zA ((by rw [hg]; exact Nat.ne_of_lt (blk_lt (g := gb631) (o := .cells #[.int .i64 a0_0, .int .i64 a0_1] 26 (0, 0)) (by (with_reducible repeat (first | refine zB ?_ _ | refine zD ?_ | refine zC ?_ _)); exact BK631.out)) : gb631 ≠ gb633)); have n7_ := zA ((by rw [hg]; exact Nat.ne_of_gt (blk_lt (g := gb631) (o := .cells #[.int .i64 a0_0, .int .i64 a0_1] 26 (0, 0)) (by (with_reducible repeat (first | refine zB ?_ _ | refine zD ?_ | refine zC ?_ _)); exact BK631.out)) : gb633 ≠ gb631)); have n8_ := zA ((by rw [hg]; exact Nat.ne_of_lt (blk_lt (g := gb632) (o := .cells #[.int .i64 a1_0, .int .i64 a1_1] 26 (0, 0)) (by (with_reducible repeat (first | refine zB ?_ _ | refine zD ?_ | refine zC ?_ _)); exact BK632.out)) : gb632 ≠ gb633)); have n9_ := zA ((by rw [hg]; exact Nat.ne_of_gt (blk_lt (g := gb632) (o := .cells #[.int .i64 a1_0, .int .i64 a1_1] 26 (0, 0)) (by (with_reducible repeat (first | refine zB ?_ _ | refine zD ?_ | refine zC ?_ _)); exact BK632.out)) : gb633 ≠ gb632)); clear BK631; clear BK632; clear HB; have BK631 := n0_; have BK632 := n1_; have HB := n2_; have BK633 := n3_; have GW633 := n4_; have GE633 := n5_; have NB631_633 := n6_; have NB633_631 := n7_; have NB632_633 := n8_; have NB633_632 := n9_; clear n0_ n1_ n2_ n3_ n4_ n5_ n6_ n7_ n8_ n9_; clear hb hbox hg))
 (try simp only [Act.put, zL, zM, zN])
 go_cut [33] (fun v33 wc => ∃ (kq : Nat) (x33_3 : Bool), v33 = .bool x33_3 ∧ Aside0 (impl_DecDiv.j0 kq a2 x33_3 a0_0 a0_1 a1_0 a1_1 = some (r1, r2, r3)) ∧ Aside0 (kq ≤ k) ∧ Aside0 (wc.heap[gb631]? = some (.cells #[.int .i64 a0_0, .int .i64 a0_1] 26 (0, 0))) ∧ Aside0 (wc.heap[gb632]? = some (.cells #[.int .i64 a1_0, .int .i64 a1_1] 26 (0, 0))) ∧ Aside0 (wc.heap[gb633]? = some (.cells #[.int .i64 0, .int .i64 0] 26 (0, 0))) ∧ Aside0 (Below w.heap.size w wc))
 case first =>
  have H := HC4.out
  clear HC4
  replace H := Option.bind_eq_some_iff.mp H
  obtain ⟨t634, A80, H⟩ := H
  replace H : (if t634 = true then ((impl_DecOk.f a1_0 a1_1).bind fun t635 => (if t635 = true then (if a1_0 = 0 then (impl_DecDiv.j0 k a2 true a0_0 a0_1 a1_0 a1_1) else (if a2 < 0 then (impl_DecDiv.j0 k a2 true a0_0 a0_1 a1_0 a1_1) else (impl_DecDiv.j0 k a2 (decide (a2 > 8)) a0_0 a0_1 a1_0 a1_1))) else (impl_DecDiv.j0 k a2 true a0_0 a0_1 a1_0 a1_1))) else (impl_DecDiv.j0 k a2 true a0_0 a0_1 a1_0 a1_1)) = some (r1, r2, r3) := H
  have A8 := zA A80
  clear A80
  by_cases c9 : t634 = true
  ·subst c9
   have H1 : ((impl_DecOk.f a1_0 a1_1).bind fun t635 => (if t635 = true then (if a1_0 = 0 then (impl_DecDiv.j0 k a2 true a0_0 a0_1 a1_0 a1_1) else (if a2 < 0 then (impl_DecDiv.j0 k a2 true a0_0 a0_1 a1_0 a1_1) else (impl_DecDiv.j0 k a2 (decide (a2 > 8)) a0_0 a0_1 a1_0 a1_1))) else (impl_DecDiv.j0 k a2 true a0_0 a0_1 a1_0 a1_1))) = some (r1, r2, r3) := by rw [if_pos rfl] at H; exact H
   clear H
   have H := H1
   clear H1
   replace H := Option.bind_eq_some_iff.mp H
   obtain ⟨t635, A100, H⟩ := H
   replace H : (if t635 = true then (if a1_0 = 0 then (impl_DecDiv.j0 k a2 true a0_0 a0_1 a1_0 a1_1) else (if a2 < 0 then (impl_DecDiv.j0 k a2 true a0_0 a0_1 a1_0 a1_1) else (impl_DecDiv.j0 k a2 (decide (a2 > 8)) a0_0 a0_1 a1_0 a1_1))) else (impl_DecDiv.j0 k a2 true a0_0 a0_1 a1_0 a1_1)) = some (r1, r2, r3) := H
   have A10 := zA A100
   clear A100
   by_cases c11 : t635 = true
   ·subst c11
    have H1 : (if a1_0 = 0 then (impl_DecDiv.j0 k a2 true a0_0 a0_1 a1_0 a1_1) else (if a2 < 0 then (impl_DecDiv.j0 k a2 true a0_0 a0_1 a1_0 a1_1) else (impl_DecDiv.j0 k a2 (decide (a2 > 8)) a0_0 a0_1 a1_0 a1_1))) = some (r1, r2, r3) := by rw [if_pos rfl] at H; exact H
    clear H
    have H := H1
    clear H1
    by_cases c12 : a1_0 = 0
    ·rw [if_pos c12] at H
     have c12b0 : (a1_0 == 0) = true := beq_iff_eq.mpr c12
     have c12b1 : (a1_0 != 0) = false := bne_eq_false_iff_eq.mpr c12
     clear c12
     (first | rw [c12b0] | (simp only [i64_w, i32_w]; rw [c12b0]) | skip)
     have H' := zA H
     clear H
     have hnb13 := NB631_632.out
     have hnc13 := NB632_631.out
     have hnb14 := NB631_633.out
     have hnc14 := NB633_631.out
     have hcz15_0 : w7.cell? ⟨gb631, 0, none⟩ = some (.int .i64 a0_0) := (zJ BK631.out 0).trans rfl
     have hcz15_1 : w7.cell? ⟨gb631, 1, none⟩ = some (.int .i64 a0_1) := (zJ BK631.out 1).trans rfl
     have hfz15_0 := zK BK631.out 0
     have hfz15_1 := zK BK631.out 1
     go_wp2_with (first | ((with_reducible refine zT (f := 16) rfl ?_); refine goesL_ (some 14) rfl rfl Try.func16 (by kernel_rfl) rfl #[.agg #[.int .i64 a0_0, .int .i64 a0_1]] rfl (by (try simp only [List.map_toArray, List.map_cons, List.map_nil]); first | done | rfl | (simp only [List.length_drop, List.length_take]; rfl)) ?_; (with_reducible refine (impl_DecOk.calls a0_0 a0_1 true _ A8.out).mono ?_); rintro e w16 ⟨rfl, hb⟩; refine ⟨_, rfl, ?_⟩; have n0_ := zA (zP (g := gb631) (o := .cells #[.int .i64 a0_0, .int .i64 a0_1] 26 (0, 0)) (by (with_reducible repeat (first | refine zB ?_ _ | refine zD ?_ | refine zC ?_ _)); exact BK631.out) hb); have n1_ := zA (zP (g := gb632) (o := .cells #[.int .i64 a1_0, .int .i64 a1_1] 26 (0, 0)) (by (with_reducible repeat (first | refine zB ?_ _ | refine zD ?_ | refine zC ?_ _)); exact BK632.out) hb); have n2_ := zA (zP (g := gb633) (o := .cells #[.int .i64 0, .int .i64 0] 26 (0, 0)) (by (with_reducible repeat (first | refine zB ?_ _ | refine zD ?_ | refine zC ?_ _)); exact BK633.out) hb); have n3_ := zA (zQ (by repeat (first | (with_reducible first | exact HB.out | apply zG | apply zE | apply zF | refine zH ?_ GE631.out | refine zH ?_ GE632.out | refine zH ?_ GE633.out) | exact HB.out)) hb); clear BK631; clear BK632; clear BK633; clear HB; have BK631 := n0_; have BK632 := n1_; have BK633 := n2_; have HB := n3_; clear n0_ n1_ n2_ n3_; (try clear hb); (try clear hb2); (try clear hk); (try clear hi); have hnb17 := NB632_633.out; have hnc17 := NB633_632.out; have hcz18_0 : w16.cell? ⟨gb632, 0, none⟩ = some (.int .i64 a1_0) := (zJ BK632.out 0).trans rfl; have hcz18_1 : w16.cell? ⟨gb632, 1, none⟩ = some (.int .i64 a1_1) := (zJ BK632.out 1).trans rfl; have hfz18_0 := zK BK632.out 0; have hfz18_1 := zK BK632.out 1) | (go_at_call 16; (with_reducible refine (impl_DecOk.calls a1_0 a1_1 true _ A10.out).mono ?_); rintro e w19 ⟨rfl, hb⟩; have n0_ := zA (zP (g := gb631) (o := .cells #[.int .i64 a0_0, .int .i64 a0_1] 26 (0, 0)) (by (with_reducible repeat (first | refine zB ?_ _ | refine zD ?_ | refine zC ?_ _)); exact BK631.out) hb); have n1_ := zA (zP (g := gb632) (o := .cells #[.int .i64 a1_0, .int .i64 a1_1] 26 (0, 0)) (by (with_reducible repeat (first | refine zB ?_ _ | refine zD ?_ | refine zC ?_ _)); exact BK632.out) hb); have n2_ := zA (zP (g := gb633) (o := .cells #[.int .i64 0, .int .i64 0] 26 (0, 0)) (by (with_reducible repeat (first | refine zB ?_ _ | refine zD ?_ | refine zC ?_ _)); exact BK633.out) hb); have n3_ := zA (zQ (by repeat (first | (with_reducible first | exact HB.out | apply zG | apply zE | apply zF | refine zH ?_ GE631.out | refine zH ?_ GE632.out | refine zH ?_ GE633.out) | exact HB.out)) hb); clear BK631; clear BK632; clear BK633; clear HB; have BK631 := n0_; have BK632 := n1_; have BK633 := n2_; have HB := n3_; clear n0_ n1_ n2_ n3_; (try clear hb); (try clear hb2); (try clear hk); (try clear hi); have hcz20_0 : w19.cell? ⟨gb632, 0, none⟩ = some (.int .i64 a1_0) := (zJ BK632.out 0).trans rfl; have hcz20_1 : w19.cell? ⟨gb632, 1, none⟩ = some (.int .i64 a1_1) := (zJ BK632.out 1).trans rfl; have hfz20_0 := zK BK632.out 0; have hfz20_1 := zK BK632.out 1))
     go_meet
     case rel => exact ⟨_, (true), (by first | rfl | (simp; done) | (simp [*]; done)), H', ⟨by first | omega | exact Nat.le_refl _⟩, ⟨by (with_reducible repeat (first | refine zB ?_ _ | refine zD ?_ | refine zC ?_ _)); exact BK631.out⟩, ⟨by (with_reducible repeat (first | refine zB ?_ _ | refine zD ?_ | refine zC ?_ _)); exact BK632.out⟩, ⟨by (with_reducible repeat (first | refine zB ?_ _ | refine zD ?_ | refine zC ?_ _)); exact BK633.out⟩, ⟨by repeat (first | (with_reducible first | exact HB.out | apply zG | apply zE | apply zF | refine zH ?_ GE631.out | refine zH ?_ GE632.out | refine zH ?_ GE633.out) | exact HB.out)⟩⟩
    ·rw [if_neg c12] at H
     have c12b0 : (a1_0 == 0) = false := beq_eq_false_iff_ne.mpr c12
     have c12b1 : (a1_0 != 0) = true := bne_iff_ne.mpr c12
     (first | rw [c12b0] | (simp only [i64_w, i32_w]; rw [c12b0]) | skip)
     by_cases c21 : a2 < 0
     ·rw [if_pos c21] at H
      have c21b0 : decide (a2 < 0) = true := decide_eq_true c21
      clear c21
      have H' := zA H
      clear H
      have hnb22 := NB631_632.out
      have hnc22 := NB632_631.out
      have hnb23 := NB631_633.out
      have hnc23 := NB633_631.out
      have hcz24_0 : w7.cell? ⟨gb631, 0, none⟩ = some (.int .i64 a0_0) := (zJ BK631.out 0).trans rfl
      have hcz24_1 : w7.cell? ⟨gb631, 1, none⟩ = some (.int .i64 a0_1) := (zJ BK631.out 1).trans rfl
      have hfz24_0 := zK BK631.out 0
      have hfz24_1 := zK BK631.out 1
      go_wp2_with (first | ((with_reducible refine zT (f := 16) rfl ?_); refine goesL_ (some 14) rfl rfl Try.func16 (by kernel_rfl) rfl #[.agg #[.int .i64 a0_0, .int .i64 a0_1]] rfl (by (try simp only [List.map_toArray, List.map_cons, List.map_nil]); first | done | rfl | (simp only [List.length_drop, List.length_take]; rfl)) ?_; (with_reducible refine (impl_DecOk.calls a0_0 a0_1 true _ A8.out).mono ?_); rintro e w25 ⟨rfl, hb⟩; refine ⟨_, rfl, ?_⟩; have n0_ := zA (zP (g := gb631) (o := .cells #[.int .i64 a0_0, .int .i64 a0_1] 26 (0, 0)) (by (with_reducible repeat (first | refine zB ?_ _ | refine zD ?_ | refine zC ?_ _)); exact BK631.out) hb); have n1_ := zA (zP (g := gb632) (o := .cells #[.int .i64 a1_0, .int .i64 a1_1] 26 (0, 0)) (by (with_reducible repeat (first | refine zB ?_ _ | refine zD ?_ | refine zC ?_ _)); exact BK632.out) hb); have n2_ := zA (zP (g := gb633) (o := .cells #[.int .i64 0, .int .i64 0] 26 (0, 0)) (by (with_reducible repeat (first | refine zB ?_ _ | refine zD ?_ | refine zC ?_ _)); exact BK633.out) hb); have n3_ := zA (zQ (by repeat (first | (with_reducible first | exact HB.out | apply zG | apply zE | apply zF | refine zH ?_ GE631.out | refine zH ?_ GE632.out | refine zH ?_ GE633.out) | exact HB.out)) hb); clear BK631; clear BK632; clear BK633; clear HB; have BK631 := n0_; have BK632 := n1_; have BK633 := n2_; have HB := n3_; clear n0_ n1_ n2_ n3_; (try clear hb); (try clear hb2); (try clear hk); (try clear hi); have hnb26 := NB632_633.out; have hnc26 := NB633_632.out; have hcz27_0 : w25.cell? ⟨gb632, 0, none⟩ = some (.int .i64 a1_0) := (zJ BK632.out 0).trans rfl; have hcz27_1 : w25.cell? ⟨gb632, 1, none⟩ = some (.int .i64 a1_1) := (zJ BK632.out 1).trans rfl; have hfz27_0 := zK BK632.out 0; have hfz27_1 := zK BK632.out 1) | (go_at_call 16; (with_reducible refine (impl_DecOk.calls a1_0 a1_1 true _ A10.out).mono ?_); rintro e w28 ⟨rfl, hb⟩; have n0_ := zA (zP (g := gb631) (o := .cells #[.int .i64 a0_0, .int .i64 a0_1] 26 (0, 0)) (by (with_reducible repeat (first | refine zB ?_ _ | refine zD ?_ | refine zC ?_ _)); exact BK631.out) hb); have n1_ := zA (zP (g := gb632) (o := .cells #[.int .i64 a1_0, .int .i64 a1_1] 26 (0, 0)) (by (with_reducible repeat (first | refine zB ?_ _ | refine zD ?_ | refine zC ?_ _)); exact BK632.out) hb); have n2_ := zA (zP (g := gb633) (o := .cells #[.int .i64 0, .int .i64 0] 26 (0, 0)) (by (with_reducible repeat (first | refine zB ?_ _ | refine zD ?_ | refine zC ?_ _)); exact BK633.out) hb); have n3_ := zA (zQ (by repeat (first | (with_reducible first | exact HB.out | apply zG | apply zE | apply zF | refine zH ?_ GE631.out | refine zH ?_ GE632.out | refine zH ?_ GE633.out) | exact HB.out)) hb); clear BK631; clear BK632; clear BK633; clear HB; have BK631 := n0_; have BK632 := n1_; have BK633 := n2_; have HB := n3_; clear n0_ n1_ n2_ n3_; (try clear hb); (try clear hb2); (try clear hk); (try clear hi); have hcz29_0 : w28.cell? ⟨gb632, 0, none⟩ = some (.int .i64 a1_0) := (zJ BK632.out 0).trans rfl; have hcz29_1 : w28.cell? ⟨gb632, 1, none⟩ = some (.int .i64 a1_1) := (zJ BK632.out 1).trans rfl; have hfz29_0 := zK BK632.out 0; have hfz29_1 := zK BK632.out 1))
      go_meet
      case rel => exact ⟨_, (true), (by first | rfl | (simp; done) | (simp [*]; done)), H', ⟨by first | omega | exact Nat.le_refl _⟩, ⟨by (with_reducible repeat (first | refine zB ?_ _ | refine zD ?_ | refine zC ?_ _)); exact BK631.out⟩, ⟨by (with_reducible repeat (first | refine zB ?_ _ | refine zD ?_ | refine zC ?_ _)); exact BK632.out⟩, ⟨by (with_reducible repeat (first | refine zB ?_ _ | refine zD ?_ | refine zC ?_ _)); exact BK633.out⟩, ⟨by repeat (first | (with_reducible first | exact HB.out | apply zG | apply zE | apply zF | refine zH ?_ GE631.out | refine zH ?_ GE632.out | refine zH ?_ GE633.out) | exact HB.out)⟩⟩
     ·rw [if_neg c21] at H
      have c21b0 : decide (a2 < 0) = false := decide_eq_false c21
      clear c21
      have H' := zA H
      clear H
      have hnb30 := NB631_632.out
      have hnc30 := NB632_631.out
      have hnb31 := NB631_633.out
      have hnc31 := NB633_631.out
      have hcz32_0 : w7.cell? ⟨gb631, 0, none⟩ = some (.int .i64 a0_0) := (zJ BK631.out 0).trans rfl
      have hcz32_1 : w7.cell? ⟨gb631, 1, none⟩ = some (.int .i64 a0_1) := (zJ BK631.out 1).trans rfl
      have hfz32_0 := zK BK631.out 0
      have hfz32_1 := zK BK631.out 1
      go_wp2_with (first | ((with_reducible refine zT (f := 16) rfl ?_); refine goesL_ (some 14) rfl rfl Try.func16 (by kernel_rfl) rfl #[.agg #[.int .i64 a0_0, .int .i64 a0_1]] rfl (by (try simp only [List.map_toArray, List.map_cons, List.map_nil]); first | done | rfl | (simp only [List.length_drop, List.length_take]; rfl)) ?_; (with_reducible refine (impl_DecOk.calls a0_0 a0_1 true _ A8.out).mono ?_); rintro e w33 ⟨rfl, hb⟩; refine ⟨_, rfl, ?_⟩; have n0_ := zA (zP (g := gb631) (o := .cells #[.int .i64 a0_0, .int .i64 a0_1] 26 (0, 0)) (by (with_reducible repeat (first | refine zB ?_ _ | refine zD ?_ | refine zC ?_ _)); exact BK631.out) hb); have n1_ := zA (zP (g := gb632) (o := .cells #[.int .i64 a1_0, .int .i64 a1_1] 26 (0, 0)) (by (with_reducible repeat (first | refine zB ?_ _ | refine zD ?_ | refine zC ?_ _)); exact BK632.out) hb); have n2_ := zA (zP (g := gb633) (o := .cells #[.int .i64 0, .int .i64 0] 26 (0, 0)) (by (with_reducible repeat (first | refine zB ?_ _ | refine zD ?_ | refine zC ?_ _)); exact BK633.out) hb); have n3_ := zA (zQ (by repeat (first | (with_reducible first | exact HB.out | apply zG | apply zE | apply zF | refine zH ?_ GE631.out | refine zH ?_ GE632.out | refine zH ?_ GE633.out) | exact HB.out)) hb); clear BK631; clear BK632; clear BK633; clear HB; have BK631 := n0_; have BK632 := n1_; have BK633 := n2_; have HB := n3_; clear n0_ n1_ n2_ n3_; (try clear hb); (try clear hb2); (try clear hk); (try clear hi); have hnb34 := NB632_633.out; have hnc34 := NB633_632.out; have hcz35_0 : w33.cell? ⟨gb632, 0, none⟩ = some (.int .i64 a1_0) := (zJ BK632.out 0).trans rfl; have hcz35_1 : w33.cell? ⟨gb632, 1, none⟩ = some (.int .i64 a1_1) := (zJ BK632.out 1).trans rfl; have hfz35_0 := zK BK632.out 0; have hfz35_1 := zK BK632.out 1) | (go_at_call 16; (with_reducible refine (impl_DecOk.calls a1_0 a1_1 true _ A10.out).mono ?_); rintro e w36 ⟨rfl, hb⟩; have n0_ := zA (zP (g := gb631) (o := .cells #[.int .i64 a0_0, .int .i64 a0_1] 26 (0, 0)) (by (with_reducible repeat (first | refine zB ?_ _ | refine zD ?_ | refine zC ?_ _)); exact BK631.out) hb); have n1_ := zA (zP (g := gb632) (o := .cells #[.int .i64 a1_0, .int .i64 a1_1] 26 (0, 0)) (by (with_reducible repeat (first | refine zB ?_ _ | refine zD ?_ | refine zC ?_ _)); exact BK632.out) hb); have n2_ := zA (zP (g := gb633) (o := .cells #[.int .i64 0, .int .i64 0] 26 (0, 0)) (by (with_reducible repeat (first | refine zB ?_ _ | refine zD ?_ | refine zC ?_ _)); exact BK633.out) hb); have n3_ := zA (zQ (by repeat (first | (with_reducible first | exact HB.out | apply zG | apply zE | apply zF | refine zH ?_ GE631.out | refine zH ?_ GE632.out | refine zH ?_ GE633.out) | exact HB.out)) hb); clear BK631; clear BK632; clear BK633; clear HB; have BK631 := n0_; have BK632 := n1_; have BK633 := n2_; have HB := n3_; clear n0_ n1_ n2_ n3_; (try clear hb); (try clear hb2); (try clear hk); (try clear hi); have hcz37_0 : w36.cell? ⟨gb632, 0, none⟩ = some (.int .i64 a1_0) := (zJ BK632.out 0).trans rfl; have hcz37_1 : w36.cell? ⟨gb632, 1, none⟩ = some (.int .i64 a1_1) := (zJ BK632.out 1).trans rfl; have hfz37_0 := zK BK632.out 0; have hfz37_1 := zK BK632.out 1))
      go_meet
      case rel => exact ⟨_, (decide (a2 > 8)), (by first | rfl | (simp; done) | (simp [*]; done)), H', ⟨by first | omega | exact Nat.le_refl _⟩, ⟨by (with_reducible repeat (first | refine zB ?_ _ | refine zD ?_ | refine zC ?_ _)); exact BK631.out⟩, ⟨by (with_reducible repeat (first | refine zB ?_ _ | refine zD ?_ | refine zC ?_ _)); exact BK632.out⟩, ⟨by (with_reducible repeat (first | refine zB ?_ _ | refine zD ?_ | refine zC ?_ _)); exact BK633.out⟩, ⟨by repeat (first | (with_reducible first | exact HB.out | apply zG | apply zE | apply zF | refine zH ?_ GE631.out | refine zH ?_ GE632.out | refine zH ?_ GE633.out) | exact HB.out)⟩⟩
   ·replace c11 := Bool.eq_false_iff.mpr c11
    subst c11
    have H1 : (impl_DecDiv.j0 k a2 true a0_0 a0_1 a1_0 a1_1) = some (r1, r2, r3) := by rw [if_neg (show ¬ (false = true) by decide)] at H; exact H
    clear H
    have H := H1
    clear H1
    have H' := zA H
    clear H
    have hnb38 := NB631_632.out
    have hnc38 := NB632_631.out
    have hnb39 := NB631_633.out
    have hnc39 := NB633_631.out
    have hcz40_0 : w7.cell? ⟨gb631, 0, none⟩ = some (.int .i64 a0_0) := (zJ BK631.out 0).trans rfl
    have hcz40_1 : w7.cell? ⟨gb631, 1, none⟩ = some (.int .i64 a0_1) := (zJ BK631.out 1).trans rfl
    have hfz40_0 := zK BK631.out 0
    have hfz40_1 := zK BK631.out 1
    go_wp2_with (first | ((with_reducible refine zT (f := 16) rfl ?_); refine goesL_ (some 14) rfl rfl Try.func16 (by kernel_rfl) rfl #[.agg #[.int .i64 a0_0, .int .i64 a0_1]] rfl (by (try simp only [List.map_toArray, List.map_cons, List.map_nil]); first | done | rfl | (simp only [List.length_drop, List.length_take]; rfl)) ?_; (with_reducible refine (impl_DecOk.calls a0_0 a0_1 true _ A8.out).mono ?_); rintro e w41 ⟨rfl, hb⟩; refine ⟨_, rfl, ?_⟩; have n0_ := zA (zP (g := gb631) (o := .cells #[.int .i64 a0_0, .int .i64 a0_1] 26 (0, 0)) (by (with_reducible repeat (first | refine zB ?_ _ | refine zD ?_ | refine zC ?_ _)); exact BK631.out) hb); have n1_ := zA (zP (g := gb632) (o := .cells #[.int .i64 a1_0, .int .i64 a1_1] 26 (0, 0)) (by (with_reducible repeat (first | refine zB ?_ _ | refine zD ?_ | refine zC ?_ _)); exact BK632.out) hb); have n2_ := zA (zP (g := gb633) (o := .cells #[.int .i64 0, .int .i64 0] 26 (0, 0)) (by (with_reducible repeat (first | refine zB ?_ _ | refine zD ?_ | refine zC ?_ _)); exact BK633.out) hb); have n3_ := zA (zQ (by repeat (first | (with_reducible first | exact HB.out | apply zG | apply zE | apply zF | refine zH ?_ GE631.out | refine zH ?_ GE632.out | refine zH ?_ GE633.out) | exact HB.out)) hb); clear BK631; clear BK632; clear BK633; clear HB; have BK631 := n0_; have BK632 := n1_; have BK633 := n2_; have HB := n3_; clear n0_ n1_ n2_ n3_; (try clear hb); (try clear hb2); (try clear hk); (try clear hi); have hnb42 := NB632_633.out; have hnc42 := NB633_632.out; have hcz43_0 : w41.cell? ⟨gb632, 0, none⟩ = some (.int .i64 a1_0) := (zJ BK632.out 0).trans rfl; have hcz43_1 : w41.cell? ⟨gb632, 1, none⟩ = some (.int .i64 a1_1) := (zJ BK632.out 1).trans rfl; have hfz43_0 := zK BK632.out 0; have hfz43_1 := zK BK632.out 1) | (go_at_call 16; (with_reducible refine (impl_DecOk.calls a1_0 a1_1 false _ A10.out).mono ?_); rintro e w44 ⟨rfl, hb⟩; have n0_ := zA (zP (g := gb631) (o := .cells #[.int .i64 a0_0, .int .i64 a0_1] 26 (0, 0)) (by (with_reducible repeat (first | refine zB ?_ _ | refine zD ?_ | refine zC ?_ _)); exact BK631.out) hb); have n1_ := zA (zP (g := gb632) (o := .cells #[.int .i64 a1_0, .int .i64 a1_1] 26 (0, 0)) (by (with_reducible repeat (first | refine zB ?_ _ | refine zD ?_ | refine zC ?_ _)); exact BK632.out) hb); have n2_ := zA (zP (g := gb633) (o := .cells #[.int .i64 0, .int .i64 0] 26 (0, 0)) (by (with_reducible repeat (first | refine zB ?_ _ | refine zD ?_ | refine zC ?_ _)); exact BK633.out) hb); have n3_ := zA (zQ (by repeat (first | (with_reducible first | exact HB.out | apply zG | apply zE | apply zF | refine zH ?_ GE631.out | refine zH ?_ GE632.out | refine zH ?_ GE633.out) | exact HB.out)) hb); clear BK631; clear BK632; clear BK633; clear HB; have BK631 := n0_; have BK632 := n1_; have BK633 := n2_; have HB := n3_; clear n0_ n1_ n2_ n3_; (try clear hb); (try clear hb2); (try clear hk); (try clear hi)))
    go_meet
    case rel => exact ⟨_, (true), (by first | rfl | (simp; done) | (simp [*]; done)), H', ⟨by first | omega | exact Nat.le_refl _⟩, ⟨by (with_reducible repeat (first | refine zB ?_ _ | refine zD ?_ | refine zC ?_ _)); exact BK631.out⟩, ⟨by (with_reducible repeat (first | refine zB ?_ _ | refine zD ?_ | refine zC ?_ _)); exact BK632.out⟩, ⟨by (with_reducible repeat (first | refine zB ?_ _ | refine zD ?_ | refine zC ?_ _)); exact BK633.out⟩, ⟨by repeat (first | (with_reducible first | exact HB.out | apply zG | apply zE | apply zF | refine zH ?_ GE631.out | refine zH ?_ GE632.out | refine zH ?_ GE633.out) | exact HB.out)⟩⟩
  ·replace c9 := Bool.eq_false_iff.mpr c9
   subst c9
   have H1 : (impl_DecDiv.j0 k a2 true a0_0 a0_1 a1_0 a1_1) = some (r1, r2, r3) := by rw [if_neg (show ¬ (false = true) by decide)] at H; exact H
   clear H
   have H := H1
   clear H1
   have H' := zA H
   clear H
   have hnb45 := NB631_632.out
   have hnc45 := NB632_631.out
   have hnb46 := NB631_633.out
   have hnc46 := NB633_631.out
   have hcz47_0 : w7.cell? ⟨gb631, 0, none⟩ = some (.int .i64 a0_0) := (zJ BK631.out 0).trans rfl
   have hcz47_1 : w7.cell? ⟨gb631, 1, none⟩ = some (.int .i64 a0_1) := (zJ BK631.out 1).trans rfl
   have hfz47_0 := zK BK631.out 0
   have hfz47_1 := zK BK631.out 1
   go_wp2_with (first | ((with_reducible refine zT (f := 16) rfl ?_); refine goesL_ (some 14) rfl rfl Try.func16 (by kernel_rfl) rfl #[.agg #[.int .i64 a0_0, .int .i64 a0_1]] rfl (by (try simp only [List.map_toArray, List.map_cons, List.map_nil]); first | done | rfl | (simp only [List.length_drop, List.length_take]; rfl)) ?_; (with_reducible refine (impl_DecOk.calls a0_0 a0_1 false _ A8.out).mono ?_); rintro e w48 ⟨rfl, hb⟩; refine ⟨_, rfl, ?_⟩; have n0_ := zA (zP (g := gb631) (o := .cells #[.int .i64 a0_0, .int .i64 a0_1] 26 (0, 0)) (by (with_reducible repeat (first | refine zB ?_ _ | refine zD ?_ | refine zC ?_ _)); exact BK631.out) hb); have n1_ := zA (zP (g := gb632) (o := .cells #[.int .i64 a1_0, .int .i64 a1_1] 26 (0, 0)) (by (with_reducible repeat (first | refine zB ?_ _ | refine zD ?_ | refine zC ?_ _)); exact BK632.out) hb); have n2_ := zA (zP (g := gb633) (o := .cells #[.int .i64 0, .int .i64 0] 26 (0, 0)) (by (with_reducible repeat (first | refine zB ?_ _ | refine zD ?_ | refine zC ?_ _)); exact BK633.out) hb); have n3_ := zA (zQ (by repeat (first | (with_reducible first | exact HB.out | apply zG | apply zE | apply zF | refine zH ?_ GE631.out | refine zH ?_ GE632.out | refine zH ?_ GE633.out) | exact HB.out)) hb); clear BK631; clear BK632; clear BK633; clear HB; have BK631 := n0_; have BK632 := n1_; have BK633 := n2_; have HB := n3_; clear n0_ n1_ n2_ n3_; (try clear hb); (try clear hb2); (try clear hk); (try clear hi)))
   go_meet
   case rel => exact ⟨_, (true), (by first | rfl | (simp; done) | (simp [*]; done)), H', ⟨by first | omega | exact Nat.le_refl _⟩, ⟨by (with_reducible repeat (first | refine zB ?_ _ | refine zD ?_ | refine zC ?_ _)); exact BK631.out⟩, ⟨by (with_reducible repeat (first | refine zB ?_ _ | refine zD ?_ | refine zC ?_ _)); exact BK632.out⟩, ⟨by (with_reducible repeat (first | refine zB ?_ _ | refine zD ?_ | refine zC ?_ _)); exact BK633.out⟩, ⟨by repeat (first | (with_reducible first | exact HB.out | apply zG | apply zE | apply zF | refine zH ?_ GE631.out | refine zH ?_ GE632.out | refine zH ?_ GE633.out) | exact HB.out)⟩⟩
 case rest =>
  clear HC4
  try clear c1
  try clear c2
  try clear p2
  try clear c3
  try clear c4
  try clear c9
  try clear c11
  try clear c12
  try clear c12b0
  try clear c12b1
  try clear c13
  try clear c14
  try clear c16
  try clear c17
  try clear c21
  try clear c21b0
  try clear c22
  try clear c23
  try clear c26
  try clear c30
  try clear c31
  try clear c34
  try clear c37
  try clear c38
  try clear c39
  try clear c42
  try clear c45
  try clear c46
  try clear hcz15_0
  try clear hcz15_1
  try clear hcz18_0
  try clear hcz18_1
  try clear hcz20_0
  try clear hcz20_1
  try clear hcz24_0
  try clear hcz24_1
  try clear hcz27_0
  try clear hcz27_1
  try clear hcz29_0
  try clear hcz29_1
  try clear hcz32_0
  try clear hcz32_1
  try clear hcz35_0
  try clear hcz35_1
  try clear hcz37_0
  try clear hcz37_1
  try clear hcz40_0
  try clear hcz40_1
  try clear hcz43_0
  try clear hcz43_1
  try clear hcz47_0
  try clear hcz47_1
  try clear hfz15_0
  try clear hfz15_1
  try clear hfz18_0
  try clear hfz18_1
  try clear hfz20_0
  try clear hfz20_1
  try clear hfz24_0
  try clear hfz24_1
  try clear hfz27_0
  try clear hfz27_1
  try clear hfz29_0
  try clear hfz29_1
  try clear hfz32_0
  try clear hfz32_1
  try clear hfz35_0
  try clear hfz35_1
  try clear hfz37_0
  try clear hfz37_1
  try clear hfz40_0
  try clear hfz40_1
  try clear hfz43_0
  try clear hfz43_1
  try clear hfz47_0
  try clear hfz47_1
  obtain ⟨kq, x33_3, rfl, HA, HJ3, BK631, BK632, BK633, HB⟩ := hcut
  cases kq with
  | zero => exact absurd HA.out (by simp [impl_DecDiv.j0])
  | succ kj3 =>
   have H := HA.out
   clear HA
   simp only [impl_DecDiv.j0] at H
   by_cases c49 : x33_3 = true
   ·subst c49
    have H1 : (some (0, 0, false)) = some (r1, r2, r3) := by rw [if_pos rfl] at H; exact H
    clear H
    have H := H1
    clear H1
    simp only [Option.some.injEq, Prod.mk.injEq] at H
    obtain ⟨rfl, rfl, rfl⟩ := H
    have hnb50 := NB633_631.out
    have hnc50 := NB631_633.out
    have hnb51 := NB633_632.out
    have hnc51 := NB632_633.out
    have hcz52_0 : wc.cell? ⟨gb633, 0, none⟩ = some (.int .i64 0) := (zJ BK633.out 0).trans rfl
    have hcz52_1 : wc.cell? ⟨gb633, 1, none⟩ = some (.int .i64 0) := (zJ BK633.out 1).trans rfl
    have hfz52_0 := zK BK633.out 0
    have hfz52_1 := zK BK633.out 1
    go_wp2
    refine bodyPost_ret (results_ct rfl _ _ gb633 26 #[.int .i64 0, .int .i64 0] (0, 0) _ rfl (by (with_reducible repeat (first | refine zB ?_ _ | refine zD ?_ | refine zC ?_ _)); refine blk_put (cs := #[.int .i64 0, .int .i64 0]) ?_ 1 _ rfl; (with_reducible repeat (first | refine zB ?_ _ | refine zD ?_ | refine zC ?_ _)); refine blk_put (cs := #[.int .i64 0, .int .i64 0]) ?_ 0 _ rfl; (with_reducible repeat (first | refine zB ?_ _ | refine zD ?_ | refine zC ?_ _)); exact BK633.out) Try.underlying26 rfl (by kernel_rfl)) rfl ?_
    exact ⟨by first | rfl | (simp [errW_none, errW_some] <;> rfl) | (simp [*, errW_none, errW_some] <;> rfl), by repeat (first | (with_reducible first | exact HB.out | apply zG | apply zE | apply zF | refine zH ?_ GE631.out | refine zH ?_ GE632.out | refine zH ?_ GE633.out) | exact HB.out)⟩
   ·replace c49 := Bool.eq_false_iff.mpr c49
    subst c49
    have H1 : ((impl_size.f a0_0).bind fun t636 => ((impl_size.f a1_0).bind fun t637 => (impl_DecDiv.l0 kj3 a2 t636 t637 (wrap64 ((wrap64 (a0_1 - a1_1)) + a2)) a0_0 a0_1 a1_0 a1_1))) = some (r1, r2, r3) := by rw [if_neg (show ¬ (false = true) by decide)] at H; exact H
    clear H
    have H := H1
    clear H1
    replace H := Option.bind_eq_some_iff.mp H
    obtain ⟨t636, A530, H⟩ := H
    replace H : ((impl_size.f a1_0).bind fun t637 => (impl_DecDiv.l0 kj3 a2 t636 t637 (wrap64 ((wrap64 (a0_1 - a1_1)) + a2)) a0_0 a0_1 a1_0 a1_1)) = some (r1, r2, r3) := H
    have A53 := zA A530
    clear A530
    replace H := Option.bind_eq_some_iff.mp H
    obtain ⟨t637, A540, H⟩ := H
    replace H : (impl_DecDiv.l0 kj3 a2 t636 t637 (wrap64 ((wrap64 (a0_1 - a1_1)) + a2)) a0_0 a0_1 a1_0 a1_1) = some (r1, r2, r3) := H
    have A54 := zA A540
    clear A540
    have H' := zA H
    clear H
    try go_wp2
    have n0_ := zA (zD BK631.out)
    have n1_ := zA (zD BK632.out)
    have n2_ := zA (zD BK633.out)
    have n3_ := zA (zF HB.out)
    clear BK631
    clear BK632
    clear BK633
    clear HB
    have BK631 := n0_
    have BK632 := n1_
    have BK633 := n2_
    have HB := n3_
    clear n0_ n1_ n2_ n3_
    refine start_ (n := 8) (S := fun w' => w'.cell? ⟨gb631, 0, none⟩ = some (.int .i64 a0_0) ∧ w'.cell? ⟨gb631, 1, none⟩ = some (.int .i64 a0_1) ∧ w'.cell? ⟨gb632, 0, none⟩ = some (.int .i64 a1_0) ∧ w'.cell? ⟨gb632, 1, none⟩ = some (.int .i64 a1_1)) (ds := []) #[false, false, false, false, false, false, false, false] (by kernel_rfl) rfl rfl ⟨(zJ BK631.out 0).trans rfl, (zJ BK631.out 1).trans rfl, (zJ BK632.out 0).trans rfl, (zJ BK632.out 1).trans rfl⟩ (fun hHeld => ?_); refine with_tabW impl_DecDiv.tab3 impl_DecDiv.bits3 (fun HT_ HW_ => ?_)
    generalize wc.drew = w55 at BK631 BK632 BK633 HB hHeld ⊢
    refine pure_ (i := 0) (N := some 35) (v := ?_) (a' := ?_) #[true, false, false, false, false, false, false, false] rfl rfl (any_of HT_.out (by kernel_rfl)) (fun _ _ _ h => h) (Or.inl ⟨by rfl, ?_⟩) ?_ ?_
    rotate_left
    ·intro w'
     go_simp
     with_reducible rfl
    rotate_left
    ·simp only [Act.put, zL, zM, zN, i64_w, i32_w]
     rfl
    refine pure_ (i := 3) (N := some 38) (v := ?_) (a' := ?_) #[true, false, false, true, false, false, false, false] rfl rfl (any_of HT_.out (by kernel_rfl)) (fun _ _ _ h => h) (Or.inl ⟨by rfl, ?_⟩) ?_ ?_
    rotate_left
    ·intro w'
     go_simp
     with_reducible rfl
    rotate_left
    ·simp only [Act.put, zL, zM, zN, i64_w, i32_w]
     rfl
    refine take_ (i := 1) (N := some 36) (v := ?_) (a' := ?_) #[true, true, false, true, false, false, false, false] rfl rfl (take_ofW HT_.out HW_.out (by kernel_rfl)) (fun _ _ _ h => h) (Or.inl ⟨by rfl, ?_⟩) hHeld ?_ ?_
    rotate_left
    ·rintro w' ⟨s0, s1, s2, s3⟩
     go_simp
     with_reducible rfl
    rotate_left
    ·simp only [Act.put, zL, zM, zN, i64_w, i32_w]
     rfl
    refine take_ (i := 4) (N := some 39) (v := ?_) (a' := ?_) #[true, true, false, true, true, false, false, false] rfl rfl (take_ofW HT_.out HW_.out (by kernel_rfl)) (fun _ _ _ h => h) (Or.inl ⟨by rfl, ?_⟩) hHeld ?_ ?_
    rotate_left
    ·rintro w' ⟨s0, s1, s2, s3⟩
     go_simp
     with_reducible rfl
    rotate_left
    ·simp only [Act.put, zL, zM, zN, i64_w, i32_w]
     rfl
    refine one_ (i := 2) (N := some 37) #[true, true, true, true, true, false, false, false] rfl rfl (one_of HT_.out (by kernel_rfl)) (by decide) (fun K hK => ?_)
    refine goes_ Try.func63 (by kernel_rfl) rfl #[.int .i64 a0_0] (by rfl) rfl rfl (by (try simp only [List.map_toArray, List.map_cons, List.map_nil]); first | done | rfl | (simp only [List.length_drop, List.length_take]; rfl)) ?_
    with_reducible refine (impl_size.calls a0_0 t636 _ A53.out).mono ?_
    rintro e w56 ⟨rfl, hb⟩
    refine ⟨_, rfl, ?_⟩
    have n0_ := zA (zP (g := gb631) (o := .cells #[.int .i64 a0_0, .int .i64 a0_1] 26 (0, 0)) (by (with_reducible repeat (first | refine zB ?_ _ | refine zD ?_ | refine zC ?_ _)); exact BK631.out) hb)
    have n1_ := zA (zP (g := gb632) (o := .cells #[.int .i64 a1_0, .int .i64 a1_1] 26 (0, 0)) (by (with_reducible repeat (first | refine zB ?_ _ | refine zD ?_ | refine zC ?_ _)); exact BK632.out) hb)
    have n2_ := zA (zP (g := gb633) (o := .cells #[.int .i64 0, .int .i64 0] 26 (0, 0)) (by (with_reducible repeat (first | refine zB ?_ _ | refine zD ?_ | refine zC ?_ _)); exact BK633.out) hb)
    have n3_ := zA (zQ (by repeat (first | (with_reducible first | exact HB.out | apply zG | apply zE | apply zF | refine zH ?_ GE631.out | refine zH ?_ GE632.out | refine zH ?_ GE633.out) | exact HB.out)) hb)
    clear BK631
    clear BK632
    clear BK633
    clear HB
    have BK631 := n0_
    have BK632 := n1_
    have BK633 := n2_
    have HB := n3_
    clear n0_ n1_ n2_ n3_
    (try clear hb)
    (try clear hb2)
    (try clear hk)
    (try clear hi)
    refine hK.out _ _ ⟨(zJ BK631.out 0).trans rfl, (zJ BK631.out 1).trans rfl, (zJ BK632.out 0).trans rfl, (zJ BK632.out 1).trans rfl⟩ (fun hHeld => ?_)
    clear hK K
    refine norm_ (a' := ?_) ?_ ?_
    rotate_left
    ·show Act.put _ (some 37) _ = _
     simp only [Act.put, zL, zM, zN, i64_w, i32_w]
     rfl
    refine one_ (i := 5) (N := some 40) #[true, true, true, true, true, true, false, false] rfl rfl (one_of HT_.out (by kernel_rfl)) (by decide) (fun K hK => ?_)
    refine goes_ Try.func63 (by kernel_rfl) rfl #[.int .i64 a1_0] (by rfl) rfl rfl (by (try simp only [List.map_toArray, List.map_cons, List.map_nil]); first | done | rfl | (simp only [List.length_drop, List.length_take]; rfl)) ?_
    with_reducible refine (impl_size.calls a1_0 t637 _ A54.out).mono ?_
    rintro e w57 ⟨rfl, hb⟩
    refine ⟨_, rfl, ?_⟩
    have n0_ := zA (zP (g := gb631) (o := .cells #[.int .i64 a0_0, .int .i64 a0_1] 26 (0, 0)) (by (with_reducible repeat (first | refine zB ?_ _ | refine zD ?_ | refine zC ?_ _)); exact BK631.out) hb)
    have n1_ := zA (zP (g := gb632) (o := .cells #[.int .i64 a1_0, .int .i64 a1_1] 26 (0, 0)) (by (with_reducible repeat (first | refine zB ?_ _ | refine zD ?_ | refine zC ?_ _)); exact BK632.out) hb)
    have n2_ := zA (zP (g := gb633) (o := .cells #[.int .i64 0, .int .i64 0] 26 (0, 0)) (by (with_reducible repeat (first | refine zB ?_ _ | refine zD ?_ | refine zC ?_ _)); exact BK633.out) hb)
    have n3_ := zA (zQ (by repeat (first | (with_reducible first | exact HB.out | apply zG | apply zE | apply zF | refine zH ?_ GE631.out | refine zH ?_ GE632.out | refine zH ?_ GE633.out) | exact HB.out)) hb)
    clear BK631
    clear BK632
    clear BK633
    clear HB
    have BK631 := n0_
    have BK632 := n1_
    have BK633 := n2_
    have HB := n3_
    clear n0_ n1_ n2_ n3_
    (try clear hb)
    (try clear hb2)
    (try clear hk)
    (try clear hi)
    refine hK.out _ _ ⟨(zJ BK631.out 0).trans rfl, (zJ BK631.out 1).trans rfl, (zJ BK632.out 0).trans rfl, (zJ BK632.out 1).trans rfl⟩ (fun hHeld => ?_)
    clear hK K
    refine norm_ (a' := ?_) ?_ ?_
    rotate_left
    ·show Act.put _ (some 40) _ = _
     simp only [Act.put, zL, zM, zN, i64_w, i32_w]
     rfl
    refine pure_ (i := 6) (N := some 8) (v := ?_) (a' := ?_) #[true, true, true, true, true, true, true, false] rfl rfl (any_of HT_.out (by kernel_rfl)) (fun _ _ _ h => h) (Or.inl ⟨by rfl, ?_⟩) ?_ ?_
    rotate_left
    ·intro w'
     go_simp
     with_reducible rfl
    rotate_left
    ·simp only [Act.put, zL, zM, zN, i64_w, i32_w]
     rfl
    refine pure_ (i := 7) (N := some 9) (v := ?_) (a' := ?_) #[true, true, true, true, true, true, true, true] rfl rfl (any_of HT_.out (by kernel_rfl)) (fun _ _ _ h => h) (Or.inl ⟨by rfl, ?_⟩) ?_ ?_
    rotate_left
    ·intro w'
     go_simp
     with_reducible rfl
    rotate_left
    ·simp only [Act.put, zL, zM, zN, i64_w, i32_w]
     rfl
    refine done_ (done_of HT_.out (by kernel_rfl)) ?_
    have hnb58 := NB631_632.out
    have hnc58 := NB632_631.out
    have hnb59 := NB631_633.out
    have hnc59 := NB633_631.out
    have hcz60_0 : w57.cell? ⟨gb631, 0, none⟩ = some (.int .i64 a0_0) := (zJ BK631.out 0).trans rfl
    have hcz60_1 : w57.cell? ⟨gb631, 1, none⟩ = some (.int .i64 a0_1) := (zJ BK631.out 1).trans rfl
    have hfz60_0 := zK BK631.out 0
    have hfz60_1 := zK BK631.out 1
    have hnb61 := NB632_633.out
    have hnc61 := NB633_632.out
    have hcz62_0 : w57.cell? ⟨gb632, 0, none⟩ = some (.int .i64 a1_0) := (zJ BK632.out 0).trans rfl
    have hcz62_1 : w57.cell? ⟨gb632, 1, none⟩ = some (.int .i64 a1_1) := (zJ BK632.out 1).trans rfl
    have hfz62_0 := zK BK632.out 0
    have hfz62_1 := zK BK632.out 1
    try go_wp2
    go_loopg [8, 9, 10] kj3 (fun kq v8 v9 v10 w' => ∃ (x8_2 : Int) (x9_2 : Int) (x10_2 : Int), v8 = .int .i64 x8_2 ∧ v9 = .int .i64 x9_2 ∧ v10 = .int .i64 x10_2 ∧ Aside0 (impl_DecDiv.l0 kq a2 x8_2 x9_2 x10_2 a0_0 a0_1 a1_0 a1_1 = some (r1, r2, r3)) ∧ Aside0 (kq ≤ kj3) ∧ Aside0 (w'.heap[gb631]? = some (.cells #[.int .i64 a0_0, .int .i64 a0_1] 26 (0, 0))) ∧ Aside0 (w'.heap[gb632]? = some (.cells #[.int .i64 a1_0, .int .i64 a1_1] 26 (0, 0))) ∧ Aside0 (w'.heap[gb633]? = some (.cells #[.int .i64 0, .int .i64 0] 26 (0, 0))) ∧ Aside0 (Below w.heap.size w w'))
    case atStart => exact ⟨(t636), (t637), (wrap64 ((wrap64 (a0_1 - a1_1)) + a2)), (by first | rfl | (simp; done) | (simp [*]; done)), (by first | rfl | (simp; done) | (simp [*]; done)), (by first | rfl | (simp; done) | (simp [*]; done)), H', ⟨Nat.le_refl _⟩, ⟨by (with_reducible repeat (first | refine zB ?_ _ | refine zD ?_ | refine zC ?_ _)); exact BK631.out⟩, ⟨by (with_reducible repeat (first | refine zB ?_ _ | refine zD ?_ | refine zC ?_ _)); exact BK632.out⟩, ⟨by (with_reducible repeat (first | refine zB ?_ _ | refine zD ?_ | refine zC ?_ _)); exact BK633.out⟩, ⟨by repeat (first | (with_reducible first | exact HB.out | apply zG | apply zE | apply zF | refine zH ?_ GE631.out | refine zH ?_ GE632.out | refine zH ?_ GE633.out) | exact HB.out)⟩⟩
    case round =>
     clear H'
     try clear c1
     try clear c2
     try clear p2
     try clear c3
     try clear c4
     try clear c5
     try clear c6
     try clear p6
     try clear c9
     try clear c11
     try clear c12
     try clear c12b0
     try clear c12b1
     try clear c13
     try clear c14
     try clear c16
     try clear c17
     try clear c21
     try clear c21b0
     try clear c22
     try clear c23
     try clear c26
     try clear c30
     try clear c31
     try clear c34
     try clear c37
     try clear c38
     try clear c39
     try clear c42
     try clear c45
     try clear c46
     try clear c49
     try clear c50
     try clear c51
     try clear c58
     try clear c59
     try clear c61
     try clear hcz15_0
     try clear hcz15_1
     try clear hcz18_0
     try clear hcz18_1
     try clear hcz20_0
     try clear hcz20_1
     try clear hcz24_0
     try clear hcz24_1
     try clear hcz27_0
     try clear hcz27_1
     try clear hcz29_0
     try clear hcz29_1
     try clear hcz32_0
     try clear hcz32_1
     try clear hcz35_0
     try clear hcz35_1
     try clear hcz37_0
     try clear hcz37_1
     try clear hcz40_0
     try clear hcz40_1
     try clear hcz43_0
     try clear hcz43_1
     try clear hcz47_0
     try clear hcz47_1
     try clear hcz52_0
     try clear hcz52_1
     try clear hcz60_0
     try clear hcz60_1
     try clear hcz62_0
     try clear hcz62_1
     try clear hfz15_0
     try clear hfz15_1
     try clear hfz18_0
     try clear hfz18_1
     try clear hfz20_0
     try clear hfz20_1
     try clear hfz24_0
     try clear hfz24_1
     try clear hfz27_0
     try clear hfz27_1
     try clear hfz29_0
     try clear hfz29_1
     try clear hfz32_0
     try clear hfz32_1
     try clear hfz35_0
     try clear hfz35_1
     try clear hfz37_0
     try clear hfz37_1
     try clear hfz40_0
     try clear hfz40_1
     try clear hfz43_0
     try clear hfz43_1
     try clear hfz47_0
     try clear hfz47_1
     try clear hfz52_0
     try clear hfz52_1
     try clear hfz60_0
     try clear hfz60_1
     try clear hfz62_0
     try clear hfz62_1
     try clear p2
     obtain ⟨x8_2, x9_2, x10_2, rfl, rfl, rfl, HA, HK2, BK631, BK632, BK633, HB⟩ := hrel
     cases gk with
     | zero => exact absurd HA.out (by simp [impl_DecDiv.l0])
     | succ k2 =>
      have H := HA.out
      clear HA
      simp only [impl_DecDiv.l0] at H
      have HC63 := zA H
      clear H
      go_upto_region 5 with (fail)
      go_cut [53] (fun v53 wc => ∃ (kq : Nat) (x53_62 : Bool), v53 = .bool x53_62 ∧ Aside0 (impl_DecDiv.j2 kq a2 x8_2 x9_2 x10_2 x53_62 a0_0 a0_1 a1_0 a1_1 = some (r1, r2, r3)) ∧ Aside0 (kq ≤ k2) ∧ Aside0 (wc.heap[gb631]? = some (.cells #[.int .i64 a0_0, .int .i64 a0_1] 26 (0, 0))) ∧ Aside0 (wc.heap[gb632]? = some (.cells #[.int .i64 a1_0, .int .i64 a1_1] 26 (0, 0))) ∧ Aside0 (wc.heap[gb633]? = some (.cells #[.int .i64 0, .int .i64 0] 26 (0, 0))) ∧ Aside0 (Below w.heap.size w wc))
      case first =>
       have H := HC63.out
       clear HC63
       by_cases c64 : x10_2 < 0
       ·rw [if_pos c64] at H
        have c64b0 : decide (x10_2 < 0) = true := decide_eq_true c64
        clear c64
        (first | rw [c64b0] | (simp only [i64_w, i32_w]; rw [c64b0]) | skip)
        have H' := zA H
        clear H
        go_wp2
        go_meet
        case rel => exact ⟨_, (decide (x8_2 > 0)), (by first | rfl | (simp; done) | (simp [*]; done)), H', ⟨by have := HJ3.out; have := HK2.out; first | omega | exact Nat.le_refl _⟩, ⟨by (with_reducible repeat (first | refine zB ?_ _ | refine zD ?_ | refine zC ?_ _)); exact BK631.out⟩, ⟨by (with_reducible repeat (first | refine zB ?_ _ | refine zD ?_ | refine zC ?_ _)); exact BK632.out⟩, ⟨by (with_reducible repeat (first | refine zB ?_ _ | refine zD ?_ | refine zC ?_ _)); exact BK633.out⟩, ⟨by repeat (first | (with_reducible first | exact HB.out | apply zG | apply zE | apply zF | refine zH ?_ GE631.out | refine zH ?_ GE632.out | refine zH ?_ GE633.out) | exact HB.out)⟩⟩
       ·rw [if_neg c64] at H
        have c64b0 : decide (x10_2 < 0) = false := decide_eq_false c64
        clear c64
        (first | rw [c64b0] | (simp only [i64_w, i32_w]; rw [c64b0]) | skip)
        have H' := zA H
        clear H
        go_wp2
        go_meet
        case rel => exact ⟨_, (false), (by first | rfl | (simp; done) | (simp [*]; done)), H', ⟨by have := HJ3.out; have := HK2.out; first | omega | exact Nat.le_refl _⟩, ⟨by (with_reducible repeat (first | refine zB ?_ _ | refine zD ?_ | refine zC ?_ _)); exact BK631.out⟩, ⟨by (with_reducible repeat (first | refine zB ?_ _ | refine zD ?_ | refine zC ?_ _)); exact BK632.out⟩, ⟨by (with_reducible repeat (first | refine zB ?_ _ | refine zD ?_ | refine zC ?_ _)); exact BK633.out⟩, ⟨by repeat (first | (with_reducible first | exact HB.out | apply zG | apply zE | apply zF | refine zH ?_ GE631.out | refine zH ?_ GE632.out | refine zH ?_ GE633.out) | exact HB.out)⟩⟩
      case rest =>
       clear HC63
       try clear c1
       try clear c2
       try clear p2
       try clear c3
       try clear c4
       try clear c5
       try clear c6
       try clear p6
       try clear c9
       try clear c11
       try clear c12
       try clear c12b0
       try clear c12b1
       try clear c13
       try clear c14
       try clear c16
       try clear c17
       try clear c21
       try clear c21b0
       try clear c22
       try clear c23
       try clear c26
       try clear c30
       try clear c31
       try clear c34
       try clear c37
       try clear c38
       try clear c39
       try clear c42
       try clear c45
       try clear c46
       try clear c49
       try clear c50
       try clear c51
       try clear c58
       try clear c59
       try clear c61
       try clear c63
       try clear c64
       try clear c64b0
       try clear p64
       try clear hcz15_0
       try clear hcz15_1
       try clear hcz18_0
       try clear hcz18_1
       try clear hcz20_0
       try clear hcz20_1
       try clear hcz24_0
       try clear hcz24_1
       try clear hcz27_0
       try clear hcz27_1
       try clear hcz29_0
       try clear hcz29_1
       try clear hcz32_0
       try clear hcz32_1
       try clear hcz35_0
       try clear hcz35_1
       try clear hcz37_0
       try clear hcz37_1
       try clear hcz40_0
       try clear hcz40_1
       try clear hcz43_0
       try clear hcz43_1
       try clear hcz47_0
       try clear hcz47_1
       try clear hcz52_0
       try clear hcz52_1
       try clear hcz60_0
       try clear hcz60_1
       try clear hcz62_0
       try clear hcz62_1
       try clear hfz15_0
       try clear hfz15_1
       try clear hfz18_0
       try clear hfz18_1
       try clear hfz20_0
       try clear hfz20_1
       try clear hfz24_0
       try clear hfz24_1
       try clear hfz27_0
       try clear hfz27_1
       try clear hfz29_0
       try clear hfz29_1
       try clear hfz32_0
       try clear hfz32_1
       try clear hfz35_0
       try clear hfz35_1
       try clear hfz37_0
       try clear hfz37_1
       try clear hfz40_0
       try clear hfz40_1
       try clear hfz43_0
       try clear hfz43_1
       try clear hfz47_0
       try clear hfz47_1
       try clear hfz52_0
       try clear hfz52_1
       try clear hfz60_0
       try clear hfz60_1
       try clear hfz62_0
       try clear hfz62_1
       try clear p2
       try clear p6
       obtain ⟨kq, x53_62, rfl, HA, HJ62, BK631, BK632, BK633, HB⟩ := hcut
       cases kq with
       | zero => exact absurd HA.out (by simp [impl_DecDiv.j2])
       | succ kj62 =>
        have H := HA.out
        clear HA
        simp only [impl_DecDiv.j2] at H
        by_cases c65 : x53_62 = true
        ·subst c65
         have H1 : (if x9_2 > 100000000000000000 then (impl_DecDiv.l0 kj62 a2 0 (wrap64 (x9_2 * 10)) (wrap64 (x10_2 + 1)) a0_0 a0_1 a1_0 a1_1) else (impl_DecDiv.l0 kj62 a2 x8_2 (wrap64 (x9_2 * 10)) (wrap64 (x10_2 + 1)) a0_0 a0_1 a1_0 a1_1)) = some (r1, r2, r3) := by rw [if_pos rfl] at H; exact H
         clear H
         have H := H1
         clear H1
         by_cases c66 : x9_2 > 100000000000000000
         ·rw [if_pos c66] at H
          have c66b0 : decide (100000000000000000 < x9_2) = true := decide_eq_true c66
          clear c66
          have H' := zA H
          clear H
          go_wp2
          go_roundg kj62
          case measure => have := HJ3.out; have := HK2.out; have := HJ62.out; omega
          case rel => exact ⟨(0), (wrap64 (x9_2 * 10)), (wrap64 (x10_2 + 1)), (by first | rfl | (simp; done) | (simp [*]; done)), (by first | rfl | (simp; done) | (simp [*]; done)), (by first | rfl | (simp; done) | (simp [*]; done)), H', ⟨by have := HJ3.out; have := HK2.out; have := HJ62.out; omega⟩, ⟨by (with_reducible repeat (first | refine zB ?_ _ | refine zD ?_ | refine zC ?_ _)); exact BK631.out⟩, ⟨by (with_reducible repeat (first | refine zB ?_ _ | refine zD ?_ | refine zC ?_ _)); exact BK632.out⟩, ⟨by (with_reducible repeat (first | refine zB ?_ _ | refine zD ?_ | refine zC ?_ _)); exact BK633.out⟩, ⟨by repeat (first | (with_reducible first | exact HB.out | apply zG | apply zE | apply zF | refine zH ?_ GE631.out | refine zH ?_ GE632.out | refine zH ?_ GE633.out) | exact HB.out)⟩⟩
         ·rw [if_neg c66] at H
          have c66b0 : decide (100000000000000000 < x9_2) = false := decide_eq_false c66
          clear c66
          have H' := zA H
          clear H
          go_wp2
          go_roundg kj62
          case measure => have := HJ3.out; have := HK2.out; have := HJ62.out; omega
          case rel => exact ⟨(x8_2), (wrap64 (x9_2 * 10)), (wrap64 (x10_2 + 1)), (by first | rfl | (simp; done) | (simp [*]; done)), (by first | rfl | (simp; done) | (simp [*]; done)), (by first | rfl | (simp; done) | (simp [*]; done)), H', ⟨by have := HJ3.out; have := HK2.out; have := HJ62.out; omega⟩, ⟨by (with_reducible repeat (first | refine zB ?_ _ | refine zD ?_ | refine zC ?_ _)); exact BK631.out⟩, ⟨by (with_reducible repeat (first | refine zB ?_ _ | refine zD ?_ | refine zC ?_ _)); exact BK632.out⟩, ⟨by (with_reducible repeat (first | refine zB ?_ _ | refine zD ?_ | refine zC ?_ _)); exact BK633.out⟩, ⟨by repeat (first | (with_reducible first | exact HB.out | apply zG | apply zE | apply zF | refine zH ?_ GE631.out | refine zH ?_ GE632.out | refine zH ?_ GE633.out) | exact HB.out)⟩⟩
        ·replace c65 := Bool.eq_false_iff.mpr c65
         subst c65
         have H1 : (if x9_2 = 0 then (none) else (impl_DecDiv.l1 kj62 a2 x9_2 x10_2 (wrap64 (Int.tdiv x8_2 x9_2)) (Int.tmod x8_2 x9_2) a0_0 a0_1 a1_0 a1_1)) = some (r1, r2, r3) := by rw [if_neg (show ¬ (false = true) by decide)] at H; exact H
         clear H
         have H := H1
         clear H1
         by_cases c67 : x9_2 = 0
         ·rw [if_pos c67] at H
          exact absurd H (by simp)
         ·rw [if_neg c67] at H
          have c67b0 : (x9_2 == 0) = false := beq_eq_false_iff_ne.mpr c67
          have c67b1 : (x9_2 != 0) = true := bne_iff_ne.mpr c67
          have H' := zA H
          clear H
          try go_wp2
          have n0_ := zA (zD BK631.out)
          have n1_ := zA (zD BK632.out)
          have n2_ := zA (zD BK633.out)
          have n3_ := zA (zF HB.out)
          clear BK631
          clear BK632
          clear BK633
          clear HB
          have BK631 := n0_
          have BK632 := n1_
          have BK633 := n2_
          have HB := n3_
          clear n0_ n1_ n2_ n3_
          refine start_ (n := 8) (S := fun w' => True) (ds := []) #[false, false, false, false, false, false, false, false] (by kernel_rfl) rfl rfl trivial (fun hHeld => ?_); refine with_tabW impl_DecDiv.tab10 impl_DecDiv.bits10 (fun HT_ HW_ => ?_)
          generalize wc.drew = w68 at BK631 BK632 BK633 HB hHeld ⊢
          refine pure_ (i := 0) (N := some 60) (v := ?_) (a' := ?_) #[true, false, false, false, false, false, false, false] rfl rfl (any_of HT_.out (by kernel_rfl)) (fun _ _ _ h => h) (Or.inl ⟨by rfl, ?_⟩) ?_ ?_
          rotate_left
          ·intro w'
           go_simp
           with_reducible rfl
          rotate_left
          ·simp only [Act.put, zL, zM, zN, i64_w, i32_w]
           rfl
          refine pure_ (i := 1) (N := some 61) (v := ?_) (a' := ?_) #[true, true, false, false, false, false, false, false] rfl rfl (any_of HT_.out (by kernel_rfl)) (fun _ _ _ h => h) (Or.inl ⟨by rfl, ?_⟩) ?_ ?_
          rotate_left
          ·intro w'
           go_simp
           with_reducible rfl
          rotate_left
          ·simp only [Act.put, zL, zM, zN, i64_w, i32_w]
           rfl
          refine pure_ (i := 2) (N := some 62) (v := ?_) (a' := ?_) #[true, true, true, false, false, false, false, false] rfl rfl (any_of HT_.out (by kernel_rfl)) (fun _ _ _ h => h) (Or.inl ⟨by rfl, ?_⟩) ?_ ?_
          rotate_left
          ·intro w'
           go_simp
           with_reducible rfl
          rotate_left
          ·simp only [Act.put, zL, zM, zN, i64_w, i32_w]
           rfl
          refine pure_ (i := 3) (N := some 63) (v := ?_) (a' := ?_) #[true, true, true, true, false, false, false, false] rfl rfl (any_of HT_.out (by kernel_rfl)) (fun _ _ _ h => h) (Or.inl ⟨by rfl, ?_⟩) ?_ ?_
          rotate_left
          ·intro w'
           go_simp
           with_reducible rfl
          rotate_left
          ·simp only [Act.put, zL, zM, zN, i64_w, i32_w]
           rfl
          refine pure_ (i := 4) (N := some 64) (v := ?_) (a' := ?_) #[true, true, true, true, true, false, false, false] rfl rfl (any_of HT_.out (by kernel_rfl)) (fun _ _ _ h => h) (Or.inl ⟨by rfl, ?_⟩) ?_ ?_
          rotate_left
          ·intro w'
           go_simp
           with_reducible rfl
          rotate_left
          ·simp only [Act.put, zL, zM, zN, i64_w, i32_w]
           rfl
          refine pure_ (i := 5) (N := some 65) (v := ?_) (a' := ?_) #[true, true, true, true, true, true, false, false] rfl rfl (any_of HT_.out (by kernel_rfl)) (fun _ _ _ h => h) (Or.inl ⟨by rfl, ?_⟩) ?_ ?_
          rotate_left
          ·intro w'
           go_simp
           with_reducible rfl
          rotate_left
          ·simp only [Act.put, zL, zM, zN, i64_w, i32_w]
           rfl
          refine pure_ (i := 6) (N := some 11) (v := ?_) (a' := ?_) #[true, true, true, true, true, true, true, false] rfl rfl (any_of HT_.out (by kernel_rfl)) (fun _ _ _ h => h) (Or.inl ⟨by rfl, ?_⟩) ?_ ?_
          rotate_left
          ·intro w'
           go_simp
           with_reducible rfl
          rotate_left
          ·simp only [Act.put, zL, zM, zN, i64_w, i32_w]
           rfl
          refine pure_ (i := 7) (N := some 12) (v := ?_) (a' := ?_) #[true, true, true, true, true, true, true, true] rfl rfl (any_of HT_.out (by kernel_rfl)) (fun _ _ _ h => h) (Or.inl ⟨by rfl, ?_⟩) ?_ ?_
          rotate_left
          ·intro w'
           go_simp
           with_reducible rfl
          rotate_left
          ·simp only [Act.put, zL, zM, zN, i64_w, i32_w]
           rfl
          refine done_ (done_of HT_.out (by kernel_rfl)) ?_
          try go_wp2
          go_loopg [10, 11, 12] kj62 (fun kq v10 v11 v12 w' => ∃ (x10_4 : Int) (x11_4 : Int) (x12_4 : Int) (x634000_4 : Int) (x634001_4 : Int), v10 = .int .i64 x10_4 ∧ v11 = .int .i64 x11_4 ∧ v12 = .int .i64 x12_4 ∧ Aside0 (impl_DecDiv.l1 kq a2 x9_2 x10_4 x11_4 x12_4 a0_0 a0_1 a1_0 a1_1 = some (r1, r2, r3)) ∧ Aside0 (kq ≤ kj62) ∧ Aside0 (w'.heap[gb631]? = some (.cells #[.int .i64 a0_0, .int .i64 a0_1] 26 (0, 0))) ∧ Aside0 (w'.heap[gb632]? = some (.cells #[.int .i64 a1_0, .int .i64 a1_1] 26 (0, 0))) ∧ Aside0 (w'.heap[gb633]? = some (.cells #[.int .i64 x634000_4, .int .i64 x634001_4] 26 (0, 0))) ∧ Aside0 (Below w.heap.size w w'))
          case atStart => exact ⟨(x10_2), (wrap64 (Int.tdiv x8_2 x9_2)), (Int.tmod x8_2 x9_2), (0), (0), (by first | rfl | (simp; done) | (simp [*]; done)), (by first | rfl | (simp; done) | (simp [*]; done)), (by first | rfl | (simp; done) | (simp [*]; done)), H', ⟨Nat.le_refl _⟩, ⟨by (with_reducible repeat (first | refine zB ?_ _ | refine zD ?_ | refine zC ?_ _)); exact BK631.out⟩, ⟨by (with_reducible repeat (first | refine zB ?_ _ | refine zD ?_ | refine zC ?_ _)); exact BK632.out⟩, ⟨by (with_reducible repeat (first | refine zB ?_ _ | refine zD ?_ | refine zC ?_ _)); exact BK633.out⟩, ⟨by repeat (first | (with_reducible first | exact HB.out | apply zG | apply zE | apply zF | refine zH ?_ GE631.out | refine zH ?_ GE632.out | refine zH ?_ GE633.out) | exact HB.out)⟩⟩
          case round =>
           clear H'
           try clear c1
           try clear c2
           try clear p2
           try clear c3
           try clear c4
           try clear c5
           try clear c6
           try clear p6
           try clear c9
           try clear c11
           try clear c12
           try clear c12b0
           try clear c12b1
           try clear c13
           try clear c14
           try clear c16
           try clear c17
           try clear c21
           try clear c21b0
           try clear c22
           try clear c23
           try clear c26
           try clear c30
           try clear c31
           try clear c34
           try clear c37
           try clear c38
           try clear c39
           try clear c42
           try clear c45
           try clear c46
           try clear c49
           try clear c50
           try clear c51
           try clear c58
           try clear c59
           try clear c61
           try clear c63
           try clear c64
           try clear c64b0
           try clear p64
           try clear c65
           try clear c66
           try clear c66b0
           try clear c67
           try clear c67b0
           try clear c67b1
           try clear hcz15_0
           try clear hcz15_1
           try clear hcz18_0
           try clear hcz18_1
           try clear hcz20_0
           try clear hcz20_1
           try clear hcz24_0
           try clear hcz24_1
           try clear hcz27_0
           try clear hcz27_1
           try clear hcz29_0
           try clear hcz29_1
           try clear hcz32_0
           try clear hcz32_1
           try clear hcz35_0
           try clear hcz35_1
           try clear hcz37_0
           try clear hcz37_1
           try clear hcz40_0
           try clear hcz40_1
           try clear hcz43_0
           try clear hcz43_1
           try clear hcz47_0
           try clear hcz47_1
           try clear hcz52_0
           try clear hcz52_1
           try clear hcz60_0
           try clear hcz60_1
           try clear hcz62_0
           try clear hcz62_1
           try clear hfz15_0
           try clear hfz15_1
           try clear hfz18_0
           try clear hfz18_1
           try clear hfz20_0
           try clear hfz20_1
           try clear hfz24_0
           try clear hfz24_1
           try clear hfz27_0
           try clear hfz27_1
           try clear hfz29_0
           try clear hfz29_1
           try clear hfz32_0
           try clear hfz32_1
           try clear hfz35_0
           try clear hfz35_1
           try clear hfz37_0
           try clear hfz37_1
           try clear hfz40_0
           try clear hfz40_1
           try clear hfz43_0
           try clear hfz43_1
           try clear hfz47_0
           try clear hfz47_1
           try clear hfz52_0
           try clear hfz52_1
           try clear hfz60_0
           try clear hfz60_1
           try clear hfz62_0
           try clear hfz62_1
           try clear p2
           try clear p6
           try clear p64
           obtain ⟨x10_4, x11_4, x12_4, x634000_4, x634001_4, rfl, rfl, rfl, HA, HK4, BK631, BK632, BK633, HB⟩ := hrel
           cases gk with
           | zero => exact absurd HA.out (by simp [impl_DecDiv.l1])
           | succ k4 =>
            have H := HA.out
            clear HA
            simp only [impl_DecDiv.l1] at H
            by_cases c69 : x10_4 > 0
            ·rw [if_pos c69] at H
             have c69b0 : decide (0 < x10_4) = true := decide_eq_true c69
             clear c69
             by_cases c70 : x9_2 = 0
             ·rw [if_pos c70] at H
              exact absurd H (by simp)
             ·rw [if_neg c70] at H
              have c70b0 : (x9_2 == 0) = false := beq_eq_false_iff_ne.mpr c70
              have c70b1 : (x9_2 != 0) = true := bne_iff_ne.mpr c70
              by_cases c71 : (wrap64 ((wrap64 (x11_4 * 10)) + (wrap64 (Int.tdiv (wrap64 (x12_4 * 10)) x9_2)))) > 100000000000000000
              ·rw [if_pos c71] at H
               have c71b0 : decide (100000000000000000 < (wrap64 ((wrap64 (x11_4 * 10)) + (wrap64 (Int.tdiv (wrap64 (x12_4 * 10)) x9_2))))) = true := decide_eq_true c71
               clear c71
               simp only [Option.some.injEq, Prod.mk.injEq] at H
               obtain ⟨rfl, rfl, rfl⟩ := H
               have hnb72 := NB633_631.out
               have hnc72 := NB631_633.out
               have hnb73 := NB633_632.out
               have hnc73 := NB632_633.out
               have hcz74_0 : wr.cell? ⟨gb633, 0, none⟩ = some (.int .i64 x634000_4) := (zJ BK633.out 0).trans rfl
               have hcz74_1 : wr.cell? ⟨gb633, 1, none⟩ = some (.int .i64 x634001_4) := (zJ BK633.out 1).trans rfl
               have hfz74_0 := zK BK633.out 0
               have hfz74_1 := zK BK633.out 1
               go_wp2
               refine bodyPost_ret (results_ct rfl _ _ gb633 26 #[.int .i64 0, .int .i64 0] (0, 0) _ rfl (by (with_reducible repeat (first | refine zB ?_ _ | refine zD ?_ | refine zC ?_ _)); refine blk_put (cs := #[.int .i64 0, .int .i64 x634001_4]) ?_ 1 _ rfl; (with_reducible repeat (first | refine zB ?_ _ | refine zD ?_ | refine zC ?_ _)); refine blk_put (cs := #[.int .i64 x634000_4, .int .i64 x634001_4]) ?_ 0 _ rfl; (with_reducible repeat (first | refine zB ?_ _ | refine zD ?_ | refine zC ?_ _)); exact BK633.out) Try.underlying26 rfl (by kernel_rfl)) rfl ?_
               exact ⟨by first | rfl | (simp [errW_none, errW_some] <;> rfl) | (simp [*, errW_none, errW_some] <;> rfl), by repeat (first | (with_reducible first | exact HB.out | apply zG | apply zE | apply zF | refine zH ?_ GE631.out | refine zH ?_ GE632.out | refine zH ?_ GE633.out) | exact HB.out)⟩
              ·rw [if_neg c71] at H
               have c71b0 : decide (100000000000000000 < (wrap64 ((wrap64 (x11_4 * 10)) + (wrap64 (Int.tdiv (wrap64 (x12_4 * 10)) x9_2))))) = false := decide_eq_false c71
               clear c71
               have H' := zA H
               clear H
               go_wp2
               go_roundg k4
               case measure => have := HJ3.out; have := HK2.out; have := HJ62.out; have := HK4.out; omega
               case rel => exact ⟨(wrap64 (x10_4 - 1)), (wrap64 ((wrap64 (x11_4 * 10)) + (wrap64 (Int.tdiv (wrap64 (x12_4 * 10)) x9_2)))), (Int.tmod (wrap64 (x12_4 * 10)) x9_2), (x634000_4), (x634001_4), (by first | rfl | (simp; done) | (simp [*]; done)), (by first | rfl | (simp; done) | (simp [*]; done)), (by first | rfl | (simp; done) | (simp [*]; done)), H', ⟨by have := HJ3.out; have := HK2.out; have := HJ62.out; have := HK4.out; omega⟩, ⟨by (with_reducible repeat (first | refine zB ?_ _ | refine zD ?_ | refine zC ?_ _)); exact BK631.out⟩, ⟨by (with_reducible repeat (first | refine zB ?_ _ | refine zD ?_ | refine zC ?_ _)); exact BK632.out⟩, ⟨by (with_reducible repeat (first | refine zB ?_ _ | refine zD ?_ | refine zC ?_ _)); exact BK633.out⟩, ⟨by repeat (first | (with_reducible first | exact HB.out | apply zG | apply zE | apply zF | refine zH ?_ GE631.out | refine zH ?_ GE632.out | refine zH ?_ GE633.out) | exact HB.out)⟩⟩
            ·rw [if_neg c69] at H
             have c69b0 : decide (0 < x10_4) = false := decide_eq_false c69
             clear c69
             by_cases c75 : ((decide (a0_0 < 0)) != (decide (a1_0 < 0))) = true
             ·rw [if_pos c75] at H
              have c75b0 : ((decide (a0_0 < 0)) != (decide (a1_0 < 0))) = true := c75
              (try (have c75b1 : decide ((decide (a0_0 < 0)) = (decide (a1_0 < 0))) = false := by simpa using c75))
              (try (have c75b2 : ((decide (a0_0 < 0)) == (decide (a1_0 < 0))) = false := by simpa using c75))
              (try (have c75b3 : ¬ ((decide (a0_0 < 0)) = (decide (a1_0 < 0))) := by simpa using c75))
              clear c75
              replace H := Option.bind_eq_some_iff.mp H
              obtain ⟨⟨t638, t639, t640⟩, A760, H⟩ := H
              replace H : (some (t638, t639, t640)) = some (r1, r2, r3) := H
              have A76 := zA A760
              clear A760
              simp only [Option.some.injEq, Prod.mk.injEq] at H
              obtain ⟨rfl, rfl, rfl⟩ := H
              have hnb77 := NB631_632.out
              have hnc77 := NB632_631.out
              have hnb78 := NB631_633.out
              have hnc78 := NB633_631.out
              have hcz79_0 : wr.cell? ⟨gb631, 0, none⟩ = some (.int .i64 a0_0) := (zJ BK631.out 0).trans rfl
              have hcz79_1 : wr.cell? ⟨gb631, 1, none⟩ = some (.int .i64 a0_1) := (zJ BK631.out 1).trans rfl
              have hfz79_0 := zK BK631.out 0
              have hfz79_1 := zK BK631.out 1
              have hnb80 := NB632_633.out
              have hnc80 := NB633_632.out
              have hcz81_0 : wr.cell? ⟨gb632, 0, none⟩ = some (.int .i64 a1_0) := (zJ BK632.out 0).trans rfl
              have hcz81_1 : wr.cell? ⟨gb632, 1, none⟩ = some (.int .i64 a1_1) := (zJ BK632.out 1).trans rfl
              have hfz81_0 := zK BK632.out 0
              have hfz81_1 := zK BK632.out 1
              go_wp2_with (first | ((with_reducible refine zT (f := 46) rfl ?_); refine goesL_ (some 96) rfl rfl Try.func46 (by kernel_rfl) rfl #[.int .i64 (wrap64 (-x11_4)), .int .i64 (wrap64 (-a2))] rfl (by (try simp only [List.map_toArray, List.map_cons, List.map_nil]); first | done | rfl | (simp only [List.length_drop, List.length_take]; rfl)) ?_; (with_reducible refine (impl_form.calls k4 (wrap64 (-x11_4)) (wrap64 (-a2)) t638 t639 t640 _ A76.out).mono ?_); rintro e w82 ⟨rfl, hb⟩; refine ⟨_, rfl, ?_⟩; have n0_ := zA (zP (g := gb631) (o := .cells #[.int .i64 a0_0, .int .i64 a0_1] 26 (0, 0)) (by (with_reducible repeat (first | refine zB ?_ _ | refine zD ?_ | refine zC ?_ _)); exact BK631.out) hb); have n1_ := zA (zP (g := gb632) (o := .cells #[.int .i64 a1_0, .int .i64 a1_1] 26 (0, 0)) (by (with_reducible repeat (first | refine zB ?_ _ | refine zD ?_ | refine zC ?_ _)); exact BK632.out) hb); have n2_ := zA (zP (g := gb633) (o := .cells #[.int .i64 x634000_4, .int .i64 x634001_4] 26 (0, 0)) (by (with_reducible repeat (first | refine zB ?_ _ | refine zD ?_ | refine zC ?_ _)); exact BK633.out) hb); have n3_ := zA (zQ (by repeat (first | (with_reducible first | exact HB.out | apply zG | apply zE | apply zF | refine zH ?_ GE631.out | refine zH ?_ GE632.out | refine zH ?_ GE633.out) | exact HB.out)) hb); clear BK631; clear BK632; clear BK633; clear HB; have BK631 := n0_; have BK632 := n1_; have BK633 := n2_; have HB := n3_; clear n0_ n1_ n2_ n3_; (try clear hb); (try clear hb2); (try clear hk); (try clear hi); have hcz83_0 : w82.cell? ⟨gb633, 0, none⟩ = some (.int .i64 x634000_4) := (zJ BK633.out 0).trans rfl; have hcz83_1 : w82.cell? ⟨gb633, 1, none⟩ = some (.int .i64 x634001_4) := (zJ BK633.out 1).trans rfl; have hfz83_0 := zK BK633.out 0; have hfz83_1 := zK BK633.out 1))
              refine bodyPost_ret (results_ct rfl _ _ gb633 26 #[.int .i64 t638, .int .i64 t639] (0, 0) _ rfl (by (with_reducible repeat (first | refine zB ?_ _ | refine zD ?_ | refine zC ?_ _)); refine blk_put (cs := #[.int .i64 t638, .int .i64 x634001_4]) ?_ 1 _ rfl; (with_reducible repeat (first | refine zB ?_ _ | refine zD ?_ | refine zC ?_ _)); refine blk_put (cs := #[.int .i64 x634000_4, .int .i64 x634001_4]) ?_ 0 _ rfl; (with_reducible repeat (first | refine zB ?_ _ | refine zD ?_ | refine zC ?_ _)); exact BK633.out) Try.underlying26 rfl (by kernel_rfl)) rfl ?_
              exact ⟨by first | rfl | (simp [errW_none, errW_some] <;> rfl) | (simp [*, errW_none, errW_some] <;> rfl), by repeat (first | (with_reducible first | exact HB.out | apply zG | apply zE | apply zF | refine zH ?_ GE631.out | refine zH ?_ GE632.out | refine zH ?_ GE633.out) | exact HB.out)⟩
             ·rw [if_neg c75] at H
              have c75b0 : ((decide (a0_0 < 0)) != (decide (a1_0 < 0))) = false := by simpa using c75
              (try (have c75b1 : decide ((decide (a0_0 < 0)) = (decide (a1_0 < 0))) = true := by simpa using c75))
              (try (have c75b2 : ((decide (a0_0 < 0)) == (decide (a1_0 < 0))) = true := by simpa using c75))
              clear c75
              replace H := Option.bind_eq_some_iff.mp H
              obtain ⟨⟨t641, t642, t643⟩, A840, H⟩ := H
              replace H : (some (t641, t642, t643)) = some (r1, r2, r3) := H
              have A84 := zA A840
              clear A840
              simp only [Option.some.injEq, Prod.mk.injEq] at H
              obtain ⟨rfl, rfl, rfl⟩ := H
              have hnb85 := NB631_632.out
              have hnc85 := NB632_631.out
              have hnb86 := NB631_633.out
              have hnc86 := NB633_631.out
              have hcz87_0 : wr.cell? ⟨gb631, 0, none⟩ = some (.int .i64 a0_0) := (zJ BK631.out 0).trans rfl
              have hcz87_1 : wr.cell? ⟨gb631, 1, none⟩ = some (.int .i64 a0_1) := (zJ BK631.out 1).trans rfl
              have hfz87_0 := zK BK631.out 0
              have hfz87_1 := zK BK631.out 1
              have hnb88 := NB632_633.out
              have hnc88 := NB633_632.out
              have hcz89_0 : wr.cell? ⟨gb632, 0, none⟩ = some (.int .i64 a1_0) := (zJ BK632.out 0).trans rfl
              have hcz89_1 : wr.cell? ⟨gb632, 1, none⟩ = some (.int .i64 a1_1) := (zJ BK632.out 1).trans rfl
              have hfz89_0 := zK BK632.out 0
              have hfz89_1 := zK BK632.out 1
              go_wp2_with (first | ((with_reducible refine zT (f := 46) rfl ?_); refine goesL_ (some 96) rfl rfl Try.func46 (by kernel_rfl) rfl #[.int .i64 x11_4, .int .i64 (wrap64 (-a2))] rfl (by (try simp only [List.map_toArray, List.map_cons, List.map_nil]); first | done | rfl | (simp only [List.length_drop, List.length_take]; rfl)) ?_; (with_reducible refine (impl_form.calls k4 x11_4 (wrap64 (-a2)) t641 t642 t643 _ A84.out).mono ?_); rintro e w90 ⟨rfl, hb⟩; refine ⟨_, rfl, ?_⟩; have n0_ := zA (zP (g := gb631) (o := .cells #[.int .i64 a0_0, .int .i64 a0_1] 26 (0, 0)) (by (with_reducible repeat (first | refine zB ?_ _ | refine zD ?_ | refine zC ?_ _)); exact BK631.out) hb); have n1_ := zA (zP (g := gb632) (o := .cells #[.int .i64 a1_0, .int .i64 a1_1] 26 (0, 0)) (by (with_reducible repeat (first | refine zB ?_ _ | refine zD ?_ | refine zC ?_ _)); exact BK632.out) hb); have n2_ := zA (zP (g := gb633) (o := .cells #[.int .i64 x634000_4, .int .i64 x634001_4] 26 (0, 0)) (by (with_reducible repeat (first | refine zB ?_ _ | refine zD ?_ | refine zC ?_ _)); exact BK633.out) hb); have n3_ := zA (zQ (by repeat (first | (with_reducible first | exact HB.out | apply zG | apply zE | apply zF | refine zH ?_ GE631.out | refine zH ?_ GE632.out | refine zH ?_ GE633.out) | exact HB.out)) hb); clear BK631; clear BK632; clear BK633; clear HB; have BK631 := n0_; have BK632 := n1_; have BK633 := n2_; have HB := n3_; clear n0_ n1_ n2_ n3_; (try clear hb); (try clear hb2); (try clear hk); (try clear hi); have hcz91_0 : w90.cell? ⟨gb633, 0, none⟩ = some (.int .i64 x634000_4) := (zJ BK633.out 0).trans rfl; have hcz91_1 : w90.cell? ⟨gb633, 1, none⟩ = some (.int .i64 x634001_4) := (zJ BK633.out 1).trans rfl; have hfz91_0 := zK BK633.out 0; have hfz91_1 := zK BK633.out 1))
              refine bodyPost_ret (results_ct rfl _ _ gb633 26 #[.int .i64 t641, .int .i64 t642] (0, 0) _ rfl (by (with_reducible repeat (first | refine zB ?_ _ | refine zD ?_ | refine zC ?_ _)); refine blk_put (cs := #[.int .i64 t641, .int .i64 x634001_4]) ?_ 1 _ rfl; (with_reducible repeat (first | refine zB ?_ _ | refine zD ?_ | refine zC ?_ _)); refine blk_put (cs := #[.int .i64 x634000_4, .int .i64 x634001_4]) ?_ 0 _ rfl; (with_reducible repeat (first | refine zB ?_ _ | refine zD ?_ | refine zC ?_ _)); exact BK633.out) Try.underlying26 rfl (by kernel_rfl)) rfl ?_
              exact ⟨by first | rfl | (simp [errW_none, errW_some] <;> rfl) | (simp [*, errW_none, errW_some] <;> rfl), by repeat (first | (with_reducible first | exact HB.out | apply zG | apply zE | apply zF | refine zH ?_ GE631.out | refine zH ?_ GE632.out | refine zH ?_ GE633.out) | exact HB.out)⟩

end Go.Proofs.Ytmoaolcioihjnaa.Q

namespace Go.Proofs.Ytmoaolcioihjnaa.Q
open Go.RowKit Go.Proofs.YtmoaolcioihjnaaW.PrintWords Go.Proofs.YtmoaolcioihjnaaW.PrintLast Go.Proofs.YtmoaolcioihjnaaW.PrintMore Go.Proofs.YtmoaolcioihjnaaX
attribute [local go_sem] max2_int min2_int max_two min_two max_three min_three max_four min_four   -- for this text's walks alone
set_option linter.unusedVariables false
set_option linter.unusedSimpArgs false

def spec_l1Abs.f (a0 : Int) : Option (Int) := if a0 < 0 then (some (wrap64 (-a0))) else (some a0)
set_option maxHeartbeats 8000000 in
set_option maxRecDepth 100000 in
theorem spec_l1Abs.calls (a0 : Int) (r : Int) (w : World) (h : spec_l1Abs.f a0 = some r) :
  Calls Try.prog 73 #[.int .i64 a0] w fun e w' => e = .returned (.int .i64 r) ∧ Drawn0 w w' := by
 have H : (if a0 < 0 then (some (wrap64 (-a0))) else (some a0)) = some r := h
 clear h
 by_cases c2 : a0 < 0
 ·rw [if_pos c2] at H
  have c2b0 : decide (a0 < 0) = true := decide_eq_true c2
  clear c2
  obtain rfl := Option.some.inj H
  go_enter Try.func73, Try.ntmps73
  go_wp2
  go_ret
  exact ⟨by first | rfl | (simp; done) | (simp [*]; done), by repeat (first | exact Drawn0.refl _ | apply Drawn0.step)⟩
 ·rw [if_neg c2] at H
  have c2b0 : decide (a0 < 0) = false := decide_eq_false c2
  clear c2
  obtain rfl := Option.some.inj H
  go_enter Try.func73, Try.ntmps73
  go_wp2
  go_ret
  exact ⟨by first | rfl | (simp; done) | (simp [*]; done), by repeat (first | exact Drawn0.refl _ | apply Drawn0.step)⟩

end Go.Proofs.Ytmoaolcioihjnaa.Q

namespace Go.Proofs.Ytmoaolcioihjnaa.Q
open Go.RowKit Go.Proofs.YtmoaolcioihjnaaW.PrintWords Go.Proofs.YtmoaolcioihjnaaW.PrintLast Go.Proofs.YtmoaolcioihjnaaW.PrintMore Go.Proofs.YtmoaolcioihjnaaX
attribute [local go_sem] max2_int min2_int max_two min_two max_three min_three max_four min_four   -- for this text's walks alone
set_option linter.unusedVariables false
set_option linter.unusedSimpArgs false

def spec_l1Big.f (a0 : Int) : Option (Bool) := if a0 > 100000000000000000 then (some true) else (some (decide (a0 < (-100000000000000000))))
set_option maxHeartbeats 8000000 in
set_option maxRecDepth 100000 in
theorem spec_l1Big.calls (a0 : Int) (r : Bool) (w : World) (h : spec_l1Big.f a0 = some r) :
  Calls Try.prog 47 #[.int .i64 a0] w fun e w' => e = .returned (.bool r) ∧ Drawn0 w w' := by
 have H : (if a0 > 100000000000000000 then (some true) else (some (decide (a0 < (-100000000000000000))))) = some r := h
 clear h
 by_cases c2 : a0 > 100000000000000000
 ·rw [if_pos c2] at H
  have c2b0 : decide (100000000000000000 < a0) = true := decide_eq_true c2
  clear c2
  obtain rfl := Option.some.inj H
  go_enter Try.func47, Try.ntmps47
  go_wp2
  go_ret
  exact ⟨by first | rfl | (simp; done) | (simp [*]; done), by repeat (first | exact Drawn0.refl _ | apply Drawn0.step)⟩
 ·rw [if_neg c2] at H
  have c2b0 : decide (100000000000000000 < a0) = false := decide_eq_false c2
  clear c2
  obtain rfl := Option.some.inj H
  go_enter Try.func47, Try.ntmps47
  go_wp2
  go_ret
  exact ⟨by first | rfl | (simp; done) | (simp [*]; done), by repeat (first | exact Drawn0.refl _ | apply Drawn0.step)⟩

end Go.Proofs.Ytmoaolcioihjnaa.Q

namespace Go.Proofs.Ytmoaolcioihjnaa.Q
open Go.RowKit Go.Proofs.YtmoaolcioihjnaaW.PrintWords Go.Proofs.YtmoaolcioihjnaaW.PrintLast Go.Proofs.YtmoaolcioihjnaaW.PrintMore Go.Proofs.YtmoaolcioihjnaaX
attribute [local go_sem] max2_int min2_int max_two min_two max_three min_three max_four min_four   -- for this text's walks alone
set_option linter.unusedVariables false
set_option linter.unusedSimpArgs false

mutual
def spec_l1Quot.l0 : Nat → Int → Int → Int → Int → Option (Int × Bool)
 | 0, _, _, _, _ => none
 | k + 1, x1, x2, x8, x9 => if x2 > 0 then (if x1 = 0 then (none) else ((spec_l1Big.f (wrap64 ((wrap64 (x8 * 10)) + (wrap64 (Int.tdiv (wrap64 (x9 * 10)) x1))))).bind fun t644 => (if t644 = true then (some (0, false)) else (spec_l1Quot.l0 k x1 (wrap64 (x2 - 1)) (wrap64 ((wrap64 (x8 * 10)) + (wrap64 (Int.tdiv (wrap64 (x9 * 10)) x1)))) (Int.tmod (wrap64 (x9 * 10)) x1))))) else (spec_l1Quot.l1 k x2 x8)
def spec_l1Quot.l1 : Nat → Int → Int → Option (Int × Bool)
 | 0, _, _ => none
 | k + 1, x2, x8 => if x2 < 0 then (spec_l1Quot.l1 k (wrap64 (x2 + 1)) (wrap64 (Int.tdiv x8 10))) else (some (x8, true))
end
def spec_l1Quot.f (k : Nat) (a0 : Int) (a1 : Int) (a2 : Int) : Option (Int × Bool) := if a1 = 0 then (none) else (spec_l1Quot.l0 k a1 a2 (wrap64 (Int.tdiv a0 a1)) (Int.tmod a0 a1))
theorem spec_l1Quot.mono_l : ∀ k, (∀ y0 y1 y2 y3, LeO (spec_l1Quot.l0 k y0 y1 y2 y3) (spec_l1Quot.l0 (k + 1) y0 y1 y2 y3)) ∧ (∀ y0 y1, LeO (spec_l1Quot.l1 k y0 y1) (spec_l1Quot.l1 (k + 1) y0 y1))
 | 0 => ⟨fun _ _ _ _ r h => by simp [spec_l1Quot.l0] at h, fun _ _ r h => by simp [spec_l1Quot.l1] at h⟩
 | k + 1 => by
  obtain ⟨ih0, ih1⟩ := spec_l1Quot.mono_l k
  refine ⟨?_, ?_⟩
  ·intro y0 y1 y2 y3
   unfold spec_l1Quot.l0
   repeat' first
   | (with_reducible exact ih0 _ _ _ _)
   | (with_reducible exact ih1 _ _)
   | (with_reducible exact LeO.refl _)
   | (with_reducible exact LeO.none _)
   | (with_reducible refine LeO.ite ?_ ?_)
   | (with_reducible refine LeO.bind ?_ (fun _ => ?_))
   | exact ih0 _ _ _ _
   | exact ih1 _ _
   | exact LeO.none _
   | refine LeO.ite ?_ ?_
   | refine LeO.bind ?_ (fun _ => ?_)
  ·intro y0 y1
   unfold spec_l1Quot.l1
   repeat' first
   | (with_reducible exact ih0 _ _ _ _)
   | (with_reducible exact ih1 _ _)
   | (with_reducible exact LeO.refl _)
   | (with_reducible exact LeO.none _)
   | (with_reducible refine LeO.ite ?_ ?_)
   | (with_reducible refine LeO.bind ?_ (fun _ => ?_))
   | exact ih0 _ _ _ _
   | exact ih1 _ _
   | exact LeO.none _
   | refine LeO.ite ?_ ?_
   | refine LeO.bind ?_ (fun _ => ?_)
theorem spec_l1Quot.mono : ∀ a0 a1 a2 k, LeO (spec_l1Quot.f k a0 a1 a2) (spec_l1Quot.f (k + 1) a0 a1 a2) := by
 intro a0 a1 a2 k
 obtain ⟨ih0, ih1⟩ := spec_l1Quot.mono_l k
 unfold spec_l1Quot.f
 repeat' first
   | (with_reducible exact ih0 _ _ _ _)
   | (with_reducible exact ih1 _ _)
   | (with_reducible exact LeO.refl _)
   | (with_reducible exact LeO.none _)
   | (with_reducible refine LeO.ite ?_ ?_)
   | (with_reducible refine LeO.bind ?_ (fun _ => ?_))
   | exact ih0 _ _ _ _
   | exact ih1 _ _
   | exact LeO.none _
   | refine LeO.ite ?_ ?_
   | refine LeO.bind ?_ (fun _ => ?_)
set_option maxHeartbeats 8000000 in
set_option maxRecDepth 100000 in
theorem spec_l1Quot.calls (k : Nat) (a0 : Int) (a1 : Int) (a2 : Int) (r1 : Int) (r2 : Bool) (w : World) (h : spec_l1Quot.f k a0 a1 a2 = some (r1, r2)) :
  Calls Try.prog 74 #[.int .i64 a0, .int .i64 a1, .int .i64 a2] w fun e w' => e = .returned (.tuple #[.int .i64 r1, .bool r2]) ∧ Drawn0 w w' := by
 have H : (if a1 = 0 then (none) else (spec_l1Quot.l0 k a1 a2 (wrap64 (Int.tdiv a0 a1)) (Int.tmod a0 a1))) = some (r1, r2) := h
 clear h
 by_cases c4 : a1 = 0
 ·rw [if_pos c4] at H
  exact absurd H (by simp)
 ·rw [if_neg c4] at H
  have c4b0 : (a1 == 0) = false := beq_eq_false_iff_ne.mpr c4
  have c4b1 : (a1 != 0) = true := bne_iff_ne.mpr c4
  have H' := zA H
  clear H
  go_enter Try.func74, Try.ntmps74
  go_wp2
  go_loopg [2, 8, 9] k (fun kq v2 v8 v9 w' => ∃ (x2_1 : Int) (x8_1 : Int) (x9_1 : Int), v2 = .int .i64 x2_1 ∧ v8 = .int .i64 x8_1 ∧ v9 = .int .i64 x9_1 ∧ Aside0 (spec_l1Quot.l0 kq a1 x2_1 x8_1 x9_1 = some (r1, r2)) ∧ Aside0 (kq ≤ k) ∧ Drawn0 w w')
  case atStart => exact ⟨(a2), (wrap64 (Int.tdiv a0 a1)), (Int.tmod a0 a1), (by first | rfl | (simp; done) | (simp [*]; done)), (by first | rfl | (simp; done) | (simp [*]; done)), (by first | rfl | (simp; done) | (simp [*]; done)), H', ⟨Nat.le_refl _⟩, by repeat (first | exact Drawn0.refl _ | apply Drawn0.step)⟩
  case round =>
   clear H'
   try clear p2
   try clear c4
   try clear c4b0
   try clear c4b1
   obtain ⟨x2_1, x8_1, x9_1, rfl, rfl, rfl, HA, HK1, ⟨m1, rfl⟩⟩ := hrel
   cases gk with
   | zero => exact absurd HA.out (by simp [spec_l1Quot.l0])
   | succ k1 =>
    have H := HA.out
    clear HA
    simp only [spec_l1Quot.l0] at H
    by_cases c5 : x2_1 > 0
    ·rw [if_pos c5] at H
     have c5b0 : decide (0 < x2_1) = true := decide_eq_true c5
     clear c5
     by_cases c6 : a1 = 0
     ·rw [if_pos c6] at H
      exact absurd H (by simp)
     ·rw [if_neg c6] at H
      have c6b0 : (a1 == 0) = false := beq_eq_false_iff_ne.mpr c6
      have c6b1 : (a1 != 0) = true := bne_iff_ne.mpr c6
      replace H := Option.bind_eq_some_iff.mp H
      obtain ⟨t644, A70, H⟩ := H
      replace H : (if t644 = true then (some (0, false)) else (spec_l1Quot.l0 k1 a1 (wrap64 (x2_1 - 1)) (wrap64 ((wrap64 (x8_1 * 10)) + (wrap64 (Int.tdiv (wrap64 (x9_1 * 10)) a1)))) (Int.tmod (wrap64 (x9_1 * 10)) a1))) = some (r1, r2) := H
      have A7 := zA A70
      clear A70
      by_cases c8 : t644 = true
      ·subst c8
       have H1 : (some (0, false)) = some (r1, r2) := by rw [if_pos rfl] at H; exact H
       clear H
       have H := H1
       clear H1
       simp only [Option.some.injEq, Prod.mk.injEq] at H
       obtain ⟨rfl, rfl⟩ := H
       go_wp2_with (first | ((with_reducible refine zT (f := 47) rfl ?_); refine goesL_ (some 32) rfl rfl Try.func47 (by kernel_rfl) rfl #[.int .i64 (wrap64 ((wrap64 (x8_1 * 10)) + (wrap64 (Int.tdiv (wrap64 (x9_1 * 10)) a1))))] rfl (by (try simp only [List.map_toArray, List.map_cons, List.map_nil]); first | done | rfl | (simp only [List.length_drop, List.length_take]; rfl)) ?_; (with_reducible refine (spec_l1Big.calls (wrap64 ((wrap64 (x8_1 * 10)) + (wrap64 (Int.tdiv (wrap64 (x9_1 * 10)) a1)))) true _ A7.out).mono ?_); rintro e w' ⟨rfl, ⟨nd, rfl⟩⟩; refine ⟨_, rfl, ?_⟩))
       go_ret2
       exact ⟨by first | rfl | (simp; done) | (simp [*]; done), by repeat (first | exact Drawn0.refl _ | apply Drawn0.step)⟩
      ·replace c8 := Bool.eq_false_iff.mpr c8
       subst c8
       have H1 : (spec_l1Quot.l0 k1 a1 (wrap64 (x2_1 - 1)) (wrap64 ((wrap64 (x8_1 * 10)) + (wrap64 (Int.tdiv (wrap64 (x9_1 * 10)) a1)))) (Int.tmod (wrap64 (x9_1 * 10)) a1)) = some (r1, r2) := by rw [if_neg (show ¬ (false = true) by decide)] at H; exact H
       clear H
       have H := H1
       clear H1
       have H' := zA H
       clear H
       go_wp2_with (first | ((with_reducible refine zT (f := 47) rfl ?_); refine goesL_ (some 32) rfl rfl Try.func47 (by kernel_rfl) rfl #[.int .i64 (wrap64 ((wrap64 (x8_1 * 10)) + (wrap64 (Int.tdiv (wrap64 (x9_1 * 10)) a1))))] rfl (by (try simp only [List.map_toArray, List.map_cons, List.map_nil]); first | done | rfl | (simp only [List.length_drop, List.length_take]; rfl)) ?_; (with_reducible refine (spec_l1Big.calls (wrap64 ((wrap64 (x8_1 * 10)) + (wrap64 (Int.tdiv (wrap64 (x9_1 * 10)) a1)))) false _ A7.out).mono ?_); rintro e w' ⟨rfl, ⟨nd, rfl⟩⟩; refine ⟨_, rfl, ?_⟩))
       go_roundg k1
       case measure => have := HK1.out; omega
       case rel => exact ⟨(wrap64 (x2_1 - 1)), (wrap64 ((wrap64 (x8_1 * 10)) + (wrap64 (Int.tdiv (wrap64 (x9_1 * 10)) a1)))), (Int.tmod (wrap64 (x9_1 * 10)) a1), (by first | rfl | (simp; done) | (simp [*]; done)), (by first | rfl | (simp; done) | (simp [*]; done)), (by first | rfl | (simp; done) | (simp [*]; done)), H', ⟨by have := HK1.out; omega⟩, by repeat (first | exact Drawn0.refl _ | apply Drawn0.step)⟩
    ·rw [if_neg c5] at H
     have c5b0 : decide (0 < x2_1) = false := decide_eq_false c5
     clear c5
     have H' := zA H
     clear H
     go_wp2
     go_loopg [2, 8] k1 (fun kq v2 v8 w' => ∃ (x2_2 : Int) (x8_2 : Int), v2 = .int .i64 x2_2 ∧ v8 = .int .i64 x8_2 ∧ Aside0 (spec_l1Quot.l1 kq x2_2 x8_2 = some (r1, r2)) ∧ Aside0 (kq ≤ k1) ∧ Drawn0 w w')
     case atStart => exact ⟨(x2_1), (x8_1), (by first | rfl | (simp; done) | (simp [*]; done)), (by first | rfl | (simp; done) | (simp [*]; done)), H', ⟨Nat.le_refl _⟩, by repeat (first | exact Drawn0.refl _ | apply Drawn0.step)⟩
     case round =>
      clear H'
      try clear p2
      try clear c4
      try clear c4b0
      try clear c4b1
      try clear c5
      try clear c5b0
      try clear c6
      try clear c6b0
      try clear c6b1
      try clear p6
      try clear c7
      try clear c8
      try clear p2
      obtain ⟨x2_2, x8_2, rfl, rfl, HA, HK2, ⟨m2, rfl⟩⟩ := hrel
      cases gk with
      | zero => exact absurd HA.out (by simp [spec_l1Quot.l1])
      | succ k2 =>
       have H := HA.out
       clear HA
       simp only [spec_l1Quot.l1] at H
       by_cases c9 : x2_2 < 0
       ·rw [if_pos c9] at H
        have c9b0 : decide (x2_2 < 0) = true := decide_eq_true c9
        clear c9
        have H' := zA H
        clear H
        go_wp2
        go_roundg k2
        case measure => have := HK1.out; have := HK2.out; omega
        case rel => exact ⟨(wrap64 (x2_2 + 1)), (wrap64 (Int.tdiv x8_2 10)), (by first | rfl | (simp; done) | (simp [*]; done)), (by first | rfl | (simp; done) | (simp [*]; done)), H', ⟨by have := HK1.out; have := HK2.out; omega⟩, by repeat (first | exact Drawn0.refl _ | apply Drawn0.step)⟩
       ·rw [if_neg c9] at H
        have c9b0 : decide (x2_2 < 0) = false := decide_eq_false c9
        clear c9
        simp only [Option.some.injEq, Prod.mk.injEq] at H
        obtain ⟨rfl, rfl⟩ := H
        go_wp2
        go_ret2
        exact ⟨by first | rfl | (simp; done) | (simp [*]; done), by repeat (first | exact Drawn0.refl _ | apply Drawn0.step)⟩

end Go.Proofs.Ytmoaolcioihjnaa.Q

namespace Go.Proofs.Ytmoaolcioihjnaa.Q
open Go.RowKit Go.Proofs.YtmoaolcioihjnaaW.PrintWords Go.Proofs.YtmoaolcioihjnaaW.PrintLast Go.Proofs.YtmoaolcioihjnaaW.PrintMore Go.Proofs.YtmoaolcioihjnaaX
attribute [local go_sem] max2_int min2_int max_two min_two max_three min_three max_four min_four   -- for this text's walks alone
set_option linter.unusedVariables false
set_option linter.unusedSimpArgs false

def spec_l1Div.f (k : Nat) (a0_0 : Int) (a0_1 : Int) (a1_0 : Int) (a1_1 : Int) (a2 : Int) : Option (Int × Int × Bool) := (spec_l1Abs.f a0_0).bind fun t648 => ((spec_l1Abs.f a1_0).bind fun t649 => ((spec_l1Quot.f k t648 t649 (wrap64 ((wrap64 (a0_1 - a1_1)) + a2))).bind fun bt650 => (if bt650.2 = true then (if ((decide (a0_0 < 0)) != (decide (a1_0 < 0))) = true then ((spec_l1New.f k (wrap64 (-bt650.1)) (wrap64 (-a2))).bind fun bt652 => (some (bt652.1, bt652.2.1, bt652.2.2))) else ((spec_l1New.f k bt650.1 (wrap64 (-a2))).bind fun bt655 => (some (bt655.1, bt655.2.1, bt655.2.2)))) else (some (0, 0, false)))))
theorem spec_l1Div.mono : ∀ a0 a1 a2 a3 a4 k, LeO (spec_l1Div.f k a0 a1 a2 a3 a4) (spec_l1Div.f (k + 1) a0 a1 a2 a3 a4) := by
 intro a0 a1 a2 a3 a4 k
 unfold spec_l1Div.f
 repeat' first
   | (with_reducible exact spec_l1New.mono _ _ _)
   | (with_reducible exact spec_l1Quot.mono _ _ _ _)
   | (with_reducible exact LeO.refl _)
   | (with_reducible exact LeO.none _)
   | (with_reducible refine LeO.ite ?_ ?_)
   | (with_reducible refine LeO.bind ?_ (fun _ => ?_))
   | exact spec_l1New.mono _ _ _
   | exact spec_l1Quot.mono _ _ _ _
   | exact LeO.none _
   | refine LeO.ite ?_ ?_
   | refine LeO.bind ?_ (fun _ => ?_)
set_option maxHeartbeats 8000000 in
set_option maxRecDepth 100000 in
theorem spec_l1Div.calls (k : Nat) (a0_0 : Int) (a0_1 : Int) (a1_0 : Int) (a1_1 : Int) (a2 : Int) (r1 : Int) (r2 : Int) (r3 : Bool) (w : World) (h : spec_l1Div.f k a0_0 a0_1 a1_0 a1_1 a2 = some (r1, r2, r3)) :
  Calls Try.prog 64 #[.agg #[.int .i64 a0_0, .int .i64 a0_1], .agg #[.int .i64 a1_0, .int .i64 a1_1], .int .i64 a2] w fun e w' => e = .returned (.tuple #[.agg #[.int .i64 r1, .int .i64 r2], .bool r3]) ∧ Below w.heap.size w w' := by
 have hu26 := Try.underlying26
 have HB := zA (Below.refl w.heap.size w)
 have H : ((spec_l1Abs.f a0_0).bind fun t648 => ((spec_l1Abs.f a1_0).bind fun t649 => ((spec_l1Quot.f k t648 t649 (wrap64 ((wrap64 (a0_1 - a1_1)) + a2))).bind fun bt650 => (if bt650.2 = true then (if ((decide (a0_0 < 0)) != (decide (a1_0 < 0))) = true then ((spec_l1New.f k (wrap64 (-bt650.1)) (wrap64 (-a2))).bind fun bt652 => (some (bt652.1, bt652.2.1, bt652.2.2))) else ((spec_l1New.f k bt650.1 (wrap64 (-a2))).bind fun bt655 => (some (bt655.1, bt655.2.1, bt655.2.2)))) else (some (0, 0, false)))))) = some (r1, r2, r3) := h
 clear h
 replace H := Option.bind_eq_some_iff.mp H
 obtain ⟨t648, A40, H⟩ := H
 replace H : ((spec_l1Abs.f a1_0).bind fun t649 => ((spec_l1Quot.f k t648 t649 (wrap64 ((wrap64 (a0_1 - a1_1)) + a2))).bind fun bt650 => (if bt650.2 = true then (if ((decide (a0_0 < 0)) != (decide (a1_0 < 0))) = true then ((spec_l1New.f k (wrap64 (-bt650.1)) (wrap64 (-a2))).bind fun bt652 => (some (bt652.1, bt652.2.1, bt652.2.2))) else ((spec_l1New.f k bt650.1 (wrap64 (-a2))).bind fun bt655 => (some (bt655.1, bt655.2.1, bt655.2.2)))) else (some (0, 0, false))))) = some (r1, r2, r3) := H
 have A4 := zA A40
 clear A40
 replace H := Option.bind_eq_some_iff.mp H
 obtain ⟨t649, A50, H⟩ := H
 replace H : ((spec_l1Quot.f k t648 t649 (wrap64 ((wrap64 (a0_1 - a1_1)) + a2))).bind fun bt650 => (if bt650.2 = true then (if ((decide (a0_0 < 0)) != (decide (a1_0 < 0))) = true then ((spec_l1New.f k (wrap64 (-bt650.1)) (wrap64 (-a2))).bind fun bt652 => (some (bt652.1, bt652.2.1, bt652.2.2))) else ((spec_l1New.f k bt650.1 (wrap64 (-a2))).bind fun bt655 => (some (bt655.1, bt655.2.1, bt655.2.2)))) else (some (0, 0, false)))) = some (r1, r2, r3) := H
 have A5 := zA A50
 clear A50
 replace H := Option.bind_eq_some_iff.mp H
 obtain ⟨⟨t650, t651⟩, A60, H⟩ := H
 replace H : (if t651 = true then (if ((decide (a0_0 < 0)) != (decide (a1_0 < 0))) = true then ((spec_l1New.f k (wrap64 (-t650)) (wrap64 (-a2))).bind fun bt652 => (some (bt652.1, bt652.2.1, bt652.2.2))) else ((spec_l1New.f k t650 (wrap64 (-a2))).bind fun bt655 => (some (bt655.1, bt655.2.1, bt655.2.2)))) else (some (0, 0, false))) = some (r1, r2, r3) := H
 have A6 := zA A60
 clear A60
 by_cases c7 : t651 = true
 ·subst c7
  have H1 : (if ((decide (a0_0 < 0)) != (decide (a1_0 < 0))) = true then ((spec_l1New.f k (wrap64 (-t650)) (wrap64 (-a2))).bind fun bt652 => (some (bt652.1, bt652.2.1, bt652.2.2))) else ((spec_l1New.f k t650 (wrap64 (-a2))).bind fun bt655 => (some (bt655.1, bt655.2.1, bt655.2.2)))) = some (r1, r2, r3) := by rw [if_pos rfl] at H; exact H
  clear H
  have H := H1
  clear H1
  by_cases c8 : ((decide (a0_0 < 0)) != (decide (a1_0 < 0))) = true
  ·rw [if_pos c8] at H
   have c8b0 : ((decide (a0_0 < 0)) != (decide (a1_0 < 0))) = true := c8
   (try (have c8b1 : decide ((decide (a0_0 < 0)) = (decide (a1_0 < 0))) = false := by simpa using c8))
   (try (have c8b2 : ((decide (a0_0 < 0)) == (decide (a1_0 < 0))) = false := by simpa using c8))
   (try (have c8b3 : ¬ ((decide (a0_0 < 0)) = (decide (a1_0 < 0))) := by simpa using c8))
   clear c8
   replace H := Option.bind_eq_some_iff.mp H
   obtain ⟨⟨t652, t653, t654⟩, A90, H⟩ := H
   replace H : (some (t652, t653, t654)) = some (r1, r2, r3) := H
   have A9 := zA A90
   clear A90
   simp only [Option.some.injEq, Prod.mk.injEq] at H
   obtain ⟨rfl, rfl, rfl⟩ := H
   go_enter Try.func64, Try.ntmps64
   go_wp2_with (first | ((with_reducible refine zS (N := 3) rfl ?_); refine zV ?hg (N := 3) ?hd (cs := #[.int .i64 a0_0, .int .i64 a0_1]) (t := 26) ?hr ?_; (case hd => rfl); (case hg => rfl); (case hr => first | (go_simp; done) | (go_simp; rfl)); intro gb645 hg w10 hbox hb; have n0_ := zA (zQ (by repeat (first | (with_reducible first | exact HB.out | apply zG | apply zE | apply zF) | exact HB.out)) hb); have n1_ := zA (hbox); have n2_ := zA ((by rw [hg]; exact (zR (by repeat (first | (with_reducible first | exact HB.out | apply zG | apply zE | apply zF) | exact HB.out))) : w.heap.size ≤ gb645)); have n3_ := zA ((by rw [hg]; exact (zR (by repeat (first | (with_reducible first | exact HB.out | apply zG | apply zE | apply zF) | exact HB.out))) : w.heap.size ≤ gb645)); clear HB; have HB := n0_; have BK645 := n1_; have GW645 := n2_; have GE645 := n3_; clear n0_ n1_ n2_ n3_; clear hb hbox hg) | ((with_reducible refine zS (N := 4) rfl ?_); refine zV ?hg (N := 4) ?hd (cs := #[.int .i64 a1_0, .int .i64 a1_1]) (t := 26) ?hr ?_; (case hd => rfl); (case hg => rfl); (case hr => first | (go_simp; done) | (go_simp; rfl)); intro gb646 hg w11 hbox hb; have n0_ := zA (zP (g := gb645) (o := .cells #[.int .i64 a0_0, .int .i64 a0_1] 26 (0, 0)) (by (with_reducible repeat (first | refine zB ?_ _ | refine zD ?_ | refine zC ?_ _)); exact BK645.out) hb); have n1_ := zA (zQ (by repeat (first | (with_reducible first | exact HB.out | apply zG | apply zE | apply zF | refine zH ?_ GE645.out) | exact HB.out)) hb); have n2_ := zA (hbox); have n3_ := zA ((by rw [hg]; exact (zR (by repeat (first | (with_reducible first | exact HB.out | apply zG | apply zE | apply zF | refine zH ?_ GE645.out) | exact HB.out))) : w.heap.size ≤ gb646)); have n4_ := zA ((by rw [hg]; exact (zR (by repeat (first | (with_reducible first | exact HB.out | apply zG | apply zE | apply zF | refine zH ?_ GE645.out) | exact HB.out))) : w.heap.size ≤ gb646)); have n5_ := zA ((by rw [hg]; exact Nat.ne_of_lt (blk_lt (g := gb645) (o := .cells #[.int .i64 a0_0, .int .i64 a0_1] 26 (0, 0)) (by (with_reducible repeat (first | refine zB ?_ _ | refine zD ?_ | refine zC ?_ _)); exact BK645.out)) : gb645 ≠ gb646)); have n6_ := zA ((by rw [hg]; exact Nat.ne_of_gt (blk_lt (g := gb645) (o := .cells #[.int .i64 a0_0, .int .i64 a0_1] 26 (0, 0)) (by (with_reducible repeat (first | refine zB ?_ _ | refine zD ?_ | refine zC ?_ _)); exact BK645.out)) : gb646 ≠ gb645)); clear BK645; clear HB; have BK645 := n0_; have HB := n1_; have BK646 := n2_; have GW646 := n3_; have GE646 := n4_; have NB645_646 := n5_; have NB646_645 := n6_; clear n0_ n1_ n2_ n3_ n4_ n5_ n6_; clear hb hbox hg) | ((with_reducible refine zS (N := 6) rfl ?_); refine zV ?hg (N := 6) ?hd (cs := #[.int .i64 0, .int .i64 0]) (t := 26) ?hr ?_; (case hd => rfl); (case hg => rfl); (case hr => first | (go_simp; done) | (go_simp; rfl)); intro gb647 hg w12 hbox hb; have n0_ := zA (zP (g := gb645) (o := .cells #[.int .i64 a0_0, .int .i64 a0_1] 26 (0, 0)) (by (with_reducible repeat (first | refine zB ?_ _ | refine zD ?_ | refine zC ?_ _)); exact BK645.out) hb); have n1_ := zA (zP (g := gb646) (o := .cells #[.int .i64 a1_0, .int .i64 a1_1] 26 (0, 0)) (by (with_reducible repeat (first | refine zB ?_ _ | refine zD ?_ | refine zC ?_ _)); exact BK646.out) hb); have n2_ := zA (zQ (by repeat (first | (with_reducible first | exact HB.out | apply zG | apply zE | apply zF | refine zH ?_ GE645.out | refine zH ?_ GE646.out) | exact HB.out)) hb); have n3_ := zA (hbox); have n4_ := zA ((by rw [hg]; exact (zR (by repeat (first | (with_reducible first | exact HB.out | apply zG | apply zE | apply zF | refine zH ?_ GE645.out | refine zH ?_ GE646.out) | exact HB.out))) : w.heap.size ≤ gb647)); have n5_ := zA ((by rw [hg]; exact (zR (by repeat (first | (with_reducible first | exact HB.out | apply zG | apply zE | apply zF | refine zH ?_ GE645.out | refine zH ?_ GE646.out) | exact HB.out))) : w.heap.size ≤ gb647)); have n6_ := zA ((by rw [hg]; exact Nat.ne_of_lt (blk_lt (g := gb645) (o := .cells #[.int .i64 a0_0, .int .i64 a0_1] 26 (0, 0)) (by (with_reducible repeat (first | refine zB ?_ _ | refine zD ?_ | refine zC ?_ _)); exact BK645.out)) : gb645 ≠ gb647)); have n7_ := zA ((by rw [hg]; exact Nat.ne_of_gt (blk_lt (g := gb645) (o := .cells #[.int .i64 a0_0, .int .i64 a0_1] 26 (0, 0)) (by (with_reducible repeat (first | refine zB ?_ _ | refine zD ?_ | refine zC ?_ _)); exact BK645.out)) : gb647 ≠ gb645)); have n8_ := zA ((by rw [hg]; exact Nat.ne_of_lt (blk_lt (g := gb646) (o := .cells #[.int .i64 a1_0, .int .i64 a1_1] 26 (0, 0)) (by (with_reducible repeat (first | refine zB ?_ _ | refine zD ?_ | refine zC ?_ _)); exact BK646.out)) : gb646 ≠ gb647)); have n9_ := zA ((by rw [hg]; exact Nat.ne_of_gt (blk_lt (g := gb646) (o := .cells #[.int .i64 a1_0, .int .i64 a1_1] 26 (0, 0)) (by (with_reducible repeat (first | refine zB ?_ _ | refine zD ?_ | refine zC ?_ _)); exact BK646.out)) : gb647 ≠ gb646)); clear BK645; clear BK646; clear HB; have BK645 := n0_; have BK646 := n1_; have HB := n2_; have BK647 := n3_; have GW647 := n4_; have GE647 := n5_; have NB645_647 := n6_; have NB647_645 := n7_; have NB646_647 := n8_; have NB647_646 := n9_; clear n0_ n1_ n2_ n3_ n4_ n5_ n6_ n7_ n8_ n9_; clear hb hbox hg; have hnb13 := NB645_646.out; have hnc13 := NB646_645.out; have hnb14 := NB645_647.out; have hnc14 := NB647_645.out; have hcz15_0 : w12.cell? ⟨gb645, 0, none⟩ = some (.int .i64 a0_0) := (zJ BK645.out 0).trans rfl; have hcz15_1 : w12.cell? ⟨gb645, 1, none⟩ = some (.int .i64 a0_1) := (zJ BK645.out 1).trans rfl; have hfz15_0 := zK BK645.out 0; have hfz15_1 := zK BK645.out 1; have hnb16 := NB646_647.out; have hnc16 := NB647_646.out; have hcz17_0 : w12.cell? ⟨gb646, 0, none⟩ = some (.int .i64 a1_0) := (zJ BK646.out 0).trans rfl; have hcz17_1 : w12.cell? ⟨gb646, 1, none⟩ = some (.int .i64 a1_1) := (zJ BK646.out 1).trans rfl; have hfz17_0 := zK BK646.out 0; have hfz17_1 := zK BK646.out 1) | (go_at_call 73; (with_reducible refine (spec_l1Abs.calls a0_0 t648 _ A4.out).mono ?_); rintro e w' ⟨rfl, ⟨nd, rfl⟩⟩; (try first | exact ⟨rfl, _, World.drewN_drewN _ _ _⟩ | exact ⟨rfl, _, Eq.trans (World.drewN_drewN _ _ _) (congrArg (World.drewN _) (Nat.add_assoc _ _ _))⟩)) | (go_at_call 73; (with_reducible refine (spec_l1Abs.calls a1_0 t649 _ A5.out).mono ?_); rintro e w' ⟨rfl, ⟨nd, rfl⟩⟩; (try first | exact ⟨rfl, _, World.drewN_drewN _ _ _⟩ | exact ⟨rfl, _, Eq.trans (World.drewN_drewN _ _ _) (congrArg (World.drewN _) (Nat.add_assoc _ _ _))⟩)) | (go_at_call 74; (with_reducible refine (spec_l1Quot.calls k t648 t649 (wrap64 ((wrap64 (a0_1 - a1_1)) + a2)) t650 true _ A6.out).mono ?_); rintro e w' ⟨rfl, ⟨nd, rfl⟩⟩; (try first | exact ⟨rfl, _, World.drewN_drewN _ _ _⟩ | exact ⟨rfl, _, Eq.trans (World.drewN_drewN _ _ _) (congrArg (World.drewN _) (Nat.add_assoc _ _ _))⟩)) | (go_at_call 49; (with_reducible refine (spec_l1New.calls k (wrap64 (-t650)) (wrap64 (-a2)) t652 t653 t654 _ A9.out).mono ?_); rintro e w18 ⟨rfl, hb⟩; have n0_ := zA (zP (g := gb645) (o := .cells #[.int .i64 a0_0, .int .i64 a0_1] 26 (0, 0)) (by (with_reducible repeat (first | refine zB ?_ _ | refine zD ?_ | refine zC ?_ _)); exact BK645.out) hb); have n1_ := zA (zP (g := gb646) (o := .cells #[.int .i64 a1_0, .int .i64 a1_1] 26 (0, 0)) (by (with_reducible repeat (first | refine zB ?_ _ | refine zD ?_ | refine zC ?_ _)); exact BK646.out) hb); have n2_ := zA (zP (g := gb647) (o := .cells #[.int .i64 0, .int .i64 0] 26 (0, 0)) (by (with_reducible repeat (first | refine zB ?_ _ | refine zD ?_ | refine zC ?_ _)); exact BK647.out) hb); have n3_ := zA (zQ (by repeat (first | (with_reducible first | exact HB.out | apply zG | apply zE | apply zF | refine zH ?_ GE645.out | refine zH ?_ GE646.out | refine zH ?_ GE647.out) | exact HB.out)) hb); clear BK645; clear BK646; clear BK647; clear HB; have BK645 := n0_; have BK646 := n1_; have BK647 := n2_; have HB := n3_; clear n0_ n1_ n2_ n3_; (try clear hb); (try clear hb2); (try clear hk); (try clear hi); have hcz19_0 : w18.cell? ⟨gb647, 0, none⟩ = some (.int .i64 0) := (zJ BK647.out 0).trans rfl; have hcz19_1 : w18.cell? ⟨gb647, 1, none⟩ = some (.int .i64 0) := (zJ BK647.out 1).trans rfl; have hfz19_0 := zK BK647.out 0; have hfz19_1 := zK BK647.out 1))
   repeat (go_quiet (first | ((with_reducible refine zS (N := 3) rfl ?_); refine zV ?hg (N := 3) ?hd (cs := #[.int .i64 a0_0, .int .i64 a0_1]) (t := 26) ?hr ?_; (case hd => rfl); (case hg => rfl); (case hr => first | (go_simp; done) | (go_simp; rfl)); intro gb645 hg w10 hbox hb; have n0_ := zA (zQ (by repeat (first | (with_reducible first | exact HB.out | apply zG | apply zE | apply zF) | exact HB.out)) hb); have n1_ := zA (hbox); have n2_ := zA ((by rw [hg]; exact (zR (by repeat (first | (with_reducible first | exact HB.out | apply zG | apply zE | apply zF) | exact HB.out))) : w.heap.size ≤ gb645)); have n3_ := zA ((by rw [hg]; exact (zR (by repeat (first | (with_reducible first | exact HB.out | apply zG | apply zE | apply zF) | exact HB.out))) : w.heap.size ≤ gb645)); clear HB; have HB := n0_; have BK645 := n1_; have GW645 := n2_; have GE645 := n3_; clear n0_ n1_ n2_ n3_; clear hb hbox hg) | ((with_reducible refine zS (N := 4) rfl ?_); refine zV ?hg (N := 4) ?hd (cs := #[.int .i64 a1_0, .int .i64 a1_1]) (t := 26) ?hr ?_; (case hd => rfl); (case hg => rfl); (case hr => first | (go_simp; done) | (go_simp; rfl)); intro gb646 hg w11 hbox hb; have n0_ := zA (zP (g := gb645) (o := .cells #[.int .i64 a0_0, .int .i64 a0_1] 26 (0, 0)) (by (with_reducible repeat (first | refine zB ?_ _ | refine zD ?_ | refine zC ?_ _)); exact BK645.out) hb); have n1_ := zA (zQ (by repeat (first | (with_reducible first | exact HB.out | apply zG | apply zE | apply zF | refine zH ?_ GE645.out) | exact HB.out)) hb); have n2_ := zA (hbox); have n3_ := zA ((by rw [hg]; exact (zR (by repeat (first | (with_reducible first | exact HB.out | apply zG | apply zE | apply zF | refine zH ?_ GE645.out) | exact HB.out))) : w.heap.size ≤ gb646)); have n4_ := zA ((by rw [hg]; exact (zR (by repeat (first | (with_reducible first | exact HB.out | apply zG | apply zE | apply zF | refine zH ?_ GE645.out) | exact HB.out))) : w.heap.size ≤ gb646)); have n5_ := zA ((by rw [hg]; exact Nat.ne_of_lt (blk_lt (g := gb645) (o := .cells #[.int .i64 a0_0, .int .i64 a0_1] 26 (0, 0)) (by (with_reducible repeat (first | refine zB ?_ _ | refine zD ?_ | refine zC ?_ _)); exact BK645.out)) : gb645 ≠ gb646)); have n6_ := zA ((by rw [hg]; exact Nat.ne_of_gt (blk_lt (g := gb645) (o := .cells #[.int .i64 a0_0, .int .i64 a0_1] 26 (0, 0)) (by (with_reducible repeat (first | refine zB ?_ _ | refine zD ?_ | refine zC ?_ _)); exact BK645.out)) : gb646 ≠ gb645)); clear BK645; clear HB; have BK645 := n0_; have HB := n1_; have BK646 := n2_; have GW646 := n3_; have GE646 := n4_; have NB645_646 := n5_; have NB646_645 := n6_; clear n0_ n1_ n2_ n3_ n4_ n5_ n6_; clear hb hbox hg) | ((with_reducible refine zS (N := 6) rfl ?_); refine zV ?hg (N := 6) ?hd (cs := #[.int .i64 0, .int .i64 0]) (t := 26) ?hr ?_; (case hd => rfl); (case hg => rfl); (case hr => first | (go_simp; done) | (go_simp; rfl)); intro gb647 hg w12 hbox hb; have n0_ := zA (zP (g := gb645) (o := .cells #[.int .i64 a0_0, .int .i64 a0_1] 26 (0, 0)) (by (with_reducible repeat (first | refine zB ?_ _ | refine zD ?_ | refine zC ?_ _)); exact BK645.out) hb); have n1_ := zA (zP (g := gb646) (o := .cells #[.int .i64 a1_0, .int .i64 a1_1] 26 (0, 0)) (by (with_reducible repeat (first | refine zB ?_ _ | refine zD ?_ | refine zC ?_ _)); exact BK646.out) hb); have n2_ := zA (zQ (by repeat (first | (with_reducible first | exact HB.out | apply zG | apply zE | apply zF | refine zH ?_ GE645.out | refine zH ?_ GE646.out) | exact HB.out)) hb); have n3_ := zA (hbox); have n4_ := zA ((by rw [hg]; exact (zR (by repeat (first | (with_reducible first | exact HB.out | apply zG | apply zE | apply zF | refine zH ?_ GE645.out | refine zH ?_ GE646.out) | exact HB.out))) : w.heap.size ≤ gb647)); have n5_ := zA ((by rw [hg]; exact (zR (by repeat (first | (with_reducible first | exact HB.out | apply zG | apply zE | apply zF | refine zH ?_ GE645.out | refine zH ?_ GE646.out) | exact HB.out))) : w.heap.size ≤ gb647)); have n6_ := zA ((by rw [hg]; exact Nat.ne_of_lt (blk_lt (g := gb645) (o := .cells #[.int .i64 a0_0, .int .i64 a0_1] 26 (0, 0)) (by (with_reducible repeat (first | refine zB ?_ _ | refine zD ?_ | refine zC ?_ _)); exact BK645.out)) : gb645 ≠ gb647)); have n7_ := zA ((by rw [hg]; exact Nat.ne_of_gt (blk_lt (g := gb645) (o := .cells #[.int .i64 a0_0, .int .i64 a0_1] 26 (0, 0)) (by (with_reducible repeat (first | refine zB ?_ _ | refine zD ?_ | refine zC ?_ _)); exact BK645.out)) : gb647 ≠ gb645)); have n8_ := zA ((by rw [hg]; exact Nat.ne_of_lt (blk_lt (g := gb646) (o := .cells #[.int .i64 a1_0, .int .i64 a1_1] 26 (0, 0)) (by (with_reducible repeat (first | refine zB ?_ _ | refine zD ?_ | refine zC ?_ _)); exact BK646.out)) : gb646 ≠ gb647)); have n9_ := zA ((by rw [hg]; exact Nat.ne_of_gt (blk_lt (g := gb646) (o := .cells #[.int .i64 a1_0, .int .i64 a1_1] 26 (0, 0)) (by (with_reducible repeat (first | refine zB ?_ _ | refine zD ?_ | refine zC ?_ _)); exact BK646.out)) : gb647 ≠ gb646)); clear BK645; clear BK646; clear HB; have BK645 := n0_; have BK646 := n1_; have HB := n2_; have BK647 := n3_; have GW647 := n4_; have GE647 := n5_; have NB645_647 := n6_; have NB647_645 := n7_; have NB646_647 := n8_; have NB647_646 := n9_; clear n0_ n1_ n2_ n3_ n4_ n5_ n6_ n7_ n8_ n9_; clear hb hbox hg; have hnb13 := NB645_646.out; have hnc13 := NB646_645.out; have hnb14 := NB645_647.out; have hnc14 := NB647_645.out; have hcz15_0 : w12.cell? ⟨gb645, 0, none⟩ = some (.int .i64 a0_0) := (zJ BK645.out 0).trans rfl; have hcz15_1 : w12.cell? ⟨gb645, 1, none⟩ = some (.int .i64 a0_1) := (zJ BK645.out 1).trans rfl; have hfz15_0 := zK BK645.out 0; have hfz15_1 := zK BK645.out 1; have hnb16 := NB646_647.out; have hnc16 := NB647_646.out; have hcz17_0 : w12.cell? ⟨gb646, 0, none⟩ = some (.int .i64 a1_0) := (zJ BK646.out 0).trans rfl; have hcz17_1 : w12.cell? ⟨gb646, 1, none⟩ = some (.int .i64 a1_1) := (zJ BK646.out 1).trans rfl; have hfz17_0 := zK BK646.out 0; have hfz17_1 := zK BK646.out 1) | (go_at_call 73; (with_reducible refine (spec_l1Abs.calls a0_0 t648 _ A4.out).mono ?_); rintro e w' ⟨rfl, ⟨nd, rfl⟩⟩; (try first | exact ⟨rfl, _, World.drewN_drewN _ _ _⟩ | exact ⟨rfl, _, Eq.trans (World.drewN_drewN _ _ _) (congrArg (World.drewN _) (Nat.add_assoc _ _ _))⟩)) | (go_at_call 73; (with_reducible refine (spec_l1Abs.calls a1_0 t649 _ A5.out).mono ?_); rintro e w' ⟨rfl, ⟨nd, rfl⟩⟩; (try first | exact ⟨rfl, _, World.drewN_drewN _ _ _⟩ | exact ⟨rfl, _, Eq.trans (World.drewN_drewN _ _ _) (congrArg (World.drewN _) (Nat.add_assoc _ _ _))⟩)) | (go_at_call 74; (with_reducible refine (spec_l1Quot.calls k t648 t649 (wrap64 ((wrap64 (a0_1 - a1_1)) + a2)) t650 true _ A6.out).mono ?_); rintro e w' ⟨rfl, ⟨nd, rfl⟩⟩; (try first | exact ⟨rfl, _, World.drewN_drewN _ _ _⟩ | exact ⟨rfl, _, Eq.trans (World.drewN_drewN _ _ _) (congrArg (World.drewN _) (Nat.add_assoc _ _ _))⟩)) | (go_at_call 49; (with_reducible refine (spec_l1New.calls k (wrap64 (-t650)) (wrap64 (-a2)) t652 t653 t654 _ A9.out).mono ?_); rintro e w18 ⟨rfl, hb⟩; have n0_ := zA (zP (g := gb645) (o := .cells #[.int .i64 a0_0, .int .i64 a0_1] 26 (0, 0)) (by (with_reducible repeat (first | refine zB ?_ _ | refine zD ?_ | refine zC ?_ _)); exact BK645.out) hb); have n1_ := zA (zP (g := gb646) (o := .cells #[.int .i64 a1_0, .int .i64 a1_1] 26 (0, 0)) (by (with_reducible repeat (first | refine zB ?_ _ | refine zD ?_ | refine zC ?_ _)); exact BK646.out) hb); have n2_ := zA (zP (g := gb647) (o := .cells #[.int .i64 0, .int .i64 0] 26 (0, 0)) (by (with_reducible repeat (first | refine zB ?_ _ | refine zD ?_ | refine zC ?_ _)); exact BK647.out) hb); have n3_ := zA (zQ (by repeat (first | (with_reducible first | exact HB.out | apply zG | apply zE | apply zF | refine zH ?_ GE645.out | refine zH ?_ GE646.out | refine zH ?_ GE647.out) | exact HB.out)) hb); clear BK645; clear BK646; clear BK647; clear HB; have BK645 := n0_; have BK646 := n1_; have BK647 := n2_; have HB := n3_; clear n0_ n1_ n2_ n3_; (try clear hb); (try clear hb2); (try clear hk); (try clear hi); have hcz19_0 : w18.cell? ⟨gb647, 0, none⟩ = some (.int .i64 0) := (zJ BK647.out 0).trans rfl; have hcz19_1 : w18.cell? ⟨gb647, 1, none⟩ = some (.int .i64 0) := (zJ BK647.out 1).trans rfl; have hfz19_0 := zK BK647.out 0; have hfz19_1 := zK BK647.out 1)); try go_wp2_with (first | ((with_reducible refine zS (N := 3) rfl ?_); refine zV ?hg (N := 3) ?hd (cs := #[.int .i64 a0_0, .int .i64 a0_1]) (t := 26) ?hr ?_; (case hd => rfl); (case hg => rfl); (case hr => first | (go_simp; done) | (go_simp; rfl)); intro gb645 hg w10 hbox hb; have n0_ := zA (zQ (by repeat (first | (with_reducible first | exact HB.out | apply zG | apply zE | apply zF) | exact HB.out)) hb); have n1_ := zA (hbox); have n2_ := zA ((by rw [hg]; exact (zR (by repeat (first | (with_reducible first | exact HB.out | apply zG | apply zE | apply zF) | exact HB.out))) : w.heap.size ≤ gb645)); have n3_ := zA ((by rw [hg]; exact (zR (by repeat (first | (with_reducible first | exact HB.out | apply zG | apply zE | apply zF) | exact HB.out))) : w.heap.size ≤ gb645)); clear HB; have HB := n0_; have BK645 := n1_; have GW645 := n2_; have GE645 := n3_; clear n0_ n1_ n2_ n3_; clear hb hbox hg) | ((with_reducible refine zS (N := 4) rfl ?_); refine zV ?hg (N := 4) ?hd (cs := #[.int .i64 a1_0, .int .i64 a1_1]) (t := 26) ?hr ?_; (case hd => rfl); (case hg => rfl); (case hr => first | (go_simp; done) | (go_simp; rfl)); intro gb646 hg w11 hbox hb; have n0_ := zA (zP (g := gb645) (o := .cells #[.int .i64 a0_0, .int .i64 a0_1] 26 (0, 0)) (by (with_reducible repeat (first | refine zB ?_ _ | refine zD ?_ | refine zC ?_ _)); exact BK645.out) hb); have n1_ := zA (zQ (by repeat (first | (with_reducible first | exact HB.out | apply zG | apply zE | apply zF | refine zH ?_ GE645.out) | exact HB.out)) hb); have n2_ := zA (hbox); have n3_ := zA ((by rw [hg]; exact (zR (by repeat (first | (with_reducible first | exact HB.out | apply zG | apply zE | apply zF | refine zH ?_ GE645.out) | exact HB.out))) : w.heap.size ≤ gb646)); have n4_ := zA ((by rw [hg]; exact (zR (by repeat (first | (with_reducible first | exact HB.out | apply zG | apply zE | apply zF | refine zH ?_ GE645.out) | exact HB.out))) : w.heap.size ≤ gb646)); have n5_ := zA ((by rw [hg]; exact Nat.ne_of_lt (blk_lt (g := gb645) (o := .cells #[.int .i64 a0_0, .int .i64 a0_1] 26 (0, 0)) (by (with_reducible repeat (first | refine zB ?_ _ | refine zD ?_ | refine zC ?_ _)); exact BK645.out)) : gb645 ≠ gb646)); have n6_ := zA ((by rw [hg]; exact Nat.ne_of_gt (blk_lt (g := gb645) (o := .cells #[.int .i64 a0_0, .int .i64 a0_1] 26 (0, 0)) (by (with_reducible repeat (first | refine zB ?_ _ | refine zD ?_ | refine zC ?_ _)); exact BK645.out)) : gb646 ≠ gb645)); clear BK645; clear HB; have BK645 := n0_; have HB := n1_; have BK646 := n2_; have GW646 := n3_; have GE646 := n4_; have NB645_646 := n5_; have NB646_645 := n6_; clear n0_ n1_ n2_ n3_ n4_ n5_ n6_; clear hb hbox hg) | ((with_reducible refine zS (N := 6) rfl ?_); refine zV ?hg (N := 6) ?hd (cs := #[.int .i64 0, .int .i64 0]) (t := 26) ?hr ?_; (case hd => rfl); (case hg => rfl); (case hr => first | (go_simp; done) | (go_simp; rfl)); intro gb647 hg w12 hbox hb; have n0_ := zA (zP (g := gb645) (o := .cells #[.int .i64 a0_0, .int .i64 a0_1] 26 (0, 0)) (by (with_reducible repeat (first | refine zB ?_ _ | refine zD ?_ | refine zC ?_ _)); exact BK645.out) hb); have n1_ := zA (zP (g := gb646) (o := .cells #[.int .i64 a1_0, .int .i64 a1_1] 26 (0, 0)) (by (with_reducible repeat (first | refine zB ?_ _ | refine zD ?_ | refine zC ?_ _)); exact BK646.out) hb); have n2_ := zA (zQ (by repeat (first | (with_reducible first | exact HB.out | apply zG | apply zE | apply zF | refine zH ?_ GE645.out | refine zH ?_ GE646.out) | exact HB.out)) hb); have n3_ := zA (hbox); have n4_ := zA ((by rw [hg]; exact (zR (by repeat (first | (with_reducible first | exact HB.out | apply zG | apply zE | apply zF | refine zH ?_ GE645.out | refine zH ?_ GE646.out) | exact HB.out))) : w.heap.size ≤ gb647)); have n5_ := zA ((by rw [hg]; exact (zR (by repeat (first | (with_reducible first | exact HB.out | apply zG | apply zE | apply zF | refine zH ?_ GE645.out | refine zH ?_ GE646.out) | exact HB.out))) : w.heap.size ≤ gb647)); have n6_ := zA ((by rw [hg]; exact Nat.ne_of_lt (blk_lt (g := gb645) (o := .cells #[.int .i64 a0_0, .int .i64 a0_1] 26 (0, 0)) (by (with_reducible repeat (first | refine zB ?_ _ | refine zD ?_ | refine zC ?_ _)); exact BK645.out)) : gb645 ≠ gb647)); have n7_ := zA ((by rw [hg]; exact Nat.ne_of_gt (blk_lt (g := gb645) (o := .cells #[.int .i64 a0_0, .int .i64 a0_1] 26 (0, 0)) (by (with_reducible repeat (first | refine zB ?_ _ | refine zD ?_ | refine zC ?_ _)); exact BK645.out)) : gb647 ≠ gb645)); have n8_ := zA ((by rw [hg]; exact Nat.ne_of_lt (blk_lt (g := gb646) (o := .cells #[.int .i64 a1_0, .int .i64 a1_1] 26 (0, 0)) (by (with_reducible repeat (first | refine zB ?_ _ | refine zD ?_ | refine zC ?_ _)); exact BK646.out)) : gb646 ≠ gb647)); have n9_ := zA ((by rw [hg]; exact Nat.ne_of_gt (blk_lt (g := gb646) (o := .cells #[.int .i64 a1_0, .int .i64 a1_1] 26 (0, 0)) (by (with_reducible repeat (first | refine zB ?_ _ | refine zD ?_ | refine zC ?_ _)); exact BK646.out)) : gb647 ≠ gb646)); clear BK645; clear BK646; clear HB; have BK645 := n0_; have BK646 := n1_; have HB := n2_; have BK647 := n3_; have GW647 := n4_; have GE647 := n5_; have NB645_647 := n6_; have NB647_645 := n7_; have NB646_647 := n8_; have NB647_646 := n9_; clear n0_ n1_ n2_ n3_ n4_ n5_ n6_ n7_ n8_ n9_; clear hb hbox hg; have hnb13 := NB645_646.out; have hnc13 := NB646_645.out; have hnb14 := NB645_647.out; have hnc14 := NB647_645.out; have hcz15_0 : w12.cell? ⟨gb645, 0, none⟩ = some (.int .i64 a0_0) := (zJ BK645.out 0).trans rfl; have hcz15_1 : w12.cell? ⟨gb645, 1, none⟩ = some (.int .i64 a0_1) := (zJ BK645.out 1).trans rfl; have hfz15_0 := zK BK645.out 0; have hfz15_1 := zK BK645.out 1; have hnb16 := NB646_647.out; have hnc16 := NB647_646.out; have hcz17_0 : w12.cell? ⟨gb646, 0, none⟩ = some (.int .i64 a1_0) := (zJ BK646.out 0).trans rfl; have hcz17_1 : w12.cell? ⟨gb646, 1, none⟩ = some (.int .i64 a1_1) := (zJ BK646.out 1).trans rfl; have hfz17_0 := zK BK646.out 0; have hfz17_1 := zK BK646.out 1) | (go_at_call 73; (with_reducible refine (spec_l1Abs.calls a0_0 t648 _ A4.out).mono ?_); rintro e w' ⟨rfl, ⟨nd, rfl⟩⟩; (try first | exact ⟨rfl, _, World.drewN_drewN _ _ _⟩ | exact ⟨rfl, _, Eq.trans (World.drewN_drewN _ _ _) (congrArg (World.drewN _) (Nat.add_assoc _ _ _))⟩)) | (go_at_call 73; (with_reducible refine (spec_l1Abs.calls a1_0 t649 _ A5.out).mono ?_); rintro e w' ⟨rfl, ⟨nd, rfl⟩⟩; (try first | exact ⟨rfl, _, World.drewN_drewN _ _ _⟩ | exact ⟨rfl, _, Eq.trans (World.drewN_drewN _ _ _) (congrArg (World.drewN _) (Nat.add_assoc _ _ _))⟩)) | (go_at_call 74; (with_reducible refine (spec_l1Quot.calls k t648 t649 (wrap64 ((wrap64 (a0_1 - a1_1)) + a2)) t650 true _ A6.out).mono ?_); rintro e w' ⟨rfl, ⟨nd, rfl⟩⟩; (try first | exact ⟨rfl, _, World.drewN_drewN _ _ _⟩ | exact ⟨rfl, _, Eq.trans (World.drewN_drewN _ _ _) (congrArg (World.drewN _) (Nat.add_assoc _ _ _))⟩)) | (go_at_call 49; (with_reducible refine (spec_l1New.calls k (wrap64 (-t650)) (wrap64 (-a2)) t652 t653 t654 _ A9.out).mono ?_); rintro e w18 ⟨rfl, hb⟩; have n0_ := zA (zP (g := gb645) (o := .cells #[.int .i64 a0_0, .int .i64 a0_1] 26 (0, 0)) (by (with_reducible repeat (first | refine zB ?_ _ | refine zD ?_ | refine zC ?_ _)); exact BK645.out) hb); have n1_ := zA (zP (g := gb646) (o := .cells #[.int .i64 a1_0, .int .i64 a1_1] 26 (0, 0)) (by (with_reducible repeat (first | refine zB ?_ _ | refine zD ?_ | refine zC ?_ _)); exact BK646.out) hb); have n2_ := zA (zP (g := gb647) (o := .cells #[.int .i64 0, .int .i64 0] 26 (0, 0)) (by (with_reducible repeat (first | refine zB ?_ _ | refine zD ?_ | refine zC ?_ _)); exact BK647.out) hb); have n3_ := zA (zQ (by repeat (first | (with_reducible first | exact HB.out | apply zG | apply zE | apply zF | refine zH ?_ GE645.out | refine zH ?_ GE646.out | refine zH ?_ GE647.out) | exact HB.out)) hb); clear BK645; clear BK646; clear BK647; clear HB; have BK645 := n0_; have BK646 := n1_; have BK647 := n2_; have HB := n3_; clear n0_ n1_ n2_ n3_; (try clear hb); (try clear hb2); (try clear hk); (try clear hi); have hcz19_0 : w18.cell? ⟨gb647, 0, none⟩ = some (.int .i64 0) := (zJ BK647.out 0).trans rfl; have hcz19_1 : w18.cell? ⟨gb647, 1, none⟩ = some (.int .i64 0) := (zJ BK647.out 1).trans rfl; have hfz19_0 := zK BK647.out 0; have hfz19_1 := zK BK647.out 1)))
   refine bodyPost_ret (results_ct rfl _ _ gb647 26 #[.int .i64 t652, .int .i64 t653] (0, 0) _ rfl (by (with_reducible repeat (first | refine zB ?_ _ | refine zD ?_ | refine zC ?_ _)); refine blk_put (cs := #[.int .i64 t652, .int .i64 0]) ?_ 1 _ rfl; (with_reducible repeat (first | refine zB ?_ _ | refine zD ?_ | refine zC ?_ _)); refine blk_put (cs := #[.int .i64 0, .int .i64 0]) ?_ 0 _ rfl; (with_reducible repeat (first | refine zB ?_ _ | refine zD ?_ | refine zC ?_ _)); exact BK647.out) Try.underlying26 rfl (by kernel_rfl)) rfl ?_
   exact ⟨by first | rfl | (simp [errW_none, errW_some] <;> rfl) | (simp [*, errW_none, errW_some] <;> rfl), by repeat (first | (with_reducible first | exact HB.out | apply zG | apply zE | apply zF | refine zH ?_ GE645.out | refine zH ?_ GE646.out | refine zH ?_ GE647.out) | exact HB.out)⟩
  ·rw [if_neg c8] at H
   have c8b0 : ((decide (a0_0 < 0)) != (decide (a1_0 < 0))) = false := by simpa using c8
   (try (have c8b1 : decide ((decide (a0_0 < 0)) = (decide (a1_0 < 0))) = true := by simpa using c8))
   (try (have c8b2 : ((decide (a0_0 < 0)) == (decide (a1_0 < 0))) = true := by simpa using c8))
   clear c8
   replace H := Option.bind_eq_some_iff.mp H
   obtain ⟨⟨t655, t656, t657⟩, A200, H⟩ := H
   replace H : (some (t655, t656, t657)) = some (r1, r2, r3) := H
   have A20 := zA A200
   clear A200
   simp only [Option.some.injEq, Prod.mk.injEq] at H
   obtain ⟨rfl, rfl, rfl⟩ := H
   go_enter Try.func64, Try.ntmps64
   go_wp2_with (first | ((with_reducible refine zS (N := 3) rfl ?_); refine zV ?hg (N := 3) ?hd (cs := #[.int .i64 a0_0, .int .i64 a0_1]) (t := 26) ?hr ?_; (case hd => rfl); (case hg => rfl); (case hr => first | (go_simp; done) | (go_simp; rfl)); intro gb645 hg w21 hbox hb; have n0_ := zA (zQ (by repeat (first | (with_reducible first | exact HB.out | apply zG | apply zE | apply zF) | exact HB.out)) hb); have n1_ := zA (hbox); have n2_ := zA ((by rw [hg]; exact (zR (by repeat (first | (with_reducible first | exact HB.out | apply zG | apply zE | apply zF) | exact HB.out))) : w.heap.size ≤ gb645)); have n3_ := zA ((by rw [hg]; exact (zR (by repeat (first | (with_reducible first | exact HB.out | apply zG | apply zE | apply zF) | exact HB.out))) : w.heap.size ≤ gb645)); clear HB; have HB := n0_; have BK645 := n1_; have GW645 := n2_; have GE645 := n3_; clear n0_ n1_ n2_ n3_; clear hb hbox hg) | ((with_reducible refine zS (N := 4) rfl ?_); refine zV ?hg (N := 4) ?hd (cs := #[.int .i64 a1_0, .int .i64 a1_1]) (t := 26) ?hr ?_; (case hd => rfl); (case hg => rfl); (case hr => first | (go_simp; done) | (go_simp; rfl)); intro gb646 hg w22 hbox hb; have n0_ := zA (zP (g := gb645) (o := .cells #[.int .i64 a0_0, .int .i64 a0_1] 26 (0, 0)) (by (with_reducible repeat (first | refine zB ?_ _ | refine zD ?_ | refine zC ?_ _)); exact BK645.out) hb); have n1_ := zA (zQ (by repeat (first | (with_reducible first | exact HB.out | apply zG | apply zE | apply zF | refine zH ?_ GE645.out) | exact HB.out)) hb); have n2_ := zA (hbox); have n3_ := zA ((by rw [hg]; exact (zR (by repeat (first | (with_reducible first | exact HB.out | apply zG | apply zE | apply zF | refine zH ?_ GE645.out) | exact HB.out))) : w.heap.size ≤ gb646)); have n4_ := zA ((by rw [hg]; exact (zR (by repeat (first | (with_reducible first | exact HB.out | apply zG | apply zE | apply zF | refine zH ?_ GE645.out) | exact HB.out))) : w.heap.size ≤ gb646)); have n5_ := zA ((by rw [hg]; exact Nat.ne_of_lt (blk_lt (g := gb645) (o := .cells #[.int .i64 a0_0, .int .i64 a0_1] 26 (0, 0)) (by (with_reducible repeat (first | refine zB ?_ _ | refine zD ?_ | refine zC ?_ _)); exact BK645.out)) : gb645 ≠ gb646)); have n6_ := zA ((by rw [hg]; exact Nat.ne_of_gt (blk_lt (g := gb645) (o := .cells #[.int .i64 a0_0, .int .i64 a0_1] 26 (0, 0)) (by (with_reducible repeat (first | refine zB ?_ _ | refine zD ?_ | refine zC ?_ _)); exact BK645.out)) : gb646 ≠ gb645)); clear BK645; clear HB; have BK645 := n0_; have HB := n1_; have BK646 := n2_; have GW646 := n3_; have GE646 := n4_; have NB645_646 := n5_; have NB646_645 := n6_; clear n0_ n1_ n2_ n3_ n4_ n5_ n6_; clear hb hbox hg) | ((with_reducible refine zS (N := 6) rfl ?_); refine zV ?hg (N := 6) ?hd (cs := #[.int .i64 0, .int .i64 0]) (t := 26) ?hr ?_; (case hd => rfl); (case hg => rfl); (case hr => first | (go_simp; done) | (go_simp; rfl)); intro gb647 hg w23 hbox hb; have n0_ := zA (zP (g := gb645) (o := .cells #[.int .i64 a0_0, .int .i64 a0_1] 26 (0, 0)) (by (with_reducible repeat (first | refine zB ?_ _ | refine zD ?_ | refine zC ?_ _)); exact BK645.out) hb); have n1_ := zA (zP (g := gb646) (o := .cells #[.int .i64 a1_0, .int .i64 a1_1] 26 (0, 0)) (by (with_reducible repeat (first | refine zB ?_ _ | refine zD ?_ | refine zC ?_ _)); exact BK646.out) hb); have n2_ := zA (zQ (by repeat (first | (with_reducible first | exact HB.out | apply zG | apply zE | apply zF | refine zH ?_ GE645.out | refine zH ?_ GE646.out) | exact HB.out)) hb); have n3_ := zA (hbox); have n4_ := zA ((by rw [hg]; exact (zR (by repeat (first | (with_reducible first | exact HB.out | apply zG | apply zE | apply zF | refine zH ?_ GE645.out | refine zH ?_ GE646.out) | exact HB.out))) : w.heap.size ≤ gb647)); have n5_ := zA ((by rw [hg]; exact (zR (by repeat (first | (with_reducible first | exact HB.out | apply zG | apply zE | apply zF | refine zH ?_ GE645.out | refine zH ?_ GE646.out) | exact HB.out))) : w.heap.size ≤ gb647)); have n6_ := zA ((by rw [hg]; exact Nat.ne_of_lt (blk_lt (g := gb645) (o := .cells #[.int .i64 a0_0, .int .i64 a0_1] 26 (0, 0)) (by (with_reducible repeat (first | refine zB ?_ _ | refine zD ?_ | refine zC ?_ _)); exact BK645.out)) : gb645 ≠ gb647)); have n7_ := zA ((by rw [hg]; exact Nat.ne_of_gt (blk_lt (g := gb645) (o := .cells #[.int .i64 a0_0, .int .i64 a0_1] 26 (0, 0)) (by (with_reducible repeat (first | refine zB ?_ _ | refine zD ?_ | refine zC ?_ _)); exact BK645.out)) : gb647 ≠ gb645)); have n8_ := zA ((by rw [hg]; exact Nat.ne_of_lt (blk_lt (g := gb646) (o := .cells #[.int .i64 a1_0, .int .i64 a1_1] 26 (0, 0)) (by (with_reducible repeat (first | refine zB ?_ _ | refine zD ?_ | refine zC ?_ _)); exact BK646.out)) : gb646 ≠ gb647)); have n9_ := zA ((by rw [hg]; exact Nat.ne_of_gt (blk_lt (g := gb646) (o := .cells #[.int .i64 a1_0, .int .i64 a1_1] 26 (0, 0)) (by (with_reducible repeat (first | refine zB ?_ _ | refine zD ?_ | refine zC ?_ _)); exact BK646.out)) : gb647 ≠ gb646)); clear BK645; clear BK646; clear HB; have BK645 := n0_; have BK646 := n1_; have HB := n2_; have BK647 := n3_; have GW647 := n4_; have GE647 := n5_; have NB645_647 := n6_; have NB647_645 := n7_; have NB646_647 := n8_; have NB647_646 := n9_; clear n0_ n1_ n2_ n3_ n4_ n5_ n6_ n7_ n8_ n9_; clear hb hbox hg; have hnb24 := NB645_646.out; have hnc24 := NB646_645.out; have hnb25 := NB645_647.out; have hnc25 := NB647_645.out; have hcz26_0 : w23.cell? ⟨gb645, 0, none⟩ = some (.int .i64 a0_0) := (zJ BK645.out 0).trans rfl; have hcz26_1 : w23.cell? ⟨gb645, 1, none⟩ = some (.int .i64 a0_1) := (zJ BK645.out 1).trans rfl; have hfz26_0 := zK BK645.out 0; have hfz26_1 := zK BK645.out 1; have hnb27 := NB646_647.out; have hnc27 := NB647_646.out; have hcz28_0 : w23.cell? ⟨gb646, 0, none⟩ = some (.int .i64 a1_0) := (zJ BK646.out 0).trans rfl; have hcz28_1 : w23.cell? ⟨gb646, 1, none⟩ = some (.int .i64 a1_1) := (zJ BK646.out 1).trans rfl; have hfz28_0 := zK BK646.out 0; have hfz28_1 := zK BK646.out 1) | (go_at_call 73; (with_reducible refine (spec_l1Abs.calls a0_0 t648 _ A4.out).mono ?_); rintro e w' ⟨rfl, ⟨nd, rfl⟩⟩; (try first | exact ⟨rfl, _, World.drewN_drewN _ _ _⟩ | exact ⟨rfl, _, Eq.trans (World.drewN_drewN _ _ _) (congrArg (World.drewN _) (Nat.add_assoc _ _ _))⟩)) | (go_at_call 73; (with_reducible refine (spec_l1Abs.calls a1_0 t649 _ A5.out).mono ?_); rintro e w' ⟨rfl, ⟨nd, rfl⟩⟩; (try first | exact ⟨rfl, _, World.drewN_drewN _ _ _⟩ | exact ⟨rfl, _, Eq.trans (World.drewN_drewN _ _ _) (congrArg (World.drewN _) (Nat.add_assoc _ _ _))⟩)) | (go_at_call 74; (with_reducible refine (spec_l1Quot.calls k t648 t649 (wrap64 ((wrap64 (a0_1 - a1_1)) + a2)) t650 true _ A6.out).mono ?_); rintro e w' ⟨rfl, ⟨nd, rfl⟩⟩; (try first | exact ⟨rfl, _, World.drewN_drewN _ _ _⟩ | exact ⟨rfl, _, Eq.trans (World.drewN_drewN _ _ _) (congrArg (World.drewN _) (Nat.add_assoc _ _ _))⟩)) | (go_at_call 49; (with_reducible refine (spec_l1New.calls k t650 (wrap64 (-a2)) t655 t656 t657 _ A20.out).mono ?_); rintro e w29 ⟨rfl, hb⟩; have n0_ := zA (zP (g := gb645) (o := .cells #[.int .i64 a0_0, .int .i64 a0_1] 26 (0, 0)) (by (with_reducible repeat (first | refine zB ?_ _ | refine zD ?_ | refine zC ?_ _)); exact BK645.out) hb); have n1_ := zA (zP (g := gb646) (o := .cells #[.int .i64 a1_0, .int .i64 a1_1] 26 (0, 0)) (by (with_reducible repeat (first | refine zB ?_ _ | refine zD ?_ | refine zC ?_ _)); exact BK646.out) hb); have n2_ := zA (zP (g := gb647) (o := .cells #[.int .i64 0, .int .i64 0] 26 (0, 0)) (by (with_reducible repeat (first | refine zB ?_ _ | refine zD ?_ | refine zC ?_ _)); exact BK647.out) hb); have n3_ := zA (zQ (by repeat (first | (with_reducible first | exact HB.out | apply zG | apply zE | apply zF | refine zH ?_ GE645.out | refine zH ?_ GE646.out | refine zH ?_ GE647.out) | exact HB.out)) hb); clear BK645; clear BK646; clear BK647; clear HB; have BK645 := n0_; have BK646 := n1_; have BK647 := n2_; have HB := n3_; clear n0_ n1_ n2_ n3_; (try clear hb); (try clear hb2); (try clear hk); (try clear hi); have hcz30_0 : w29.cell? ⟨gb647, 0, none⟩ = some (.int .i64 0) := (zJ BK647.out 0).trans rfl; have hcz30_1 : w29.cell? ⟨gb647, 1, none⟩ = some (.int .i64 0) := (zJ BK647.out 1).trans rfl; have hfz30_0 := zK BK647.out 0; have hfz30_1 := zK BK647.out 1))
   repeat (go_quiet (first | ((with_reducible refine zS (N := 3) rfl ?_); refine zV ?hg (N := 3) ?hd (cs := #[.int .i64 a0_0, .int .i64 a0_1]) (t := 26) ?hr ?_; (case hd => rfl); (case hg => rfl); (case hr => first | (go_simp; done) | (go_simp; rfl)); intro gb645 hg w21 hbox hb; have n0_ := zA (zQ (by repeat (first | (with_reducible first | exact HB.out | apply zG | apply zE | apply zF) | exact HB.out)) hb); have n1_ := zA (hbox); have n2_ := zA ((by rw [hg]; exact (zR (by repeat (first | (with_reducible first | exact HB.out | apply zG | apply zE | apply zF) | exact HB.out))) : w.heap.size ≤ gb645)); have n3_ := zA ((by rw [hg]; exact (zR (by repeat (first | (with_reducible first | exact HB.out | apply zG | apply zE | apply zF) | exact HB.out))) : w.heap.size ≤ gb645)); clear HB; have HB := n0_; have BK645 := n1_; have GW645 := n2_; have GE645 := n3_; clear n0_ n1_ n2_ n3_; clear hb hbox hg) | ((with_reducible refine zS (N := 4) rfl ?_); refine zV ?hg (N := 4) ?hd (cs := #[.int .i64 a1_0, .int .i64 a1_1]) (t := 26) ?hr ?_; (case hd => rfl); (case hg => rfl); (case hr => first | (go_simp; done) | (go_simp; rfl)); intro gb646 hg w22 hbox hb; have n0_ := zA (zP (g := gb645) (o := .cells #[.int .i64 a0_0, .int .i64 a0_1] 26 (0, 0)) (by (with_reducible repeat (first | refine zB ?_ _ | refine zD ?_ | refine zC ?_ _)); exact BK645.out) hb); have n1_ := zA (zQ (by repeat (first | (with_reducible first | exact HB.out | apply zG | apply zE | apply zF | refine zH ?_ GE645.out) | exact HB.out)) hb); have n2_ := zA (hbox); have n3_ := zA ((by rw [hg]; exact (zR (by repeat (first | (with_reducible first | exact HB.out | apply zG | apply zE | apply zF | refine zH ?_ GE645.out) | exact HB.out))) : w.heap.size ≤ gb646)); have n4_ := zA ((by rw [hg]; exact (zR (by repeat (first | (with_reducible first | exact HB.out | apply zG | apply zE | apply zF | refine zH ?_ GE645.out) | exact HB.out))) : w.heap.size ≤ gb646)); have n5_ := zA ((by rw [hg]; exact Nat.ne_of_lt (blk_lt (g := gb645) (o := .cells #[.int .i64 a0_0, .int .i64 a0_1] 26 (0, 0)) (by (with_reducible repeat (first | refine zB ?_ _ | refine zD ?_ | refine zC ?_ _)); exact BK645.out)) : gb645 ≠ gb646)); have n6_ := zA ((by rw [hg]; exact Nat.ne_of_gt (blk_lt (g := gb645) (o := .cells #[.int .i64 a0_0, .int .i64 a0_1] 26 (0, 0)) (by (with_reducible repeat (first | refine zB ?_ _ | refine zD ?_ | refine zC ?_ _)); exact BK645.out)) : gb646 ≠ gb645)); clear BK645; clear HB; have BK645 := n0_; have HB := n1_; have BK646 := n2_; have GW646 := n3_; have GE646 := n4_; have NB645_646 := n5_; have NB646_645 := n6_; clear n0_ n1_ n2_ n3_ n4_ n5_ n6_; clear hb hbox hg) | ((with_reducible refine zS (N := 6) rfl ?_); refine zV ?hg (N := 6) ?hd (cs := #[.int .i64 0, .int .i64 0]) (t := 26) ?hr ?_; (case hd => rfl); (case hg => rfl); (case hr => first | (go_simp; done) | (go_simp; rfl)); intro gb647 hg w23 hbox hb; have n0_ := zA (zP (g := gb645) (o := .cells #[.int .i64 a0_0, .int .i64 a0_1] 26 (0, 0)) (by (with_reducible repeat (first | refine zB ?_ _ | refine zD ?_ | refine zC ?_ _)); exact BK645.out) hb); have n1_ := zA (zP (g := gb646) (o := .cells #[.int .i64 a1_0, .int .i64 a1_1] 26 (0, 0)) (by (with_reducible repeat (first | refine zB ?_ _ | refine zD ?_ | refine zC ?_ _)); exact BK646.out) hb); have n2_ := zA (zQ (by repeat (first | (with_reducible first | exact HB.out | apply zG | apply zE | apply zF | refine zH ?_ GE645.out | refine zH ?_ GE646.out) | exact HB.out)) hb); have n3_ := zA (hbox); have n4_ := zA ((by rw [hg]; exact (zR (by repeat (first | (with_reducible first | exact HB.out | apply zG | apply zE | apply zF | refine zH ?_ GE645.out | refine zH ?_ GE646.out) | exact HB.out))) : w.heap.size ≤ gb647)); have n5_ := zA ((by rw [hg]; exact (zR (by repeat (first | (with_reducible first | exact HB.out | apply zG | apply zE | apply zF | refine zH ?_ GE645.out | refine zH ?_ GE646.out) | exact HB.out))) : w.heap.size ≤ gb647)); have n6_ := zA ((by rw [hg]; exact Nat.ne_of_lt (blk_lt (g := gb645) (o := .cells #[.int .i64 a0_0, .int .i64 a0_1] 26 (0, 0)) (by (with_reducible repeat (first | refine zB ?_ _ | refine zD ?_ | refine zC ?_ _)); exact BK645.out)) : gb645 ≠ gb647)); have n7_ := zA ((by rw [hg]; exact Nat.ne_of_gt (blk_lt (g := gb645) (o := .cells #[.int .i64 a0_0, .int .i64 a0_1] 26 (0, 0)) (by (with_reducible repeat (first | refine zB ?_ _ | refine zD ?_ | refine zC ?_ _)); exact BK645.out)) : gb647 ≠ gb645)); have n8_ := zA ((by rw [hg]; exact Nat.ne_of_lt (blk_lt (g := gb646) (o := .cells #[.int .i64 a1_0, .int .i64 a1_1] 26 (0, 0)) (by (with_reducible repeat (first | refine zB ?_ _ | refine zD ?_ | refine zC ?_ _)); exact BK646.out)) : gb646 ≠ gb647)); have n9_ := zA ((by rw [hg]; exact Nat.ne_of_gt (blk_lt (g := gb646) (o := .cells #[.int .i64 a1_0, .int .i64 a1_1] 26 (0, 0)) (by (with_reducible repeat (first | refine zB ?_ _ | refine zD ?_ | refine zC ?_ _)); exact BK646.out)) : gb647 ≠ gb646)); clear BK645; clear BK646; clear HB; have BK645 := n0_; have BK646 := n1_; have HB := n2_; have BK647 := n3_; have GW647 := n4_; have GE647 := n5_; have NB645_647 := n6_; have NB647_645 := n7_; have NB646_647 := n8_; have NB647_646 := n9_; clear n0_ n1_ n2_ n3_ n4_ n5_ n6_ n7_ n8_ n9_; clear hb hbox hg; have hnb24 := NB645_646.out; have hnc24 := NB646_645.out; have hnb25 := NB645_647.out; have hnc25 := NB647_645.out; have hcz26_0 : w23.cell? ⟨gb645, 0, none⟩ = some (.int .i64 a0_0) := (zJ BK645.out 0).trans rfl; have hcz26_1 : w23.cell? ⟨gb645, 1, none⟩ = some (.int .i64 a0_1) := (zJ BK645.out 1).trans rfl; have hfz26_0 := zK BK645.out 0; have hfz26_1 := zK BK645.out 1; have hnb27 := NB646_647.out; have hnc27 := NB647_646.out; have hcz28_0 : w23.cell? ⟨gb646, 0, none⟩ = some (.int .i64 a1_0) := (zJ BK646.out 0).trans rfl; have hcz28_1 : w23.cell? ⟨gb646, 1, none⟩ = some (.int .i64 a1_1) := (zJ BK646.out 1).trans rfl; have hfz28_0 := zK BK646.out 0; have hfz28_1 := zK BK646.out 1) | (go_at_call 73; (with_reducible refine (spec_l1Abs.calls a0_0 t648 _ A4.out).mono ?_); rintro e w' ⟨rfl, ⟨nd, rfl⟩⟩; (try first | exact ⟨rfl, _, World.drewN_drewN _ _ _⟩ | exact ⟨rfl, _, Eq.trans (World.drewN_drewN _ _ _) (congrArg (World.drewN _) (Nat.add_assoc _ _ _))⟩)) | (go_at_call 73; (with_reducible refine (spec_l1Abs.calls a1_0 t649 _ A5.out).mono ?_); rintro e w' ⟨rfl, ⟨nd, rfl⟩⟩; (try first | exact ⟨rfl, _, World.drewN_drewN _ _ _⟩ | exact ⟨rfl, _, Eq.trans (World.drewN_drewN _ _ _) (congrArg (World.drewN _) (Nat.add_assoc _ _ _))⟩)) | (go_at_call 74; (with_reducible refine (spec_l1Quot.calls k t648 t649 (wrap64 ((wrap64 (a0_1 - a1_1)) + a2)) t650 true _ A6.out).mono ?_); rintro e w' ⟨rfl, ⟨nd, rfl⟩⟩; (try first | exact ⟨rfl, _, World.drewN_drewN _ _ _⟩ | exact ⟨rfl, _, Eq.trans (World.drewN_drewN _ _ _) (congrArg (World.drewN _) (Nat.add_assoc _ _ _))⟩)) | (go_at_call 49; (with_reducible refine (spec_l1New.calls k t650 (wrap64 (-a2)) t655 t656 t657 _ A20.out).mono ?_); rintro e w29 ⟨rfl, hb⟩; have n0_ := zA (zP (g := gb645) (o := .cells #[.int .i64 a0_0, .int .i64 a0_1] 26 (0, 0)) (by (with_reducible repeat (first | refine zB ?_ _ | refine zD ?_ | refine zC ?_ _)); exact BK645.out) hb); have n1_ := zA (zP (g := gb646) (o := .cells #[.int .i64 a1_0, .int .i64 a1_1] 26 (0, 0)) (by (with_reducible repeat (first | refine zB ?_ _ | refine zD ?_ | refine zC ?_ _)); exact BK646.out) hb); have n2_ := zA (zP (g := gb647) (o := .cells #[.int .i64 0, .int .i64 0] 26 (0, 0)) (by (with_reducible repeat (first | refine zB ?_ _ | refine zD ?_ | refine zC ?_ _)); exact BK647.out) hb); have n3_ := zA (zQ (by repeat (first | (with_reducible first | exact HB.out | apply zG | apply zE | apply zF | refine zH ?_ GE645.out | refine zH ?_ GE646.out | refine zH ?_ GE647.out) | exact HB.out)) hb); clear BK645; clear BK646; clear BK647; clear HB; have BK645 := n0_; have BK646 := n1_; have BK647 := n2_; have HB := n3_; clear n0_ n1_ n2_ n3_; (try clear hb); (try clear hb2); (try clear hk); (try clear hi); have hcz30_0 : w29.cell? ⟨gb647, 0, none⟩ = some (.int .i64 0) := (zJ BK647.out 0).trans rfl; have hcz30_1 : w29.cell? ⟨gb647, 1, none⟩ = some (.int .i64 0) := (zJ BK647.out 1).trans rfl; have hfz30_0 := zK BK647.out 0; have hfz30_1 := zK BK647.out 1)); try go_wp2_with (first | ((with_reducible refine zS (N := 3) rfl ?_); refine zV ?hg (N := 3) ?hd (cs := #[.int .i64 a0_0, .int .i64 a0_1]) (t := 26) ?hr ?_; (case hd => rfl); (case hg => rfl); (case hr => first | (go_simp; done) | (go_simp; rfl)); intro gb645 hg w21 hbox hb; have n0_ := zA (zQ (by repeat (first | (with_reducible first | exact HB.out | apply zG | apply zE | apply zF) | exact HB.out)) hb); have n1_ := zA (hbox); have n2_ := zA ((by rw [hg]; exact (zR (by repeat (first | (with_reducible first | exact HB.out | apply zG | apply zE | apply zF) | exact HB.out))) : w.heap.size ≤ gb645)); have n3_ := zA ((by rw [hg]; exact (zR (by repeat (first | (with_reducible first | exact HB.out | apply zG | apply zE | apply zF) | exact HB.out))) : w.heap.size ≤ gb645)); clear HB; have HB := n0_; have BK645 := n1_; have GW645 := n2_; have GE645 := n3_; clear n0_ n1_ n2_ n3_; clear hb hbox hg) | ((with_reducible refine zS (N := 4) rfl ?_); refine zV ?hg (N := 4) ?hd (cs := #[.int .i64 a1_0, .int .i64 a1_1]) (t := 26) ?hr ?_; (case hd => rfl); (case hg => rfl); (case hr => first | (go_simp; done) | (go_simp; rfl)); intro gb646 hg w22 hbox hb; have n0_ := zA (zP (g := gb645) (o := .cells #[.int .i64 a0_0, .int .i64 a0_1] 26 (0, 0)) (by (with_reducible repeat (first | refine zB ?_ _ | refine zD ?_ | refine zC ?_ _)); exact BK645.out) hb); have n1_ := zA (zQ (by repeat (first | (with_reducible first | exact HB.out | apply zG | apply zE | apply zF | refine zH ?_ GE645.out) | exact HB.out)) hb); have n2_ := zA (hbox); have n3_ := zA ((by rw [hg]; exact (zR (by repeat (first | (with_reducible first | exact HB.out | apply zG | apply zE | apply zF | refine zH ?_ GE645.out) | exact HB.out))) : w.heap.size ≤ gb646)); have n4_ := zA ((by rw [hg]; exact (zR (by repeat (first | (with_reducible first | exact HB.out | apply zG | apply zE | apply zF | refine zH ?_ GE645.out) | exact HB.out))) : w.heap.size ≤ gb646)); have n5_ := zA ((by rw [hg]; exact Nat.ne_of_lt (blk_lt (g := gb645) (o := .cells #[.int .i64 a0_0, .int .i64 a0_1] 26 (0, 0)) (by (with_reducible repeat (first | refine zB ?_ _ | refine zD ?_ | refine zC ?_ _)); exact BK645.out)) : gb645 ≠ gb646)); have n6_ := zA ((by rw [hg]; exact Nat.ne_of_gt (blk_lt (g := gb645) (o := .cells #[.int .i64 a0_0, .int .i64 a0_1] 26 (0, 0)) (by (with_reducible repeat (first | refine zB ?_ _ | refine zD ?_ | refine zC ?_ _)); exact BK645.out)) : gb646 ≠ gb645)); clear BK645; clear HB; have BK645 := n0_; have HB := n1_; have BK646 := n2_; have GW646 := n3_; have GE646 := n4_; have NB645_646 := n5_; have NB646_645 := n6_; clear n0_ n1_ n2_ n3_ n4_ n5_ n6_; clear hb hbox hg) | ((with_reducible refine zS (N := 6) rfl ?_); refine zV ?hg (N := 6) ?hd (cs := #[.int .i64 0, .int .i64 0]) (t := 26) ?hr ?_; (case hd => rfl); (case hg => rfl); (case hr => first | (go_simp; done) | (go_simp; rfl)); intro gb647 hg w23 hbox hb; have n0_ := zA (zP (g := gb645) (o := .cells #[.int .i64 a0_0, .int .i64 a0_1] 26 (0, 0)) (by (with_reducible repeat (first | refine zB ?_ _ | refine zD ?_ | refine zC ?_ _)); exact BK645.out) hb); have n1_ := zA (zP (g := gb646) (o := .cells #[.int .i64 a1_0, .int .i64 a1_1] 26 (0, 0)) (by (with_reducible repeat (first | refine zB ?_ _ | refine zD ?_ | refine zC ?_ _)); exact BK646.out) hb); have n2_ := zA (zQ (by repeat (first | (with_reducible first | exact HB.out | apply zG | apply zE | apply zF | refine zH ?_ GE645.out | refine zH ?_ GE646.out) | exact HB.out)) hb); have n3_ := zA (hbox); have n4_ := zA ((by rw [hg]; exact (zR (by repeat (first | (with_reducible first | exact HB.out | apply zG | apply zE | apply zF | refine zH ?_ GE645.out | refine zH ?_ GE646.out) | exact HB.out))) : w.heap.size ≤ gb647)); have n5_ := zA ((by rw [hg]; exact (zR (by repeat (first | (with_reducible first | exact HB.out | apply zG | apply zE | apply zF | refine zH ?_ GE645.out | refine zH ?_ GE646.out) | exact HB.out))) : w.heap.size ≤ gb647)); have n6_ := zA ((by rw [hg]; exact Nat.ne_of_lt (blk_lt (g := gb645) (o := .cells #[.int .i64 a0_0, .int .i64 a0_1] 26 (0, 0)) (by (with_reducible repeat (first | refine zB ?_ _ | refine zD ?_ | refine zC ?_ _)); exact BK645.out)) : gb645 ≠ gb647)); have n7_ := zA ((by rw [hg]; exact Nat.ne_of_gt (blk_lt (g := gb645) (o := .cells #[.int .i64 a0_0, .int .i64 a0_1] 26 (0, 0)) (by (with_reducible repeat (first | refine zB ?_ _ | refine zD ?_ | refine zC ?_ _)); exact BK645.out)) : gb647 ≠ gb645)); have n8_ := zA ((by rw [hg]; exact Nat.ne_of_lt (blk_lt (g := gb646) (o := .cells #[.int .i64 a1_0, .int .i64 a1_1] 26 (0, 0)) (by (with_reducible repeat (first | refine zB ?_ _ | refine zD ?_ | refine zC ?_ _)); exact BK646.out)) : gb646 ≠ gb647)); have n9_ := zA ((by rw [hg]; exact Nat.ne_of_gt (blk_lt (g := gb646) (o := .cells #[.int .i64 a1_0, .int .i64 a1_1] 26 (0, 0)) (by (with_reducible repeat (first | refine zB ?_ _ | refine zD ?_ | refine zC ?_ _)); exact BK646.out)) : gb647 ≠ gb646)); clear BK645; clear BK646; clear HB; have BK645 := n0_; have BK646 := n1_; have HB := n2_; have BK647 := n3_; have GW647 := n4_; have GE647 := n5_; have NB645_647 := n6_; have NB647_645 := n7_; have NB646_647 := n8_; have NB647_646 := n9_; clear n0_ n1_ n2_ n3_ n4_ n5_ n6_ n7_ n8_ n9_; clear hb hbox hg; have hnb24 := NB645_646.out; have hnc24 := NB646_645.out; have hnb25 := NB645_647.out; have hnc25 := NB647_645.out; have hcz26_0 : w23.cell? ⟨gb645, 0, none⟩ = some (.int .i64 a0_0) := (zJ BK645.out 0).trans rfl; have hcz26_1 : w23.cell? ⟨gb645, 1, none⟩ = some (.int .i64 a0_1) := (zJ BK645.out 1).trans rfl; have hfz26_0 := zK BK645.out 0; have hfz26_1 := zK BK645.out 1; have hnb27 := NB646_647.out; have hnc27 := NB647_646.out; have hcz28_0 : w23.cell? ⟨gb646, 0, none⟩ = some (.int .i64 a1_0) := (zJ BK646.out 0).trans rfl; have hcz28_1 : w23.cell? ⟨gb646, 1, none⟩ = some (.int .i64 a1_1) := (zJ BK646.out 1).trans rfl; have hfz28_0 := zK BK646.out 0; have hfz28_1 := zK BK646.out 1) | (go_at_call 73; (with_reducible refine (spec_l1Abs.calls a0_0 t648 _ A4.out).mono ?_); rintro e w' ⟨rfl, ⟨nd, rfl⟩⟩; (try first | exact ⟨rfl, _, World.drewN_drewN _ _ _⟩ | exact ⟨rfl, _, Eq.trans (World.drewN_drewN _ _ _) (congrArg (World.drewN _) (Nat.add_assoc _ _ _))⟩)) | (go_at_call 73; (with_reducible refine (spec_l1Abs.calls a1_0 t649 _ A5.out).mono ?_); rintro e w' ⟨rfl, ⟨nd, rfl⟩⟩; (try first | exact ⟨rfl, _, World.drewN_drewN _ _ _⟩ | exact ⟨rfl, _, Eq.trans (World.drewN_drewN _ _ _) (congrArg (World.drewN _) (Nat.add_assoc _ _ _))⟩)) | (go_at_call 74; (with_reducible refine (spec_l1Quot.calls k t648 t649 (wrap64 ((wrap64 (a0_1 - a1_1)) + a2)) t650 true _ A6.out).mono ?_); rintro e w' ⟨rfl, ⟨nd, rfl⟩⟩; (try first | exact ⟨rfl, _, World.drewN_drewN _ _ _⟩ | exact ⟨rfl, _, Eq.trans (World.drewN_drewN _ _ _) (congrArg (World.drewN _) (Nat.add_assoc _ _ _))⟩)) | (go_at_call 49; (with_reducible refine (spec_l1New.calls k t650 (wrap64 (-a2)) t655 t656 t657 _ A20.out).mono ?_); rintro e w29 ⟨rfl, hb⟩; have n0_ := zA (zP (g := gb645) (o := .cells #[.int .i64 a0_0, .int .i64 a0_1] 26 (0, 0)) (by (with_reducible repeat (first | refine zB ?_ _ | refine zD ?_ | refine zC ?_ _)); exact BK645.out) hb); have n1_ := zA (zP (g := gb646) (o := .cells #[.int .i64 a1_0, .int .i64 a1_1] 26 (0, 0)) (by (with_reducible repeat (first | refine zB ?_ _ | refine zD ?_ | refine zC ?_ _)); exact BK646.out) hb); have n2_ := zA (zP (g := gb647) (o := .cells #[.int .i64 0, .int .i64 0] 26 (0, 0)) (by (with_reducible repeat (first | refine zB ?_ _ | refine zD ?_ | refine zC ?_ _)); exact BK647.out) hb); have n3_ := zA (zQ (by repeat (first | (with_reducible first | exact HB.out | apply zG | apply zE | apply zF | refine zH ?_ GE645.out | refine zH ?_ GE646.out | refine zH ?_ GE647.out) | exact HB.out)) hb); clear BK645; clear BK646; clear BK647; clear HB; have BK645 := n0_; have BK646 := n1_; have BK647 := n2_; have HB := n3_; clear n0_ n1_ n2_ n3_; (try clear hb); (try clear hb2); (try clear hk); (try clear hi); have hcz30_0 : w29.cell? ⟨gb647, 0, none⟩ = some (.int .i64 0) := (zJ BK647.out 0).trans rfl; have hcz30_1 : w29.cell? ⟨gb647, 1, none⟩ = some (.int .i64 0) := (zJ BK647.out 1).trans rfl; have hfz30_0 := zK BK647.out 0; have hfz30_1 := zK BK647.out 1)))
   refine bodyPost_ret (results_ct rfl _ _ gb647 26 #[.int .i64 t655, .int .i64 t656] (0, 0) _ rfl (by (with_reducible repeat (first | refine zB ?_ _ | refine zD ?_ | refine zC ?_ _)); refine blk_put (cs := #[.int .i64 t655, .int .i64 0]) ?_ 1 _ rfl; (with_reducible repeat (first | refine zB ?_ _ | refine zD ?_ | refine zC ?_ _)); refine blk_put (cs := #[.int .i64 0, .int .i64 0]) ?_ 0 _ rfl; (with_reducible repeat (first | refine zB ?_ _ | refine zD ?_ | refine zC ?_ _)); exact BK647.out) Try.underlying26 rfl (by kernel_rfl)) rfl ?_
   exact ⟨by first | rfl | (simp [errW_none, errW_some] <;> rfl) | (simp [*, errW_none, errW_some] <;> rfl), by repeat (first | (with_reducible first | exact HB.out | apply zG | apply zE | apply zF | refine zH ?_ GE645.out | refine zH ?_ GE646.out | refine zH ?_ GE647.out) | exact HB.out)⟩
 ·replace c7 := Bool.eq_false_iff.mpr c7
  subst c7
  have H1 : (some (0, 0, false)) = some (r1, r2, r3) := by rw [if_neg (show ¬ (false = true) by decide)] at H; exact H
  clear H
  have H := H1
  clear H1
  simp only [Option.some.injEq, Prod.mk.injEq] at H
  obtain ⟨rfl, rfl, rfl⟩ := H
  go_enter Try.func64, Try.ntmps64
  go_wp2_with (first | ((with_reducible refine zS (N := 3) rfl ?_); refine zV ?hg (N := 3) ?hd (cs := #[.int .i64 a0_0, .int .i64 a0_1]) (t := 26) ?hr ?_; (case hd => rfl); (case hg => rfl); (case hr => first | (go_simp; done) | (go_simp; rfl)); intro gb645 hg w31 hbox hb; have n0_ := zA (zQ (by repeat (first | (with_reducible first | exact HB.out | apply zG | apply zE | apply zF) | exact HB.out)) hb); have n1_ := zA (hbox); have n2_ := zA ((by rw [hg]; exact (zR (by repeat (first | (with_reducible first | exact HB.out | apply zG | apply zE | apply zF) | exact HB.out))) : w.heap.size ≤ gb645)); have n3_ := zA ((by rw [hg]; exact (zR (by repeat (first | (with_reducible first | exact HB.out | apply zG | apply zE | apply zF) | exact HB.out))) : w.heap.size ≤ gb645)); clear HB; have HB := n0_; have BK645 := n1_; have GW645 := n2_; have GE645 := n3_; clear n0_ n1_ n2_ n3_; clear hb hbox hg) | ((with_reducible refine zS (N := 4) rfl ?_); refine zV ?hg (N := 4) ?hd (cs := #[.int .i64 a1_0, .int .i64 a1_1]) (t := 26) ?hr ?_; (case hd => rfl); (case hg => rfl); (case hr => first | (go_simp; done) | (go_simp; rfl)); intro gb646 hg w32 hbox hb; have n0_ := zA (zP (g := gb645) (o := .cells #[.int .i64 a0_0, .int .i64 a0_1] 26 (0, 0)) (by (with_reducible repeat (first | refine zB ?_ _ | refine zD ?_ | refine zC ?_ _)); exact BK645.out) hb); have n1_ := zA (zQ (by repeat (first | (with_reducible first | exact HB.out | apply zG | apply zE | apply zF | refine zH ?_ GE645.out) | exact HB.out)) hb); have n2_ := zA (hbox); have n3_ := zA ((by rw [hg]; exact (zR (by repeat (first | (with_reducible first | exact HB.out | apply zG | apply zE | apply zF | refine zH ?_ GE645.out) | exact HB.out))) : w.heap.size ≤ gb646)); have n4_ := zA ((by rw [hg]; exact (zR (by repeat (first | (with_reducible first | exact HB.out | apply zG | apply zE | apply zF | refine zH ?_ GE645.out) | exact HB.out))) : w.heap.size ≤ gb646)); have n5_ := zA ((by rw [hg]; exact Nat.ne_of_lt (blk_lt (g := gb645) (o := .cells #[.int .i64 a0_0, .int .i64 a0_1] 26 (0, 0)) (by (with_reducible repeat (first | refine zB ?_ _ | refine zD ?_ | refine zC ?_ _)); exact BK645.out)) : gb645 ≠ gb646)); have n6_ := zA ((by rw [hg]; exact Nat.ne_of_gt (blk_lt (g := gb645) (o := .cells #[.int .i64 a0_0, .int .i64 a0_1] 26 (0, 0)) (by (with_reducible repeat (first | refine zB ?_ _ | refine zD ?_ | refine zC ?_ _)); exact BK645.out)) : gb646 ≠ gb645)); clear BK645; clear HB; have BK645 := n0_; have HB := n1_; have BK646 := n2_; have GW646 := n3_; have GE646 := n4_; have NB645_646 := n5_; have NB646_645 := n6_; clear n0_ n1_ n2_ n3_ n4_ n5_ n6_; clear hb hbox hg) | ((with_reducible refine zS (N := 6) rfl ?_); refine zV ?hg (N := 6) ?hd (cs := #[.int .i64 0, .int .i64 0]) (t := 26) ?hr ?_; (case hd => rfl); (case hg => rfl); (case hr => first | (go_simp; done) | (go_simp; rfl)); intro gb647 hg w33 hbox hb; have n0_ := zA (zP (g := gb645) (o := .cells #[.int .i64 a0_0, .int .i64 a0_1] 26 (0, 0)) (by (with_reducible repeat (first | refine zB ?_ _ | refine zD ?_ | refine zC ?_ _)); exact BK645.out) hb); have n1_ := zA (zP (g := gb646) (o := .cells #[.int .i64 a1_0, .int .i64 a1_1] 26 (0, 0)) (by (with_reducible repeat (first | refine zB ?_ _ | refine zD ?_ | refine zC ?_ _)); exact BK646.out) hb); have n2_ := zA (zQ (by repeat (first | (with_reducible first | exact HB.out | apply zG | apply zE | apply zF | refine zH ?_ GE645.out | refine zH ?_ GE646.out) | exact HB.out)) hb); have n3_ := zA (hbox); have n4_ := zA ((by rw [hg]; exact (zR (by repeat (first | (with_reducible first | exact HB.out | apply zG | apply zE | apply zF | refine zH ?_ GE645.out | refine zH ?_ GE646.out) | exact HB.out))) : w.heap.size ≤ gb647)); have n5_ := zA ((by rw [hg]; exact (zR (by repeat (first | (with_reducible first | exact HB.out | apply zG | apply zE | apply zF | refine zH ?_ GE645.out | refine zH ?_ GE646.out) | exact HB.out))) : w.heap.size ≤ gb647)); have n6_ := zA ((by rw [hg]; exact Nat.ne_of_lt (blk_lt (g := gb645) (o := .cells #[.int .i64 a0_0, .int .i64 a0_1] 26 (0, 0)) (by (with_reducible repeat (first | refine zB ?_ _ | refine zD ?_ | refine zC ?_ _)); exact BK645.out)) : gb645 ≠ gb647)); have n7_ := zA ((by rw [hg]; exact Nat.ne_of_gt (blk_lt (g := gb645) (o := .cells #[.int .i64 a0_0, .int .i64 a0_1] 26 (0, 0)) (by (with_reducible repeat (first | refine zB ?_ _ | refine zD ?_ | refine zC ?_ _)); exact BK645.out)) : gb647 ≠ gb645)); have n8_ := zA ((by rw [hg]; exact Nat.ne_of_lt (blk_lt (g := gb646) (o := .cells #[.int .i64 a1_0, .int .i64 a1_1] 26 (0, 0)) (by (with_reducible repeat (first | refine zB ?_ _ | refine zD ?_ | refine zC ?_ _)); exact BK646.out)) : gb646 ≠ gb647)); have n9_ := zA ((by rw [hg]; exact Nat.ne_of_gt (blk_lt (g := gb646) (o := .cells #[.int .i64 a1_0, .int .i64 a1_1] 26 (0, 0)) (by (with_reducible repeat (first | refine zB ?_ _ | refine zD ?_ | refine zC ?_ _)); exact BK646.out)) : gb647 ≠ gb646)); clear BK645; clear BK646; clear HB; have BK645 := n0_; have BK646 := n1_; have HB := n2_; have BK647 := n3_; have GW647 := n4_; have GE647 := n5_; have NB645_647 := n6_; have NB647_645 := n7_; have NB646_647 := n8_; have NB647_646 := n9_; clear n0_ n1_ n2_ n3_ n4_ n5_ n6_ n7_ n8_ n9_; clear hb hbox hg; have hnb34 := NB645_646.out; have hnc34 := NB646_645.out; have hnb35 := NB645_647.out; have hnc35 := NB647_645.out; have hcz36_0 : w33.cell? ⟨gb645, 0, none⟩ = some (.int .i64 a0_0) := (zJ BK645.out 0).trans rfl; have hcz36_1 : w33.cell? ⟨gb645, 1, none⟩ = some (.int .i64 a0_1) := (zJ BK645.out 1).trans rfl; have hfz36_0 := zK BK645.out 0; have hfz36_1 := zK BK645.out 1; have hnb37 := NB646_647.out; have hnc37 := NB647_646.out; have hcz38_0 : w33.cell? ⟨gb646, 0, none⟩ = some (.int .i64 a1_0) := (zJ BK646.out 0).trans rfl; have hcz38_1 : w33.cell? ⟨gb646, 1, none⟩ = some (.int .i64 a1_1) := (zJ BK646.out 1).trans rfl; have hfz38_0 := zK BK646.out 0; have hfz38_1 := zK BK646.out 1; have hcz39_0 : w33.cell? ⟨gb647, 0, none⟩ = some (.int .i64 0) := (zJ BK647.out 0).trans rfl; have hcz39_1 : w33.cell? ⟨gb647, 1, none⟩ = some (.int .i64 0) := (zJ BK647.out 1).trans rfl; have hfz39_0 := zK BK647.out 0; have hfz39_1 := zK BK647.out 1) | (go_at_call 73; (with_reducible refine (spec_l1Abs.calls a0_0 t648 _ A4.out).mono ?_); rintro e w' ⟨rfl, ⟨nd, rfl⟩⟩; (try first | exact ⟨rfl, _, World.drewN_drewN _ _ _⟩ | exact ⟨rfl, _, Eq.trans (World.drewN_drewN _ _ _) (congrArg (World.drewN _) (Nat.add_assoc _ _ _))⟩)) | (go_at_call 73; (with_reducible refine (spec_l1Abs.calls a1_0 t649 _ A5.out).mono ?_); rintro e w' ⟨rfl, ⟨nd, rfl⟩⟩; (try first | exact ⟨rfl, _, World.drewN_drewN _ _ _⟩ | exact ⟨rfl, _, Eq.trans (World.drewN_drewN _ _ _) (congrArg (World.drewN _) (Nat.add_assoc _ _ _))⟩)) | (go_at_call 74; (with_reducible refine (spec_l1Quot.calls k t648 t649 (wrap64 ((wrap64 (a0_1 - a1_1)) + a2)) t650 false _ A6.out).mono ?_); rintro e w' ⟨rfl, ⟨nd, rfl⟩⟩; (try first | exact ⟨rfl, _, World.drewN_drewN _ _ _⟩ | exact ⟨rfl, _, Eq.trans (World.drewN_drewN _ _ _) (congrArg (World.drewN _) (Nat.add_assoc _ _ _))⟩)))
  repeat (go_quiet (first | ((with_reducible refine zS (N := 3) rfl ?_); refine zV ?hg (N := 3) ?hd (cs := #[.int .i64 a0_0, .int .i64 a0_1]) (t := 26) ?hr ?_; (case hd => rfl); (case hg => rfl); (case hr => first | (go_simp; done) | (go_simp; rfl)); intro gb645 hg w31 hbox hb; have n0_ := zA (zQ (by repeat (first | (with_reducible first | exact HB.out | apply zG | apply zE | apply zF) | exact HB.out)) hb); have n1_ := zA (hbox); have n2_ := zA ((by rw [hg]; exact (zR (by repeat (first | (with_reducible first | exact HB.out | apply zG | apply zE | apply zF) | exact HB.out))) : w.heap.size ≤ gb645)); have n3_ := zA ((by rw [hg]; exact (zR (by repeat (first | (with_reducible first | exact HB.out | apply zG | apply zE | apply zF) | exact HB.out))) : w.heap.size ≤ gb645)); clear HB; have HB := n0_; have BK645 := n1_; have GW645 := n2_; have GE645 := n3_; clear n0_ n1_ n2_ n3_; clear hb hbox hg) | ((with_reducible refine zS (N := 4) rfl ?_); refine zV ?hg (N := 4) ?hd (cs := #[.int .i64 a1_0, .int .i64 a1_1]) (t := 26) ?hr ?_; (case hd => rfl); (case hg => rfl); (case hr => first | (go_simp; done) | (go_simp; rfl)); intro gb646 hg w32 hbox hb; have n0_ := zA (zP (g := gb645) (o := .cells #[.int .i64 a0_0, .int .i64 a0_1] 26 (0, 0)) (by (with_reducible repeat (first | refine zB ?_ _ | refine zD ?_ | refine zC ?_ _)); exact BK645.out) hb); have n1_ := zA (zQ (by repeat (first | (with_reducible first | exact HB.out | apply zG | apply zE | apply zF | refine zH ?_ GE645.out) | exact HB.out)) hb); have n2_ := zA (hbox); have n3_ := zA ((by rw [hg]; exact (zR (by repeat (first | (with_reducible first | exact HB.out | apply zG | apply zE | apply zF | refine zH ?_ GE645.out) | exact HB.out))) : w.heap.size ≤ gb646)); have n4_ := zA ((by rw [hg]; exact (zR (by repeat (first | (with_reducible first | exact HB.out | apply zG | apply zE | apply zF | refine zH ?_ GE645.out) | exact HB.out))) : w.heap.size ≤ gb646)); have n5_ := zA ((by rw [hg]; exact Nat.ne_of_lt (blk_lt (g := gb645) (o := .cells #[.int .i64 a0_0, .int .i64 a0_1] 26 (0, 0)) (by (with_reducible repeat (first | refine zB ?_ _ | refine zD ?_ | refine zC ?_ _)); exact BK645.out)) : gb645 ≠ gb646)); have n6_ := zA ((by rw [hg]; exact Nat.ne_of_gt (blk_lt (g := gb645) (o := .cells #[.int .i64 a0_0, .int .i64 a0_1] 26 (0, 0)) (by (with_reducible repeat (first | refine zB ?_ _ | refine zD ?_ | refine zC ?_ _)); exact BK645.out)) : gb646 ≠ gb645)); clear BK645; clear HB; have BK645 := n0_; have HB := n1_; have BK646 := n2_; have GW646 := n3_; have GE646 := n4_; have NB645_646 := n5_; have NB646_645 := n6_; clear n0_ n1_ n2_ n3_ n4_ n5_ n6_; clear hb hbox hg) | ((with_reducible refine zS (N := 6) rfl ?_); refine zV ?hg (N := 6) ?hd (cs := #[.int .i64 0, .int .i64 0]) (t := 26) ?hr ?_; (case hd => rfl); (case hg => rfl); (case hr => first | (go_simp; done) | (go_simp; rfl)); intro gb647 hg w33 hbox hb; have n0_ := zA (zP (g := gb645) (o := .cells #[.int .i64 a0_0, .int .i64 a0_1] 26 (0, 0)) (by (with_reducible repeat (first | refine zB ?_ _ | refine zD ?_ | refine zC ?_ _)); exact BK645.out) hb); have n1_ := zA (zP (g := gb646) (o := .cells #[.int .i64 a1_0, .int .i64 a1_1] 26 (0, 0)) (by (with_reducible repeat (first | refine zB ?_ _ | refine zD ?_ | refine zC ?_ _)); exact BK646.out) hb); have n2_ := zA (zQ (by repeat (first | (with_reducible first | exact HB.out | apply zG | apply zE | apply zF | refine zH ?_ GE645.out | refine zH ?_ GE646.out) | exact HB.out)) hb); have n3_ := zA (hbox); have n4_ := zA ((by rw [hg]; exact (zR (by repeat (first | (with_reducible first | exact HB.out | apply zG | apply zE | apply zF | refine zH ?_ GE645.out | refine zH ?_ GE646.out) | exact HB.out))) : w.heap.size ≤ gb647)); have n5_ := zA ((by rw [hg]; exact (zR (by repeat (first | (with_reducible first | exact HB.out | apply zG | apply zE | apply zF | refine zH ?_ GE645.out | refine zH ?_ GE646.out) | exact HB.out))) : w.heap.size ≤ gb647)); have n6_ := zA ((by rw [hg]; exact Nat.ne_of_lt (blk_lt (g := gb645) (o := .cells #[.int .i64 a0_0, .int .i64 a0_1] 26 (0, 0)) (by (with_reducible repeat (first | refine zB ?_ _ | refine zD ?_ | refine zC ?_ _)); exact BK645.out)) : gb645 ≠ gb647)); have n7_ := zA ((by rw [hg]; exact Nat.ne_of_gt (blk_lt (g := gb645) (o := .cells #[.int .i64 a0_0, .int .i64 a0_1] 26 (0, 0)) (by (with_reducible repeat (first | refine zB ?_ _ | refine zD ?_ | refine zC ?_ _)); exact BK645.out)) : gb647 ≠ gb645)); have n8_ := zA ((by rw [hg]; exact Nat.ne_of_lt (blk_lt (g := gb646) (o := .cells #[.int .i64 a1_0, .int .i64 a1_1] 26 (0, 0)) (by (with_reducible repeat (first | refine zB ?_ _ | refine zD ?_ | refine zC ?_ _)); exact BK646.out)) : gb646 ≠ gb647)); have n9_ := zA ((by rw [hg]; exact Nat.ne_of_gt (blk_lt (g := gb646) (o := .cells #[.int .i64 a1_0, .int .i64 a1_1] 26 (0, 0)) (by (with_reducible repeat (first | refine zB ?_ _ | refine zD ?_ | refine zC ?_ _)); exact BK646.out)) : gb647 ≠ gb646)); clear BK645; clear BK646; clear HB; have BK645 := n0_; have BK646 := n1_; have HB := n2_; have BK647 := n3_; have GW647 := n4_; have GE647 := n5_; have NB645_647 := n6_; have NB647_645 := n7_; have NB646_647 := n8_; have NB647_646 := n9_; clear n0_ n1_ n2_ n3_ n4_ n5_ n6_ n7_ n8_ n9_; clear hb hbox hg; have hnb34 := NB645_646.out; have hnc34 := NB646_645.out; have hnb35 := NB645_647.out; have hnc35 := NB647_645.out; have hcz36_0 : w33.cell? ⟨gb645, 0, none⟩ = some (.int .i64 a0_0) := (zJ BK645.out 0).trans rfl; have hcz36_1 : w33.cell? ⟨gb645, 1, none⟩ = some (.int .i64 a0_1) := (zJ BK645.out 1).trans rfl; have hfz36_0 := zK BK645.out 0; have hfz36_1 := zK BK645.out 1; have hnb37 := NB646_647.out; have hnc37 := NB647_646.out; have hcz38_0 : w33.cell? ⟨gb646, 0, none⟩ = some (.int .i64 a1_0) := (zJ BK646.out 0).trans rfl; have hcz38_1 : w33.cell? ⟨gb646, 1, none⟩ = some (.int .i64 a1_1) := (zJ BK646.out 1).trans rfl; have hfz38_0 := zK BK646.out 0; have hfz38_1 := zK BK646.out 1; have hcz39_0 : w33.cell? ⟨gb647, 0, none⟩ = some (.int .i64 0) := (zJ BK647.out 0).trans rfl; have hcz39_1 : w33.cell? ⟨gb647, 1, none⟩ = some (.int .i64 0) := (zJ BK647.out 1).trans rfl; have hfz39_0 := zK BK647.out 0; have hfz39_1 := zK BK647.out 1) | (go_at_call 73; (with_reducible refine (spec_l1Abs.calls a0_0 t648 _ A4.out).mono ?_); rintro e w' ⟨rfl, ⟨nd, rfl⟩⟩; (try first | exact ⟨rfl, _, World.drewN_drewN _ _ _⟩ | exact ⟨rfl, _, Eq.trans (World.drewN_drewN _ _ _) (congrArg (World.drewN _) (Nat.add_assoc _ _ _))⟩)) | (go_at_call 73; (with_reducible refine (spec_l1Abs.calls a1_0 t649 _ A5.out).mono ?_); rintro e w' ⟨rfl, ⟨nd, rfl⟩⟩; (try first | exact ⟨rfl, _, World.drewN_drewN _ _ _⟩ | exact ⟨rfl, _, Eq.trans (World.drewN_drewN _ _ _) (congrArg (World.drewN _) (Nat.add_assoc _ _ _))⟩)) | (go_at_call 74; (with_reducible refine (spec_l1Quot.calls k t648 t649 (wrap64 ((wrap64 (a0_1 - a1_1)) + a2)) t650 false _ A6.out).mono ?_); rintro e w' ⟨rfl, ⟨nd, rfl⟩⟩; (try first | exact ⟨rfl, _, World.drewN_drewN _ _ _⟩ | exact ⟨rfl, _, Eq.trans (World.drewN_drewN _ _ _) (congrArg (World.drewN _) (Nat.add_assoc _ _ _))⟩))); try go_wp2_with (first | ((with_reducible refine zS (N := 3) rfl ?_); refine zV ?hg (N := 3) ?hd (cs := #[.int .i64 a0_0, .int .i64 a0_1]) (t := 26) ?hr ?_; (case hd => rfl); (case hg => rfl); (case hr => first | (go_simp; done) | (go_simp; rfl)); intro gb645 hg w31 hbox hb; have n0_ := zA (zQ (by repeat (first | (with_reducible first | exact HB.out | apply zG | apply zE | apply zF) | exact HB.out)) hb); have n1_ := zA (hbox); have n2_ := zA ((by rw [hg]; exact (zR (by repeat (first | (with_reducible first | exact HB.out | apply zG | apply zE | apply zF) | exact HB.out))) : w.heap.size ≤ gb645)); have n3_ := zA ((by rw [hg]; exact (zR (by repeat (first | (with_reducible first | exact HB.out | apply zG | apply zE | apply zF) | exact HB.out))) : w.heap.size ≤ gb645)); clear HB; have HB := n0_; have BK645 := n1_; have GW645 := n2_; have GE645 := n3_; clear n0_ n1_ n2_ n3_; clear hb hbox hg) | ((with_reducible refine zS (N := 4) rfl ?_); refine zV ?hg (N := 4) ?hd (cs := #[.int .i64 a1_0, .int .i64 a1_1]) (t := 26) ?hr ?_; (case hd => rfl); (case hg => rfl); (case hr => first | (go_simp; done) | (go_simp; rfl)); intro gb646 hg w32 hbox hb; have n0_ := zA (zP (g := gb645) (o := .cells #[.int .i64 a0_0, .int .i64 a0_1] 26 (0, 0)) (by (with_reducible repeat (first | refine zB ?_ _ | refine zD ?_ | refine zC ?_ _)); exact BK645.out) hb); have n1_ := zA (zQ (by repeat (first | (with_reducible first | exact HB.out | apply zG | apply zE | apply zF | refine zH ?_ GE645.out) | exact HB.out)) hb); have n2_ := zA (hbox); have n3_ := zA ((by rw [hg]; exact (zR (by repeat (first | (with_reducible first | exact HB.out | apply zG | apply zE | apply zF | refine zH ?_ GE645.out) | exact HB.out))) : w.heap.size ≤ gb646)); have n4_ := zA ((by rw [hg]; exact (zR (by repeat (first | (with_reducible first | exact HB.out | apply zG | apply zE | apply zF | refine zH ?_ GE645.out) | exact HB.out))) : w.heap.size ≤ gb646)); have n5_ := zA ((by rw [hg]; exact Nat.ne_of_lt (blk_lt (g := gb645) (o := .cells #[.int .i64 a0_0, .int .i64 a0_1] 26 (0, 0)) (by (with_reducible repeat (first | refine zB ?_ _ | refine zD ?_ | refine zC ?_ _)); exact BK645.out)) : gb645 ≠ gb646)); have n6_ := zA ((by rw [hg]; exact Nat.ne_of_gt (blk_lt (g := gb645) (o := .cells #[.int .i64 a0_0, .int .i64 a0_1] 26 (0, 0)) (by (with_reducible repeat (first | refine zB ?_ _ | refine zD ?_ | refine zC ?_ _)); exact BK645.out)) : gb646 ≠ gb645)); clear BK645; clear HB; have BK645 := n0_; have HB := n1_; have BK646 := n2_; have GW646 := n3_; have GE646 := n4_; have NB645_646 := n5_; have NB646_645 := n6_; clear n0_ n1_ n2_ n3_ n4_ n5_ n6_; clear hb hbox hg) | ((with_reducible refine zS (N := 6) rfl ?_); refine zV ?hg (N := 6) ?hd (cs := #[.int .i64 0, .int .i64 0]) (t := 26) ?hr ?_; (case hd => rfl); (case hg => rfl); (case hr => first | (go_simp; done) | (go_simp; rfl)); intro gb647 hg w33 hbox hb; have n0_ := zA (zP (g := gb645) (o := .cells #[.int .i64 a0_0, .int .i64 a0_1] 26 (0, 0)) (by (with_reducible repeat (first | refine zB ?_ _ | refine zD ?_ | refine zC ?_ _)); exact BK645.out) hb); have n1_ := zA (zP (g := gb646) (o := .cells #[.int .i64 a1_0, .int .i64 a1_1] 26 (0, 0)) (by (with_reducible repeat (first | refine zB ?_ _ | refine zD ?_ | refine zC ?_ _)); exact BK646.out) hb); have n2_ := zA (zQ (by repeat (first | (with_reducible first | exact HB.out | apply zG | apply zE | apply zF | refine zH ?_ GE645.out | refine zH ?_ GE646.out) | exact HB.out)) hb); have n3_ := zA (hbox); have n4_ := zA ((by rw [hg]; exact (zR (by repeat (first | (with_reducible first | exact HB.out | apply zG | apply zE | apply zF | refine zH ?_ GE645.out | refine zH ?_ GE646.out) | exact HB.out))) : w.heap.size ≤ gb647)); have n5_ := zA ((by rw [hg]; exact (zR (by repeat (first | (with_reducible first | exact HB.out | apply zG | apply zE | apply zF | refine zH ?_ GE645.out | refine zH ?_ GE646.out) | exact HB.out))) : w.heap.size ≤ gb647)); have n6_ := zA ((by rw [hg]; exact Nat.ne_of_lt (blk_lt (g := gb645) (o := .cells #[.int .i64 a0_0, .int .i64 a0_1] 26 (0, 0)) (by (with_reducible repeat (first | refine zB ?_ _ | refine zD ?_ | refine zC ?_ _)); exact BK645.out)) : gb645 ≠ gb647)); have n7_ := zA ((by rw [hg]; exact Nat.ne_of_gt (blk_lt (g := gb645) (o := .cells #[.int .i64 a0_0, .int .i64 a0_1] 26 (0, 0)) (by (with_reducible repeat (first | refine zB ?_ _ | refine zD ?_ | refine zC ?_ _)); exact BK645.out)) : gb647 ≠ gb645)); have n8_ := zA ((by rw [hg]; exact Nat.ne_of_lt (blk_lt (g := gb646) (o := .cells #[.int .i64 a1_0, .int .i64 a1_1] 26 (0, 0)) (by (with_reducible repeat (first | refine zB ?_ _ | refine zD ?_ | refine zC ?_ _)); exact BK646.out)) : gb646 ≠ gb647)); have n9_ := zA ((by rw [hg]; exact Nat.ne_of_gt (blk_lt (g := gb646) (o := .cells #[.int .i64 a1_0, .int .i64 a1_1] 26 (0, 0)) (by (with_reducible repeat (first | refine zB ?_ _ | refine zD ?_ | refine zC ?_ _)); exact BK646.out)) : gb647 ≠ gb646)); clear BK645; clear BK646; clear HB; have BK645 := n0_; have BK646 := n1_; have HB := n2_; have BK647 := n3_; have GW647 := n4_; have GE647 := n5_; have NB645_647 := n6_; have NB647_645 := n7_; have NB646_647 := n8_; have NB647_646 := n9_; clear n0_ n1_ n2_ n3_ n4_ n5_ n6_ n7_ n8_ n9_; clear hb hbox hg; have hnb34 := NB645_646.out; have hnc34 := NB646_645.out; have hnb35 := NB645_647.out; have hnc35 := NB647_645.out; have hcz36_0 : w33.cell? ⟨gb645, 0, none⟩ = some (.int .i64 a0_0) := (zJ BK645.out 0).trans rfl; have hcz36_1 : w33.cell? ⟨gb645, 1, none⟩ = some (.int .i64 a0_1) := (zJ BK645.out 1).trans rfl; have hfz36_0 := zK BK645.out 0; have hfz36_1 := zK BK645.out 1; have hnb37 := NB646_647.out; have hnc37 := NB647_646.out; have hcz38_0 : w33.cell? ⟨gb646, 0, none⟩ = some (.int .i64 a1_0) := (zJ BK646.out 0).trans rfl; have hcz38_1 : w33.cell? ⟨gb646, 1, none⟩ = some (.int .i64 a1_1) := (zJ BK646.out 1).trans rfl; have hfz38_0 := zK BK646.out 0; have hfz38_1 := zK BK646.out 1; have hcz39_0 : w33.cell? ⟨gb647, 0, none⟩ = some (.int .i64 0) := (zJ BK647.out 0).trans rfl; have hcz39_1 : w33.cell? ⟨gb647, 1, none⟩ = some (.int .i64 0) := (zJ BK647.out 1).trans rfl; have hfz39_0 := zK BK647.out 0; have hfz39_1 := zK BK647.out 1) | (go_at_call 73; (with_reducible refine (spec_l1Abs.calls a0_0 t648 _ A4.out).mono ?_); rintro e w' ⟨rfl, ⟨nd, rfl⟩⟩; (try first | exact ⟨rfl, _, World.drewN_drewN _ _ _⟩ | exact ⟨rfl, _, Eq.trans (World.drewN_drewN _ _ _) (congrArg (World.drewN _) (Nat.add_assoc _ _ _))⟩)) | (go_at_call 73; (with_reducible refine (spec_l1Abs.calls a1_0 t649 _ A5.out).mono ?_); rintro e w' ⟨rfl, ⟨nd, rfl⟩⟩; (try first | exact ⟨rfl, _, World.drewN_drewN _ _ _⟩ | exact ⟨rfl, _, Eq.trans (World.drewN_drewN _ _ _) (congrArg (World.drewN _) (Nat.add_assoc _ _ _))⟩)) | (go_at_call 74; (with_reducible refine (spec_l1Quot.calls k t648 t649 (wrap64 ((wrap64 (a0_1 - a1_1)) + a2)) t650 false _ A6.out).mono ?_); rintro e w' ⟨rfl, ⟨nd, rfl⟩⟩; (try first | exact ⟨rfl, _, World.drewN_drewN _ _ _⟩ | exact ⟨rfl, _, Eq.trans (World.drewN_drewN _ _ _) (congrArg (World.drewN _) (Nat.add_assoc _ _ _))⟩))))
  refine bodyPost_ret (results_ct rfl _ _ gb647 26 #[.int .i64 0, .int .i64 0] (0, 0) _ rfl (by (with_reducible repeat (first | refine zB ?_ _ | refine zD ?_ | refine zC ?_ _)); refine blk_put (cs := #[.int .i64 0, .int .i64 0]) ?_ 1 _ rfl; (with_reducible repeat (first | refine zB ?_ _ | refine zD ?_ | refine zC ?_ _)); refine blk_put (cs := #[.int .i64 0, .int .i64 0]) ?_ 0 _ rfl; (with_reducible repeat (first | refine zB ?_ _ | refine zD ?_ | refine zC ?_ _)); exact BK647.out) Try.underlying26 rfl (by kernel_rfl)) rfl ?_
  exact ⟨by first | rfl | (simp [errW_none, errW_some] <;> rfl) | (simp [*, errW_none, errW_some] <;> rfl), by repeat (first | (with_reducible first | exact HB.out | apply zG | apply zE | apply zF | refine zH ?_ GE645.out | refine zH ?_ GE646.out | refine zH ?_ GE647.out) | exact HB.out)⟩

end Go.Proofs.Ytmoaolcioihjnaa.Q

namespace Go.Proofs.Ytmoaolcioihjnaa.Q
open Go.RowKit Go.Proofs.YtmoaolcioihjnaaW.PrintWords Go.Proofs.YtmoaolcioihjnaaW.PrintLast Go.Proofs.YtmoaolcioihjnaaW.PrintMore Go.Proofs.YtmoaolcioihjnaaX
attribute [local go_sem] max2_int min2_int max_two min_two max_three min_three max_four min_four   -- for this text's walks alone
set_option linter.unusedVariables false
set_option linter.unusedSimpArgs false

def spec_DecDiv.f (k : Nat) (a0_0 : Int) (a0_1 : Int) (a1_0 : Int) (a1_1 : Int) (a2 : Int) : Option (Int × Int × Bool) := (spec_DecOk.f a0_0 a0_1).bind fun t661 => (if t661 = true then ((spec_DecOk.f a1_0 a1_1).bind fun t662 => (if t662 = true then (if a1_0 = 0 then (some (0, 0, false)) else ((spec_l1In.f a2 0 8).bind fun t663 => (if t663 = true then ((spec_l1Div.f k a0_0 a0_1 a1_0 a1_1 a2).bind fun bt664 => (some (bt664.1, bt664.2.1, bt664.2.2))) else (some (0, 0, false))))) else (some (0, 0, false)))) else (some (0, 0, false)))
theorem spec_DecDiv.mono : ∀ a0 a1 a2 a3 a4 k, LeO (spec_DecDiv.f k a0 a1 a2 a3 a4) (spec_DecDiv.f (k + 1) a0 a1 a2 a3 a4) := by
 intro a0 a1 a2 a3 a4 k
 unfold spec_DecDiv.f
 repeat' first
   | (with_reducible exact spec_l1Div.mono _ _ _ _ _ _)
   | (with_reducible exact LeO.refl _)
   | (with_reducible exact LeO.none _)
   | (with_reducible refine LeO.ite ?_ ?_)
   | (with_reducible refine LeO.bind ?_ (fun _ => ?_))
   | exact spec_l1Div.mono _ _ _ _ _ _
   | exact LeO.none _
   | refine LeO.ite ?_ ?_
   | refine LeO.bind ?_ (fun _ => ?_)
set_option maxHeartbeats 8000000 in
set_option maxRecDepth 100000 in
theorem spec_DecDiv.calls (k : Nat) (a0_0 : Int) (a0_1 : Int) (a1_0 : Int) (a1_1 : Int) (a2 : Int) (r1 : Int) (r2 : Int) (r3 : Bool) (w : World) (h : spec_DecDiv.f k a0_0 a0_1 a1_0 a1_1 a2 = some (r1, r2, r3)) :
  Calls Try.prog 38 #[.agg #[.int .i64 a0_0, .int .i64 a0_1], .agg #[.int .i64 a1_0, .int .i64 a1_1], .int .i64 a2] w fun e w' => e = .returned (.tuple #[.agg #[.int .i64 r1, .int .i64 r2], .bool r3]) ∧ Below w.heap.size w w' := by
 have hu26 := Try.underlying26
 have HB := zA (Below.refl w.heap.size w)
 have H : ((spec_DecOk.f a0_0 a0_1).bind fun t661 => (if t661 = true then ((spec_DecOk.f a1_0 a1_1).bind fun t662 => (if t662 = true then (if a1_0 = 0 then (some (0, 0, false)) else ((spec_l1In.f a2 0 8).bind fun t663 => (if t663 = true then ((spec_l1Div.f k a0_0 a0_1 a1_0 a1_1 a2).bind fun bt664 => (some (bt664.1, bt664.2.1, bt664.2.2))) else (some (0, 0, false))))) else (some (0, 0, false)))) else (some (0, 0, false)))) = some (r1, r2, r3) := h
 clear h
 replace H := Option.bind_eq_some_iff.mp H
 obtain ⟨t661, A40, H⟩ := H
 replace H : (if t661 = true then ((spec_DecOk.f a1_0 a1_1).bind fun t662 => (if t662 = true then (if a1_0 = 0 then (some (0, 0, false)) else ((spec_l1In.f a2 0 8).bind fun t663 => (if t663 = true then ((spec_l1Div.f k a0_0 a0_1 a1_0 a1_1 a2).bind fun bt664 => (some (bt664.1, bt664.2.1, bt664.2.2))) else (some (0, 0, false))))) else (some (0, 0, false)))) else (some (0, 0, false))) = some (r1, r2, r3) := H
 have A4 := zA A40
 clear A40
 by_cases c5 : t661 = true
 ·subst c5
  have H1 : ((spec_DecOk.f a1_0 a1_1).bind fun t662 => (if t662 = true then (if a1_0 = 0 then (some (0, 0, false)) else ((spec_l1In.f a2 0 8).bind fun t663 => (if t663 = true then ((spec_l1Div.f k a0_0 a0_1 a1_0 a1_1 a2).bind fun bt664 => (some (bt664.1, bt664.2.1, bt664.2.2))) else (some (0, 0, false))))) else (some (0, 0, false)))) = some (r1, r2, r3) := by rw [if_pos rfl] at H; exact H
  clear H
  have H := H1
  clear H1
  replace H := Option.bind_eq_some_iff.mp H
  obtain ⟨t662, A60, H⟩ := H
  replace H : (if t662 = true then (if a1_0 = 0 then (some (0, 0, false)) else ((spec_l1In.f a2 0 8).bind fun t663 => (if t663 = true then ((spec_l1Div.f k a0_0 a0_1 a1_0 a1_1 a2).bind fun bt664 => (some (bt664.1, bt664.2.1, bt664.2.2))) else (some (0, 0, false))))) else (some (0, 0, false))) = some (r1, r2, r3) := H
  have A6 := zA A60
  clear A60
  by_cases c7 : t662 = true
  ·subst c7
   have H1 : (if a1_0 = 0 then (some (0, 0, false)) else ((spec_l1In.f a2 0 8).bind fun t663 => (if t663 = true then ((spec_l1Div.f k a0_0 a0_1 a1_0 a1_1 a2).bind fun bt664 => (some (bt664.1, bt664.2.1, bt664.2.2))) else (some (0, 0, false))))) = some (r1, r2, r3) := by rw [if_pos rfl] at H; exact H
   clear H
   have H := H1
   clear H1
   by_cases c8 : a1_0 = 0
   ·rw [if_pos c8] at H
    have c8b0 : (a1_0 == 0) = true := beq_iff_eq.mpr c8
    have c8b1 : (a1_0 != 0) = false := bne_eq_false_iff_eq.mpr c8
    clear c8
    simp only [Option.some.injEq, Prod.mk.injEq] at H
    obtain ⟨rfl, rfl, rfl⟩ := H
    go_enter Try.func38, Try.ntmps38
    go_wp2_with (first | ((with_reducible refine zS (N := 3) rfl ?_); refine zV ?hg (N := 3) ?hd (cs := #[.int .i64 a0_0, .int .i64 a0_1]) (t := 26) ?hr ?_; (case hd => rfl); (case hg => rfl); (case hr => first | (go_simp; done) | (go_simp; rfl)); intro gb658 hg w9 hbox hb; have n0_ := zA (zQ (by repeat (first | (with_reducible first | exact HB.out | apply zG | apply zE | apply zF) | exact HB.out)) hb); have n1_ := zA (hbox); have n2_ := zA ((by rw [hg]; exact (zR (by repeat (first | (with_reducible first | exact HB.out | apply zG | apply zE | apply zF) | exact HB.out))) : w.heap.size ≤ gb658)); have n3_ := zA ((by rw [hg]; exact (zR (by repeat (first | (with_reducible first | exact HB.out | apply zG | apply zE | apply zF) | exact HB.out))) : w.heap.size ≤ gb658)); clear HB; have HB := n0_; have BK658 := n1_; have GW658 := n2_; have GE658 := n3_; clear n0_ n1_ n2_ n3_; clear hb hbox hg) | ((with_reducible refine zS (N := 4) rfl ?_); refine zV ?hg (N := 4) ?hd (cs := #[.int .i64 a1_0, .int .i64 a1_1]) (t := 26) ?hr ?_; (case hd => rfl); (case hg => rfl); (case hr => first | (go_simp; done) | (go_simp; rfl)); intro gb659 hg w10 hbox hb; have n0_ := zA (zP (g := gb658) (o := .cells #[.int .i64 a0_0, .int .i64 a0_1] 26 (0, 0)) (by (with_reducible repeat (first | refine zB ?_ _ | refine zD ?_ | refine zC ?_ _)); exact BK658.out) hb); have n1_ := zA (zQ (by repeat (first | (with_reducible first | exact HB.out | apply zG | apply zE | apply zF | refine zH ?_ GE658.out) | exact HB.out)) hb); have n2_ := zA (hbox); have n3_ := zA ((by rw [hg]; exact (zR (by repeat (first | (with_reducible first | exact HB.out | apply zG | apply zE | apply zF | refine zH ?_ GE658.out) | exact HB.out))) : w.heap.size ≤ gb659)); have n4_ := zA ((by rw [hg]; exact (zR (by repeat (first | (with_reducible first | exact HB.out | apply zG | apply zE | apply zF | refine zH ?_ GE658.out) | exact HB.out))) : w.heap.size ≤ gb659)); have n5_ := zA ((by rw [hg]; exact Nat.ne_of_lt (blk_lt (g := gb658) (o := .cells #[.int .i64 a0_0, .int .i64 a0_1] 26 (0, 0)) (by (with_reducible repeat (first | refine zB ?_ _ | refine zD ?_ | refine zC ?_ _)); exact BK658.out)) : gb658 ≠ gb659)); have n6_ := zA ((by rw [hg]; exact Nat.ne_of_gt (blk_lt (g := gb658) (o := .cells #[.int .i64 a0_0, .int .i64 a0_1] 26 (0, 0)) (by (with_reducible repeat (first | refine zB ?_ _ | refine zD ?_ | refine zC ?_ _)); exact BK658.out)) : gb659 ≠ gb658)); clear BK658; clear HB; have BK658 := n0_; have HB := n1_; have BK659 := n2_; have GW659 := n3_; have GE659 := n4_; have NB658_659 := n5_; have NB659_658 := n6_; clear n0_ n1_ n2_ n3_ n4_ n5_ n6_; clear hb hbox hg) | ((with_reducible refine zS (N := 6) rfl ?_); refine zV ?hg (N := 6) ?hd (cs := #[.int .i64 0, .int .i64 0]) (t := 26) ?hr ?_; (case hd => rfl); (case hg => rfl); (case hr => first | (go_simp; done) | (go_simp; rfl)); intro gb660 hg w11 hbox hb; have n0_ := zA (zP (g := gb658) (o := .cells #[.int .i64 a0_0, .int .i64 a0_1] 26 (0, 0)) (by (with_reducible repeat (first | refine zB ?_ _ | refine zD ?_ | refine zC ?_ _)); exact BK658.out) hb); have n1_ := zA (zP (g := gb659) (o := .cells #[.int .i64 a1_0, .int .i64 a1_1] 26 (0, 0)) (by (with_reducible repeat (first | refine zB ?_ _ | refine zD ?_ | refine zC ?_ _)); exact BK659.out) hb); have n2_ := zA (zQ (by repeat (first | (with_reducible first | exact HB.out | apply zG | apply zE | apply zF | refine zH ?_ GE658.out | refine zH ?_ GE659.out) | exact HB.out)) hb); have n3_ := zA (hbox); have n4_ := zA ((by rw [hg]; exact (zR (by repeat (first | (with_reducible first | exact HB.out | apply zG | apply zE | apply zF | refine zH ?_ GE658.out | refine zH ?_ GE659.out) | exact HB.out))) : w.heap.size ≤ gb660)); have n5_ := zA ((by rw [hg]; exact (zR (by repeat (first | (with_reducible first | exact HB.out | apply zG | apply zE | apply zF | refine zH ?_ GE658.out | refine zH ?_ GE659.out) | exact HB.out))) : w.heap.size ≤ gb660)); have n6_ := zA ((by rw [hg]; exact Nat.ne_of_lt (blk_lt (g := gb658) (o := .cells #[.int .i64 a0_0, .int .i64 a0_1] 26 (0, 0)) (by (with_reducible repeat (first | refine zB ?_ _ | refine zD ?_ | refine zC ?_ _)); exact BK658.out)) : gb658 ≠ gb660)); have n7_ := zA ((by rw [hg]; exact Nat.ne_of_gt (blk_lt (g := gb658) (o := .cells #[.int .i64 a0_0, .int .i64 a0_1] 26 (0, 0)) (by (with_reducible repeat (first | refine zB ?_ _ | refine zD ?_ | refine zC ?_ _)); exact BK658.out)) : gb660 ≠ gb658)); have n8_ := zA ((by rw [hg]; exact Nat.ne_of_lt (blk_lt (g := gb659) (o := .cells #[.int .i64 a1_0, .int .i64 a1_1] 26 (0, 0)) (by (with_reducible repeat (first | refine zB ?_ _ | refine zD ?_ | refine zC ?_ _)); exact BK659.out)) : gb659 ≠ gb660)); have n9_ := zA ((by rw [hg]; exact Nat.ne_of_gt (blk_lt (g := gb659) (o := .cells #[.int .i64 a1_0, .int .i64 a1_1] 26 (0, 0)) (by (with_reducible repeat (first | refine zB ?_ _ | refine zD ?_ | refine zC ?_ _)); exact BK659.out)) : gb660 ≠ gb659)); clear BK658; clear BK659; clear HB; have BK658 := n0_; have BK659 := n1_; have HB := n2_; have BK660 := n3_; have GW660 := n4_; have GE660 := n5_; have NB658_660 := n6_; have NB660_658 := n7_; have NB659_660 := n8_; have NB660_659 := n9_; clear n0_ n1_ n2_ n3_ n4_ n5_ n6_ n7_ n8_ n9_; clear hb hbox hg; have hnb12 := NB658_659.out; have hnc12 := NB659_658.out; have hnb13 := NB658_660.out; have hnc13 := NB660_658.out; have hcz14_0 : w11.cell? ⟨gb658, 0, none⟩ = some (.int .i64 a0_0) := (zJ BK658.out 0).trans rfl; have hcz14_1 : w11.cell? ⟨gb658, 1, none⟩ = some (.int .i64 a0_1) := (zJ BK658.out 1).trans rfl; have hfz14_0 := zK BK658.out 0; have hfz14_1 := zK BK658.out 1) | ((with_reducible refine zT (f := 20) rfl ?_); refine goesL_ (some 9) rfl rfl Try.func20 (by kernel_rfl) rfl #[.agg #[.int .i64 a0_0, .int .i64 a0_1]] rfl (by (try simp only [List.map_toArray, List.map_cons, List.map_nil]); first | done | rfl | (simp only [List.length_drop, List.length_take]; rfl)) ?_; (with_reducible refine (spec_DecOk.calls a0_0 a0_1 true _ A4.out).mono ?_); rintro e w15 ⟨rfl, hb⟩; refine ⟨_, rfl, ?_⟩; have n0_ := zA (zP (g := gb658) (o := .cells #[.int .i64 a0_0, .int .i64 a0_1] 26 (0, 0)) (by (with_reducible repeat (first | refine zB ?_ _ | refine zD ?_ | refine zC ?_ _)); exact BK658.out) hb); have n1_ := zA (zP (g := gb659) (o := .cells #[.int .i64 a1_0, .int .i64 a1_1] 26 (0, 0)) (by (with_reducible repeat (first | refine zB ?_ _ | refine zD ?_ | refine zC ?_ _)); exact BK659.out) hb); have n2_ := zA (zP (g := gb660) (o := .cells #[.int .i64 0, .int .i64 0] 26 (0, 0)) (by (with_reducible repeat (first | refine zB ?_ _ | refine zD ?_ | refine zC ?_ _)); exact BK660.out) hb); have n3_ := zA (zQ (by repeat (first | (with_reducible first | exact HB.out | apply zG | apply zE | apply zF | refine zH ?_ GE658.out | refine zH ?_ GE659.out | refine zH ?_ GE660.out) | exact HB.out)) hb); clear BK658; clear BK659; clear BK660; clear HB; have BK658 := n0_; have BK659 := n1_; have BK660 := n2_; have HB := n3_; clear n0_ n1_ n2_ n3_; (try clear hb); (try clear hb2); (try clear hk); (try clear hi); have hnb16 := NB659_660.out; have hnc16 := NB660_659.out; have hcz17_0 : w15.cell? ⟨gb659, 0, none⟩ = some (.int .i64 a1_0) := (zJ BK659.out 0).trans rfl; have hcz17_1 : w15.cell? ⟨gb659, 1, none⟩ = some (.int .i64 a1_1) := (zJ BK659.out 1).trans rfl; have hfz17_0 := zK BK659.out 0; have hfz17_1 := zK BK659.out 1) | (go_at_call 20; (with_reducible refine (spec_DecOk.calls a1_0 a1_1 true _ A6.out).mono ?_); rintro e w18 ⟨rfl, hb⟩; have n0_ := zA (zP (g := gb658) (o := .cells #[.int .i64 a0_0, .int .i64 a0_1] 26 (0, 0)) (by (with_reducible repeat (first | refine zB ?_ _ | refine zD ?_ | refine zC ?_ _)); exact BK658.out) hb); have n1_ := zA (zP (g := gb659) (o := .cells #[.int .i64 a1_0, .int .i64 a1_1] 26 (0, 0)) (by (with_reducible repeat (first | refine zB ?_ _ | refine zD ?_ | refine zC ?_ _)); exact BK659.out) hb); have n2_ := zA (zP (g := gb660) (o := .cells #[.int .i64 0, .int .i64 0] 26 (0, 0)) (by (with_reducible repeat (first | refine zB ?_ _ | refine zD ?_ | refine zC ?_ _)); exact BK660.out) hb); have n3_ := zA (zQ (by repeat (first | (with_reducible first | exact HB.out | apply zG | apply zE | apply zF | refine zH ?_ GE658.out | refine zH ?_ GE659.out | refine zH ?_ GE660.out) | exact HB.out)) hb); clear BK658; clear BK659; clear BK660; clear HB; have BK658 := n0_; have BK659 := n1_; have BK660 := n2_; have HB := n3_; clear n0_ n1_ n2_ n3_; (try clear hb); (try clear hb2); (try clear hk); (try clear hi); have hcz19_0 : w18.cell? ⟨gb659, 0, none⟩ = some (.int .i64 a1_0) := (zJ BK659.out 0).trans rfl; have hcz19_1 : w18.cell? ⟨gb659, 1, none⟩ = some (.int .i64 a1_1) := (zJ BK659.out 1).trans rfl; have hfz19_0 := zK BK659.out 0; have hfz19_1 := zK BK659.out 1; have hcz20_0 : w18.cell? ⟨gb660, 0, none⟩ = some (.int .i64 0) := (zJ BK660.out 0).trans rfl; have hcz20_1 : w18.cell? ⟨gb660, 1, none⟩ = some (.int .i64 0) := (zJ BK660.out 1).trans rfl; have hfz20_0 := zK BK660.out 0; have hfz20_1 := zK BK660.out 1))
    refine bodyPost_ret (results_ct rfl _ _ gb660 26 #[.int .i64 0, .int .i64 0] (0, 0) _ rfl (by (with_reducible repeat (first | refine zB ?_ _ | refine zD ?_ | refine zC ?_ _)); refine blk_put (cs := #[.int .i64 0, .int .i64 0]) ?_ 1 _ rfl; (with_reducible repeat (first | refine zB ?_ _ | refine zD ?_ | refine zC ?_ _)); refine blk_put (cs := #[.int .i64 0, .int .i64 0]) ?_ 0 _ rfl; (with_reducible repeat (first | refine zB ?_ _ | refine zD ?_ | refine zC ?_ _)); exact BK660.out) Try.underlying26 rfl (by kernel_rfl)) rfl ?_
    exact ⟨by first | rfl | (simp [errW_none, errW_some] <;> rfl) | (simp [*, errW_none, errW_some] <;> rfl), by repeat (first | (with_reducible first | exact HB.out | apply zG | apply zE | apply zF | refine zH ?_ GE658.out | refine zH ?_ GE659.out | refine zH ?_ GE660.out) | exact HB.out)⟩
   ·rw [if_neg c8] at H
    have c8b0 : (a1_0 == 0) = false := beq_eq_false_iff_ne.mpr c8
    have c8b1 : (a1_0 != 0) = true := bne_iff_ne.mpr c8
    replace H := Option.bind_eq_some_iff.mp H
    obtain ⟨t663, A210, H⟩ := H
    replace H : (if t663 = true then ((spec_l1Div.f k a0_0 a0_1 a1_0 a1_1 a2).bind fun bt664 => (some (bt664.1, bt664.2.1, bt664.2.2))) else (some (0, 0, false))) = some (r1, r2, r3) := H
    have A21 := zA A210
    clear A210
    by_cases c22 : t663 = true
    ·subst c22
     have H1 : ((spec_l1Div.f k a0_0 a0_1 a1_0 a1_1 a2).bind fun bt664 => (some (bt664.1, bt664.2.1, bt664.2.2))) = some (r1, r2, r3) := by rw [if_pos rfl] at H; exact H
     clear H
     have H := H1
     clear H1
     replace H := Option.bind_eq_some_iff.mp H
     obtain ⟨⟨t664, t665, t666⟩, A230, H⟩ := H
     replace H : (some (t664, t665, t666)) = some (r1, r2, r3) := H
     have A23 := zA A230
     clear A230
     simp only [Option.some.injEq, Prod.mk.injEq] at H
     obtain ⟨rfl, rfl, rfl⟩ := H
     go_enter Try.func38, Try.ntmps38
     go_wp2_with (first | ((with_reducible refine zS (N := 3) rfl ?_); refine zV ?hg (N := 3) ?hd (cs := #[.int .i64 a0_0, .int .i64 a0_1]) (t := 26) ?hr ?_; (case hd => rfl); (case hg => rfl); (case hr => first | (go_simp; done) | (go_simp; rfl)); intro gb658 hg w24 hbox hb; have n0_ := zA (zQ (by repeat (first | (with_reducible first | exact HB.out | apply zG | apply zE | apply zF) | exact HB.out)) hb); have n1_ := zA (hbox); have n2_ := zA ((by rw [hg]; exact (zR (by repeat (first | (with_reducible first | exact HB.out | apply zG | apply zE | apply zF) | exact HB.out))) : w.heap.size ≤ gb658)); have n3_ := zA ((by rw [hg]; exact (zR (by repeat (first | (with_reducible first | exact HB.out | apply zG | apply zE | apply zF) | exact HB.out))) : w.heap.size ≤ gb658)); clear HB; have HB := n0_; have BK658 := n1_; have GW658 := n2_; have GE658 := n3_; clear n0_ n1_ n2_ n3_; clear hb hbox hg) | ((with_reducible refine zS (N := 4) rfl ?_); refine zV ?hg (N := 4) ?hd (cs := #[.int .i64 a1_0, .int .i64 a1_1]) (t := 26) ?hr ?_; (case hd => rfl); (case hg => rfl); (case hr => first | (go_simp; done) | (go_simp; rfl)); intro gb659 hg w25 hbox hb; have n0_ := zA (zP (g := gb658) (o := .cells #[.int .i64 a0_0, .int .i64 a0_1] 26 (0, 0)) (by (with_reducible repeat (first | refine zB ?_ _ | refine zD ?_ | refine zC ?_ _)); exact BK658.out) hb); have n1_ := zA (zQ (by repeat (first | (with_reducible first | exact HB.out | apply zG | apply zE | apply zF | refine zH ?_ GE658.out) | exact HB.out)) hb); have n2_ := zA (hbox); have n3_ := zA ((by rw [hg]; exact (zR (by repeat (first | (with_reducible first | exact HB.out | apply zG | apply zE | apply zF | refine zH ?_ GE658.out) | exact HB.out))) : w.heap.size ≤ gb659)); have n4_ := zA ((by rw [hg]; exact (zR (by repeat (first | (with_reducible first | exact HB.out | apply zG | apply zE | apply zF | refine zH ?_ GE658.out) | exact HB.out))) : w.heap.size ≤ gb659)); have n5_ := zA ((by rw [hg]; exact Nat.ne_of_lt (blk_lt (g := gb658) (o := .cells #[.int .i64 a0_0, .int .i64 a0_1] 26 (0, 0)) (by (with_reducible repeat (first | refine zB ?_ _ | refine zD ?_ | refine zC ?_ _)); exact BK658.out)) : gb658 ≠ gb659)); have n6_ := zA ((by rw [hg]; exact Nat.ne_of_gt (blk_lt (g := gb658) (o := .cells #[.int .i64 a0_0, .int .i64 a0_1] 26 (0, 0)) (by (with_reducible repeat (first | refine zB ?_ _ | refine zD ?_ | refine zC ?_ _)); exact BK658.out)) : gb659 ≠ gb658)); clear BK658; clear HB; have BK658 := n0_; have HB := n1_; have BK659 := n2_; have GW659 := n3_; have GE659 := n4_; have NB658_659 := n5_; have NB659_658 := n6_; clear n0_ n1_ n2_ n3_ n4_ n5_ n6_; clear hb hbox hg) | ((with_reducible refine zS (N := 6) rfl ?_); refine zV ?hg (N := 6) ?hd (cs := #[.int .i64 0, .int .i64 0]) (t := 26) ?hr ?_; (case hd => rfl); (case hg => rfl); (case hr => first | (go_simp; done) | (go_simp; rfl)); intro gb660 hg w26 hbox hb; have n0_ := zA (zP (g := gb658) (o := .cells #[.int .i64 a0_0, .int .i64 a0_1] 26 (0, 0)) (by (with_reducible repeat (first | refine zB ?_ _ | refine zD ?_ | refine zC ?_ _)); exact BK658.out) hb); have n1_ := zA (zP (g := gb659) (o := .cells #[.int .i64 a1_0, .int .i64 a1_1] 26 (0, 0)) (by (with_reducible repeat (first | refine zB ?_ _ | refine zD ?_ | refine zC ?_ _)); exact BK659.out) hb); have n2_ := zA (zQ (by repeat (first | (with_reducible first | exact HB.out | apply zG | apply zE | apply zF | refine zH ?_ GE658.out | refine zH ?_ GE659.out) | exact HB.out)) hb); have n3_ := zA (hbox); have n4_ := zA ((by rw [hg]; exact (zR (by repeat (first | (with_reducible first | exact HB.out | apply zG | apply zE | apply zF | refine zH ?_ GE658.out | refine zH ?_ GE659.out) | exact HB.out))) : w.heap.size ≤ gb660)); have n5_ := zA ((by rw [hg]; exact (zR (by repeat (first | (with_reducible first | exact HB.out | apply zG | apply zE | apply zF | refine zH ?_ GE658.out | refine zH ?_ GE659.out) | exact HB.out))) : w.heap.size ≤ gb660)); have n6_ := zA ((by rw [hg]; exact Nat.ne_of_lt (blk_lt (g := gb658) (o := .cells #[.int .i64 a0_0, .int .i64 a0_1] 26 (0, 0)) (by (with_reducible repeat (first | refine zB ?_ _ | refine zD ?_ | refine zC ?_ _)); exact BK658.out)) : gb658 ≠ gb660)); have n7_ := zA ((by rw [hg]; exact Nat.ne_of_gt (blk_lt (g := gb658) (o := .cells #[.int .i64 a0_0, .int .i64 a0_1] 26 (0, 0)) (by (with_reducible repeat (first | refine zB ?_ _ | refine zD ?_ | refine zC ?_ _)); exact BK658.out)) : gb660 ≠ gb658)); have n8_ := zA ((by rw [hg]; exact Nat.ne_of_lt (blk_lt (g := gb659) (o := .cells #[.int .i64 a1_0, .int .i64 a1_1] 26 (0, 0)) (by (with_reducible repeat (first | refine zB ?_ _ | refine zD ?_ | refine zC ?_ _)); exact BK659.out)) : gb659 ≠ gb660)); have n9_ := zA ((by rw [hg]; exact Nat.ne_of_gt (blk_lt (g := gb659) (o := .cells #[.int .i64 a1_0, .int .i64 a1_1] 26 (0, 0)) (by (with_reducible repeat (first | refine zB ?_ _ | refine zD ?_ | refine zC ?_ _)); exact BK659.out)) : gb660 ≠ gb659)); clear BK658; clear BK659; clear HB; have BK658 := n0_; have BK659 := n1_; have HB := n2_; have BK660 := n3_; have GW660 := n4_; have GE660 := n5_; have NB658_660 := n6_; have NB660_658 := n7_; have NB659_660 := n8_; have NB660_659 := n9_; clear n0_ n1_ n2_ n3_ n4_ n5_ n6_ n7_ n8_ n9_; clear hb hbox hg; have hnb27 := NB658_659.out; have hnc27 := NB659_658.out; have hnb28 := NB658_660.out; have hnc28 := NB660_658.out; have hcz29_0 : w26.cell? ⟨gb658, 0, none⟩ = some (.int .i64 a0_0) := (zJ BK658.out 0).trans rfl; have hcz29_1 : w26.cell? ⟨gb658, 1, none⟩ = some (.int .i64 a0_1) := (zJ BK658.out 1).trans rfl; have hfz29_0 := zK BK658.out 0; have hfz29_1 := zK BK658.out 1) | ((with_reducible refine zT (f := 20) rfl ?_); refine goesL_ (some 9) rfl rfl Try.func20 (by kernel_rfl) rfl #[.agg #[.int .i64 a0_0, .int .i64 a0_1]] rfl (by (try simp only [List.map_toArray, List.map_cons, List.map_nil]); first | done | rfl | (simp only [List.length_drop, List.length_take]; rfl)) ?_; (with_reducible refine (spec_DecOk.calls a0_0 a0_1 true _ A4.out).mono ?_); rintro e w30 ⟨rfl, hb⟩; refine ⟨_, rfl, ?_⟩; have n0_ := zA (zP (g := gb658) (o := .cells #[.int .i64 a0_0, .int .i64 a0_1] 26 (0, 0)) (by (with_reducible repeat (first | refine zB ?_ _ | refine zD ?_ | refine zC ?_ _)); exact BK658.out) hb); have n1_ := zA (zP (g := gb659) (o := .cells #[.int .i64 a1_0, .int .i64 a1_1] 26 (0, 0)) (by (with_reducible repeat (first | refine zB ?_ _ | refine zD ?_ | refine zC ?_ _)); exact BK659.out) hb); have n2_ := zA (zP (g := gb660) (o := .cells #[.int .i64 0, .int .i64 0] 26 (0, 0)) (by (with_reducible repeat (first | refine zB ?_ _ | refine zD ?_ | refine zC ?_ _)); exact BK660.out) hb); have n3_ := zA (zQ (by repeat (first | (with_reducible first | exact HB.out | apply zG | apply zE | apply zF | refine zH ?_ GE658.out | refine zH ?_ GE659.out | refine zH ?_ GE660.out) | exact HB.out)) hb); clear BK658; clear BK659; clear BK660; clear HB; have BK658 := n0_; have BK659 := n1_; have BK660 := n2_; have HB := n3_; clear n0_ n1_ n2_ n3_; (try clear hb); (try clear hb2); (try clear hk); (try clear hi); have hnb31 := NB659_660.out; have hnc31 := NB660_659.out; have hcz32_0 : w30.cell? ⟨gb659, 0, none⟩ = some (.int .i64 a1_0) := (zJ BK659.out 0).trans rfl; have hcz32_1 : w30.cell? ⟨gb659, 1, none⟩ = some (.int .i64 a1_1) := (zJ BK659.out 1).trans rfl; have hfz32_0 := zK BK659.out 0; have hfz32_1 := zK BK659.out 1) | (go_at_call 20; (with_reducible refine (spec_DecOk.calls a1_0 a1_1 true _ A6.out).mono ?_); rintro e w33 ⟨rfl, hb⟩; have n0_ := zA (zP (g := gb658) (o := .cells #[.int .i64 a0_0, .int .i64 a0_1] 26 (0, 0)) (by (with_reducible repeat (first | refine zB ?_ _ | refine zD ?_ | refine zC ?_ _)); exact BK658.out) hb); have n1_ := zA (zP (g := gb659) (o := .cells #[.int .i64 a1_0, .int .i64 a1_1] 26 (0, 0)) (by (with_reducible repeat (first | refine zB ?_ _ | refine zD ?_ | refine zC ?_ _)); exact BK659.out) hb); have n2_ := zA (zP (g := gb660) (o := .cells #[.int .i64 0, .int .i64 0] 26 (0, 0)) (by (with_reducible repeat (first | refine zB ?_ _ | refine zD ?_ | refine zC ?_ _)); exact BK660.out) hb); have n3_ := zA (zQ (by repeat (first | (with_reducible first | exact HB.out | apply zG | apply zE | apply zF | refine zH ?_ GE658.out | refine zH ?_ GE659.out | refine zH ?_ GE660.out) | exact HB.out)) hb); clear BK658; clear BK659; clear BK660; clear HB; have BK658 := n0_; have BK659 := n1_; have BK660 := n2_; have HB := n3_; clear n0_ n1_ n2_ n3_; (try clear hb); (try clear hb2); (try clear hk); (try clear hi); have hcz34_0 : w33.cell? ⟨gb659, 0, none⟩ = some (.int .i64 a1_0) := (zJ BK659.out 0).trans rfl; have hcz34_1 : w33.cell? ⟨gb659, 1, none⟩ = some (.int .i64 a1_1) := (zJ BK659.out 1).trans rfl; have hfz34_0 := zK BK659.out 0; have hfz34_1 := zK BK659.out 1) | (go_at_call 48; (with_reducible refine (spec_l1In.calls a2 0 8 true _ A21.out).mono ?_); rintro e w' ⟨rfl, ⟨nd, rfl⟩⟩; (try ((repeat rw [World.drewN_drewN]); rw [drewN_self w33]; generalize hq_ : World.drewN w33 _ = w33; have n0_ : Aside0 (w33.heap[gb658]? = some (.cells #[.int .i64 a0_0, .int .i64 a0_1] 26 (0, 0))) := ⟨by rw [← hq_]; exact (by (with_reducible repeat (first | refine zB ?_ _ | refine zD ?_ | refine zC ?_ _)); exact BK658.out)⟩; have n1_ : Aside0 (w33.heap[gb659]? = some (.cells #[.int .i64 a1_0, .int .i64 a1_1] 26 (0, 0))) := ⟨by rw [← hq_]; exact (by (with_reducible repeat (first | refine zB ?_ _ | refine zD ?_ | refine zC ?_ _)); exact BK659.out)⟩; have n2_ : Aside0 (w33.heap[gb660]? = some (.cells #[.int .i64 0, .int .i64 0] 26 (0, 0))) := ⟨by rw [← hq_]; exact (by (with_reducible repeat (first | refine zB ?_ _ | refine zD ?_ | refine zC ?_ _)); exact BK660.out)⟩; have n3_ : Aside0 (Below w.heap.size w w33) := ⟨by rw [← hq_]; exact (by repeat (first | (with_reducible first | exact HB.out | apply zG | apply zE | apply zF | refine zH ?_ GE658.out | refine zH ?_ GE659.out | refine zH ?_ GE660.out) | exact HB.out))⟩; clear BK658 BK659 BK660 HB hq_; have BK658 := n0_; have BK659 := n1_; have BK660 := n2_; have HB := n3_; clear n0_ n1_ n2_ n3_)); (try (have hcu35_0 : w33.cell? ⟨gb658, 0, none⟩ = some (.int .i64 a0_0) := (zJ BK658.out 0).trans rfl; have hfu35_0 := zK BK658.out 0)); (try (have hcu35_1 : w33.cell? ⟨gb658, 1, none⟩ = some (.int .i64 a0_1) := (zJ BK658.out 1).trans rfl; have hfu35_1 := zK BK658.out 1)); (try (have hcu36_0 : w33.cell? ⟨gb659, 0, none⟩ = some (.int .i64 a1_0) := (zJ BK659.out 0).trans rfl; have hfu36_0 := zK BK659.out 0)); (try (have hcu36_1 : w33.cell? ⟨gb659, 1, none⟩ = some (.int .i64 a1_1) := (zJ BK659.out 1).trans rfl; have hfu36_1 := zK BK659.out 1)); (try (have hcu37_0 : w33.cell? ⟨gb660, 0, none⟩ = some (.int .i64 0) := (zJ BK660.out 0).trans rfl; have hfu37_0 := zK BK660.out 0)); (try (have hcu37_1 : w33.cell? ⟨gb660, 1, none⟩ = some (.int .i64 0) := (zJ BK660.out 1).trans rfl; have hfu37_1 := zK BK660.out 1)); have hcz38_0 : w33.cell? ⟨gb658, 0, none⟩ = some (.int .i64 a0_0) := (zJ BK658.out 0).trans rfl; have hcz38_1 : w33.cell? ⟨gb658, 1, none⟩ = some (.int .i64 a0_1) := (zJ BK658.out 1).trans rfl; have hfz38_0 := zK BK658.out 0; have hfz38_1 := zK BK658.out 1) | ((with_reducible refine zT (f := 64) rfl ?_); refine goesL_ (some 30) rfl rfl Try.func64 (by kernel_rfl) rfl #[.agg #[.int .i64 a0_0, .int .i64 a0_1], .agg #[.int .i64 a1_0, .int .i64 a1_1], .int .i64 a2] rfl (by (try simp only [List.map_toArray, List.map_cons, List.map_nil]); first | done | rfl | (simp only [List.length_drop, List.length_take]; rfl)) ?_; (with_reducible refine (spec_l1Div.calls k a0_0 a0_1 a1_0 a1_1 a2 t664 t665 t666 _ A23.out).mono ?_); rintro e w39 ⟨rfl, hb⟩; refine ⟨_, rfl, ?_⟩; have n0_ := zA (zP (g := gb658) (o := .cells #[.int .i64 a0_0, .int .i64 a0_1] 26 (0, 0)) (by (with_reducible repeat (first | refine zB ?_ _ | refine zD ?_ | refine zC ?_ _)); exact BK658.out) hb); have n1_ := zA (zP (g := gb659) (o := .cells #[.int .i64 a1_0, .int .i64 a1_1] 26 (0, 0)) (by (with_reducible repeat (first | refine zB ?_ _ | refine zD ?_ | refine zC ?_ _)); exact BK659.out) hb); have n2_ := zA (zP (g := gb660) (o := .cells #[.int .i64 0, .int .i64 0] 26 (0, 0)) (by (with_reducible repeat (first | refine zB ?_ _ | refine zD ?_ | refine zC ?_ _)); exact BK660.out) hb); have n3_ := zA (zQ (by repeat (first | (with_reducible first | exact HB.out | apply zG | apply zE | apply zF | refine zH ?_ GE658.out | refine zH ?_ GE659.out | refine zH ?_ GE660.out) | exact HB.out)) hb); clear BK658; clear BK659; clear BK660; clear HB; have BK658 := n0_; have BK659 := n1_; have BK660 := n2_; have HB := n3_; clear n0_ n1_ n2_ n3_; (try clear hb); (try clear hb2); (try clear hk); (try clear hi); have hcz40_0 : w39.cell? ⟨gb660, 0, none⟩ = some (.int .i64 0) := (zJ BK660.out 0).trans rfl; have hcz40_1 : w39.cell? ⟨gb660, 1, none⟩ = some (.int .i64 0) := (zJ BK660.out 1).trans rfl; have hfz40_0 := zK BK660.out 0; have hfz40_1 := zK BK660.out 1))
     refine bodyPost_ret (results_ct rfl _ _ gb660 26 #[.int .i64 t664, .int .i64 t665] (0, 0) _ rfl (by (with_reducible repeat (first | refine zB ?_ _ | refine zD ?_ | refine zC ?_ _)); refine blk_put (cs := #[.int .i64 t664, .int .i64 0]) ?_ 1 _ rfl; (with_reducible repeat (first | refine zB ?_ _ | refine zD ?_ | refine zC ?_ _)); refine blk_put (cs := #[.int .i64 0, .int .i64 0]) ?_ 0 _ rfl; (with_reducible repeat (first | refine zB ?_ _ | refine zD ?_ | refine zC ?_ _)); exact BK660.out) Try.underlying26 rfl (by kernel_rfl)) rfl ?_
     exact ⟨by first | rfl | (simp [errW_none, errW_some] <;> rfl) | (simp [*, errW_none, errW_some] <;> rfl), by repeat (first | (with_reducible first | exact HB.out | apply zG | apply zE | apply zF | refine zH ?_ GE658.out | refine zH ?_ GE659.out | refine zH ?_ GE660.out) | exact HB.out)⟩
    ·replace c22 := Bool.eq_false_iff.mpr c22
     subst c22
     have H1 : (some (0, 0, false)) = some (r1, r2, r3) := by rw [if_neg (show ¬ (false = true) by decide)] at H; exact H
     clear H
     have H := H1
     clear H1
     simp only [Option.some.injEq, Prod.mk.injEq] at H
     obtain ⟨rfl, rfl, rfl⟩ := H
     go_enter Try.func38, Try.ntmps38
     go_wp2_with (first | ((with_reducible refine zS (N := 3) rfl ?_); refine zV ?hg (N := 3) ?hd (cs := #[.int .i64 a0_0, .int .i64 a0_1]) (t := 26) ?hr ?_; (case hd => rfl); (case hg => rfl); (case hr => first | (go_simp; done) | (go_simp; rfl)); intro gb658 hg w41 hbox hb; have n0_ := zA (zQ (by repeat (first | (with_reducible first | exact HB.out | apply zG | apply zE | apply zF) | exact HB.out)) hb); have n1_ := zA (hbox); have n2_ := zA ((by rw [hg]; exact (zR (by repeat (first | (with_reducible first | exact HB.out | apply zG | apply zE | apply zF) | exact HB.out))) : w.heap.size ≤ gb658)); have n3_ := zA ((by rw [hg]; exact (zR (by repeat (first | (with_reducible first | exact HB.out | apply zG | apply zE | apply zF) | exact HB.out))) : w.heap.size ≤ gb658)); clear HB; have HB := n0_; have BK658 := n1_; have GW658 := n2_; have GE658 := n3_; clear n0_ n1_ n2_ n3_; clear hb hbox hg) | ((with_reducible refine zS (N := 4) rfl ?_); refine zV ?hg (N := 4) ?hd (cs := #[.int .i64 a1_0, .int .i64 a1_1]) (t := 26) ?hr ?_; (case hd => rfl); (case hg => rfl); (case hr => first | (go_simp; done) | (go_simp; rfl)); intro gb659 hg w42 hbox hb; have n0_ := zA (zP (g := gb658) (o := .cells #[.int .i64 a0_0, .int .i64 a0_1] 26 (0, 0)) (by (with_reducible repeat (first | refine zB ?_ _ | refine zD ?_ | refine zC ?_ _)); exact BK658.out) hb); have n1_ := zA (zQ (by repeat (first | (with_reducible first | exact HB.out | apply zG | apply zE | apply zF | refine zH ?_ GE658.out) | exact HB.out)) hb); have n2_ := zA (hbox); have n3_ := zA ((by rw [hg]; exact (zR (by repeat (first | (with_reducible first | exact HB.out | apply zG | apply zE | apply zF | refine zH ?_ GE658.out) | exact HB.out))) : w.heap.size ≤ gb659)); have n4_ := zA ((by rw [hg]; exact (zR (by repeat (first | (with_reducible first | exact HB.out | apply zG | apply zE | apply zF | refine zH ?_ GE658.out) | exact HB.out))) : w.heap.size ≤ gb659)); have n5_ := zA ((by rw [hg]; exact Nat.ne_of_lt (blk_lt (g := gb658) (o := .cells #[.int .i64 a0_0, .int .i64 a0_1] 26 (0, 0)) (by (with_reducible repeat (first | refine zB ?_ _ | refine zD ?_ | refine zC ?_ _)); exact BK658.out)) : gb658 ≠ gb659)); have n6_ := zA ((by rw [hg]; exact Nat.ne_of_gt (blk_lt (g := gb658) (o := .cells #[.int .i64 a0_0, .int .i64 a0_1] 26 (0, 0)) (by (with_reducible repeat (first | refine zB ?_ _ | refine zD ?_ | refine zC ?_ _)); exact BK658.out)) : gb659 ≠ gb658)); clear BK658; clear HB; have BK658 := n0_; have HB := n1_; have BK659 := n2_; have GW659 := n3_; have GE659 := n4_; have NB658_659 := n5_; have NB659_658 := n6_; clear n0_ n1_ n2_ n3_ n4_ n5_ n6_; clear hb hbox hg) | ((with_reducible refine zS (N := 6) rfl ?_); refine zV ?hg (N := 6) ?hd (cs := #[.int .i64 0, .int .i64 0]) (t := 26) ?hr ?_; (case hd => rfl); (case hg => rfl); (case hr => first | (go_simp; done) | (go_simp; rfl)); intro gb660 hg w43 hbox hb; have n0_ := zA (zP (g := gb658) (o := .cells #[.int .i64 a0_0, .int .i64 a0_1] 26 (0, 0)) (by (with_reducible repeat (first | refine zB ?_ _ | refine zD ?_ | refine zC ?_ _)); exact BK658.out) hb); have n1_ := zA (zP (g := gb659) (o := .cells #[.int .i64 a1_0, .int .i64 a1_1] 26 (0, 0)) (by (with_reducible repeat (first | refine zB ?_ _ | refine zD ?_ | refine zC ?_ _)); exact BK659.out) hb); have n2_ := zA (zQ (by repeat (first | (with_reducible first | exact HB.out | apply zG | apply zE | apply zF | refine zH ?_ GE658.out | refine zH ?_ GE659.out) | exact HB.out)) hb); have n3_ := zA (hbox); have n4_ := zA ((by rw [hg]; exact (zR (by repeat (first | (with_reducible first | exact HB.out | apply zG | apply zE | apply zF | refine zH ?_ GE658.out | refine zH ?_ GE659.out) | exact HB.out))) : w.heap.size ≤ gb660)); have n5_ := zA ((by rw [hg]; exact (zR (by repeat (first | (with_reducible first | exact HB.out | apply zG | apply zE | apply zF | refine zH ?_ GE658.out | refine zH ?_ GE659.out) | exact HB.out))) : w.heap.size ≤ gb660)); have n6_ := zA ((by rw [hg]; exact Nat.ne_of_lt (blk_lt (g := gb658) (o := .cells #[.int .i64 a0_0, .int .i64 a0_1] 26 (0, 0)) (by (with_reducible repeat (first | refine zB ?_ _ | refine zD ?_ | refine zC ?_ _)); exact BK658.out)) : gb658 ≠ gb660)); have n7_ := zA ((by rw [hg]; exact Nat.ne_of_gt (blk_lt (g := gb658) (o := .cells #[.int .i64 a0_0, .int .i64 a0_1] 26 (0, 0)) (by (with_reducible repeat (first | refine zB ?_ _ | refine zD ?_ | refine zC ?_ _)); exact BK658.out)) : gb660 ≠ gb658)); have n8_ := zA ((by rw [hg]; exact Nat.ne_of_lt (blk_lt (g := gb659) (o := .cells #[.int .i64 a1_0, .int .i64 a1_1] 26 (0, 0)) (by (with_reducible repeat (first | refine zB ?_ _ | refine zD ?_ | refine zC ?_ _)); exact BK659.out)) : gb659 ≠ gb660)); have n9_ := zA ((by rw [hg]; exact Nat.ne_of_gt (blk_lt (g := gb659) (o := .cells #[.int .i64 a1_0, .int .i64 a1_1] 26 (0, 0)) (by (with_reducible repeat (first | refine zB ?_ _ | refine zD ?_ | refine zC ?_ _)); exact BK659.out)) : gb660 ≠ gb659)); clear BK658; clear BK659; clear HB; have BK658 := n0_; have BK659 := n1_; have HB := n2_; have BK660 := n3_; have GW660 := n4_; have GE660 := n5_; have NB658_660 := n6_; have NB660_658 := n7_; have NB659_660 := n8_; have NB660_659 := n9_; clear n0_ n1_ n2_ n3_ n4_ n5_ n6_ n7_ n8_ n9_; clear hb hbox hg; have hnb44 := NB658_659.out; have hnc44 := NB659_658.out; have hnb45 := NB658_660.out; have hnc45 := NB660_658.out; have hcz46_0 : w43.cell? ⟨gb658, 0, none⟩ = some (.int .i64 a0_0) := (zJ BK658.out 0).trans rfl; have hcz46_1 : w43.cell? ⟨gb658, 1, none⟩ = some (.int .i64 a0_1) := (zJ BK658.out 1).trans rfl; have hfz46_0 := zK BK658.out 0; have hfz46_1 := zK BK658.out 1) | ((with_reducible refine zT (f := 20) rfl ?_); refine goesL_ (some 9) rfl rfl Try.func20 (by kernel_rfl) rfl #[.agg #[.int .i64 a0_0, .int .i64 a0_1]] rfl (by (try simp only [List.map_toArray, List.map_cons, List.map_nil]); first | done | rfl | (simp only [List.length_drop, List.length_take]; rfl)) ?_; (with_reducible refine (spec_DecOk.calls a0_0 a0_1 true _ A4.out).mono ?_); rintro e w47 ⟨rfl, hb⟩; refine ⟨_, rfl, ?_⟩; have n0_ := zA (zP (g := gb658) (o := .cells #[.int .i64 a0_0, .int .i64 a0_1] 26 (0, 0)) (by (with_reducible repeat (first | refine zB ?_ _ | refine zD ?_ | refine zC ?_ _)); exact BK658.out) hb); have n1_ := zA (zP (g := gb659) (o := .cells #[.int .i64 a1_0, .int .i64 a1_1] 26 (0, 0)) (by (with_reducible repeat (first | refine zB ?_ _ | refine zD ?_ | refine zC ?_ _)); exact BK659.out) hb); have n2_ := zA (zP (g := gb660) (o := .cells #[.int .i64 0, .int .i64 0] 26 (0, 0)) (by (with_reducible repeat (first | refine zB ?_ _ | refine zD ?_ | refine zC ?_ _)); exact BK660.out) hb); have n3_ := zA (zQ (by repeat (first | (with_reducible first | exact HB.out | apply zG | apply zE | apply zF | refine zH ?_ GE658.out | refine zH ?_ GE659.out | refine zH ?_ GE660.out) | exact HB.out)) hb); clear BK658; clear BK659; clear BK660; clear HB; have BK658 := n0_; have BK659 := n1_; have BK660 := n2_; have HB := n3_; clear n0_ n1_ n2_ n3_; (try clear hb); (try clear hb2); (try clear hk); (try clear hi); have hnb48 := NB659_660.out; have hnc48 := NB660_659.out; have hcz49_0 : w47.cell? ⟨gb659, 0, none⟩ = some (.int .i64 a1_0) := (zJ BK659.out 0).trans rfl; have hcz49_1 : w47.cell? ⟨gb659, 1, none⟩ = some (.int .i64 a1_1) := (zJ BK659.out 1).trans rfl; have hfz49_0 := zK BK659.out 0; have hfz49_1 := zK BK659.out 1) | (go_at_call 20; (with_reducible refine (spec_DecOk.calls a1_0 a1_1 true _ A6.out).mono ?_); rintro e w50 ⟨rfl, hb⟩; have n0_ := zA (zP (g := gb658) (o := .cells #[.int .i64 a0_0, .int .i64 a0_1] 26 (0, 0)) (by (with_reducible repeat (first | refine zB ?_ _ | refine zD ?_ | refine zC ?_ _)); exact BK658.out) hb); have n1_ := zA (zP (g := gb659) (o := .cells #[.int .i64 a1_0, .int .i64 a1_1] 26 (0, 0)) (by (with_reducible repeat (first | refine zB ?_ _ | refine zD ?_ | refine zC ?_ _)); exact BK659.out) hb); have n2_ := zA (zP (g := gb660) (o := .cells #[.int .i64 0, .int .i64 0] 26 (0, 0)) (by (with_reducible repeat (first | refine zB ?_ _ | refine zD ?_ | refine zC ?_ _)); exact BK660.out) hb); have n3_ := zA (zQ (by repeat (first | (with_reducible first | exact HB.out | apply zG | apply zE | apply zF | refine zH ?_ GE658.out | refine zH ?_ GE659.out | refine zH ?_ GE660.out) | exact HB.out)) hb); clear BK658; clear BK659; clear BK660; clear HB; have BK658 := n0_; have BK659 := n1_; have BK660 := n2_; have HB := n3_; clear n0_ n1_ n2_ n3_; (try clear hb); (try clear hb2); (try clear hk); (try clear hi); have hcz51_0 : w50.cell? ⟨gb659, 0, none⟩ = some (.int .i64 a1_0) := (zJ BK659.out 0).trans rfl; have hcz51_1 : w50.cell? ⟨gb659, 1, none⟩ = some (.int .i64 a1_1) := (zJ BK659.out 1).trans rfl; have hfz51_0 := zK BK659.out 0; have hfz51_1 := zK BK659.out 1) | (go_at_call 48; (with_reducible refine (spec_l1In.calls a2 0 8 false _ A21.out).mono ?_); rintro e w' ⟨rfl, ⟨nd, rfl⟩⟩; (try ((repeat rw [World.drewN_drewN]); rw [drewN_self w50]; generalize hq_ : World.drewN w50 _ = w50; have n0_ : Aside0 (w50.heap[gb658]? = some (.cells #[.int .i64 a0_0, .int .i64 a0_1] 26 (0, 0))) := ⟨by rw [← hq_]; exact (by (with_reducible repeat (first | refine zB ?_ _ | refine zD ?_ | refine zC ?_ _)); exact BK658.out)⟩; have n1_ : Aside0 (w50.heap[gb659]? = some (.cells #[.int .i64 a1_0, .int .i64 a1_1] 26 (0, 0))) := ⟨by rw [← hq_]; exact (by (with_reducible repeat (first | refine zB ?_ _ | refine zD ?_ | refine zC ?_ _)); exact BK659.out)⟩; have n2_ : Aside0 (w50.heap[gb660]? = some (.cells #[.int .i64 0, .int .i64 0] 26 (0, 0))) := ⟨by rw [← hq_]; exact (by (with_reducible repeat (first | refine zB ?_ _ | refine zD ?_ | refine zC ?_ _)); exact BK660.out)⟩; have n3_ : Aside0 (Below w.heap.size w w50) := ⟨by rw [← hq_]; exact (by repeat (first | (with_reducible first | exact HB.out | apply zG | apply zE | apply zF | refine zH ?_ GE658.out | refine zH ?_ GE659.out | refine zH ?_ GE660.out) | exact HB.out))⟩; clear BK658 BK659 BK660 HB hq_; have BK658 := n0_; have BK659 := n1_; have BK660 := n2_; have HB := n3_; clear n0_ n1_ n2_ n3_)); (try (have hcu52_0 : w50.cell? ⟨gb658, 0, none⟩ = some (.int .i64 a0_0) := (zJ BK658.out 0).trans rfl; have hfu52_0 := zK BK658.out 0)); (try (have hcu52_1 : w50.cell? ⟨gb658, 1, none⟩ = some (.int .i64 a0_1) := (zJ BK658.out 1).trans rfl; have hfu52_1 := zK BK658.out 1)); (try (have hcu53_0 : w50.cell? ⟨gb659, 0, none⟩ = some (.int .i64 a1_0) := (zJ BK659.out 0).trans rfl; have hfu53_0 := zK BK659.out 0)); (try (have hcu53_1 : w50.cell? ⟨gb659, 1, none⟩ = some (.int .i64 a1_1) := (zJ BK659.out 1).trans rfl; have hfu53_1 := zK BK659.out 1)); (try (have hcu54_0 : w50.cell? ⟨gb660, 0, none⟩ = some (.int .i64 0) := (zJ BK660.out 0).trans rfl; have hfu54_0 := zK BK660.out 0)); (try (have hcu54_1 : w50.cell? ⟨gb660, 1, none⟩ = some (.int .i64 0) := (zJ BK660.out 1).trans rfl; have hfu54_1 := zK BK660.out 1)); have hcz55_0 : w50.cell? ⟨gb660, 0, none⟩ = some (.int .i64 0) := (zJ BK660.out 0).trans rfl; have hcz55_1 : w50.cell? ⟨gb660, 1, none⟩ = some (.int .i64 0) := (zJ BK660.out 1).trans rfl; have hfz55_0 := zK BK660.out 0; have hfz55_1 := zK BK660.out 1))
     refine bodyPost_ret (results_ct rfl _ _ gb660 26 #[.int .i64 0, .int .i64 0] (0, 0) _ rfl (by (with_reducible repeat (first | refine zB ?_ _ | refine zD ?_ | refine zC ?_ _)); refine blk_put (cs := #[.int .i64 0, .int .i64 0]) ?_ 1 _ rfl; (with_reducible repeat (first | refine zB ?_ _ | refine zD ?_ | refine zC ?_ _)); refine blk_put (cs := #[.int .i64 0, .int .i64 0]) ?_ 0 _ rfl; (with_reducible repeat (first | refine zB ?_ _ | refine zD ?_ | refine zC ?_ _)); exact BK660.out) Try.underlying26 rfl (by kernel_rfl)) rfl ?_
     exact ⟨by first | rfl | (simp [errW_none, errW_some] <;> rfl) | (simp [*, errW_none, errW_some] <;> rfl), by repeat (first | (with_reducible first | exact HB.out | apply zG | apply zE | apply zF | refine zH ?_ GE658.out | refine zH ?_ GE659.out | refine zH ?_ GE660.out) | exact HB.out)⟩
  ·replace c7 := Bool.eq_false_iff.mpr c7
   subst c7
   have H1 : (some (0, 0, false)) = some (r1, r2, r3) := by rw [if_neg (show ¬ (false = true) by decide)] at H; exact H
   clear H
   have H := H1
   clear H1
   simp only [Option.some.injEq, Prod.mk.injEq] at H
   obtain ⟨rfl, rfl, rfl⟩ := H
   go_enter Try.func38, Try.ntmps38
   go_wp2_with (first | ((with_reducible refine zS (N := 3) rfl ?_); refine zV ?hg (N := 3) ?hd (cs := #[.int .i64 a0_0, .int .i64 a0_1]) (t := 26) ?hr ?_; (case hd => rfl); (case hg => rfl); (case hr => first | (go_simp; done) | (go_simp; rfl)); intro gb658 hg w56 hbox hb; have n0_ := zA (zQ (by repeat (first | (with_reducible first | exact HB.out | apply zG | apply zE | apply zF) | exact HB.out)) hb); have n1_ := zA (hbox); have n2_ := zA ((by rw [hg]; exact (zR (by repeat (first | (with_reducible first | exact HB.out | apply zG | apply zE | apply zF) | exact HB.out))) : w.heap.size ≤ gb658)); have n3_ := zA ((by rw [hg]; exact (zR (by repeat (first | (with_reducible first | exact HB.out | apply zG | apply zE | apply zF) | exact HB.out))) : w.heap.size ≤ gb658)); clear HB; have HB := n0_; have BK658 := n1_; have GW658 := n2_; have GE658 := n3_; clear n0_ n1_ n2_ n3_; clear hb hbox hg) | ((with_reducible refine zS (N := 4) rfl ?_); refine zV ?hg (N := 4) ?hd (cs := #[.int .i64 a1_0, .int .i64 a1_1]) (t := 26) ?hr ?_; (case hd => rfl); (case hg => rfl); (case hr => first | (go_simp; done) | (go_simp; rfl)); intro gb659 hg w57 hbox hb; have n0_ := zA (zP (g := gb658) (o := .cells #[.int .i64 a0_0, .int .i64 a0_1] 26 (0, 0)) (by (with_reducible repeat (first | refine zB ?_ _ | refine zD ?_ | refine zC ?_ _)); exact BK658.out) hb); have n1_ := zA (zQ (by repeat (first | (with_reducible first | exact HB.out | apply zG | apply zE | apply zF | refine zH ?_ GE658.out) | exact HB.out)) hb); have n2_ := zA (hbox); have n3_ := zA ((by rw [hg]; exact (zR (by repeat (first | (with_reducible first | exact HB.out | apply zG | apply zE | apply zF | refine zH ?_ GE658.out) | exact HB.out))) : w.heap.size ≤ gb659)); have n4_ := zA ((by rw [hg]; exact (zR (by repeat (first | (with_reducible first | exact HB.out | apply zG | apply zE | apply zF | refine zH ?_ GE658.out) | exact HB.out))) : w.heap.size ≤ gb659)); have n5_ := zA ((by rw [hg]; exact Nat.ne_of_lt (blk_lt (g := gb658) (o := .cells #[.int .i64 a0_0, .int .i64 a0_1] 26 (0, 0)) (by (with_reducible repeat (first | refine zB ?_ _ | refine zD ?_ | refine zC ?_ _)); exact BK658.out)) : gb658 ≠ gb659)); have n6_ := zA ((by rw [hg]; exact Nat.ne_of_gt (blk_lt (g := gb658) (o := .cells #[.int .i64 a0_0, .int .i64 a0_1] 26 (0, 0)) (by (with_reducible repeat (first | refine zB ?_ _ | refine zD ?_ | refine zC ?_ _)); exact BK658.out)) : gb659 ≠ gb658)); clear BK658; clear HB; have BK658 := n0_; have HB := n1_; have BK659 := n2_; have GW659 := n3_; have GE659 := n4_; have NB658_659 := n5_; have NB659_658 := n6_; clear n0_ n1_ n2_ n3_ n4_ n5_ n6_; clear hb hbox hg) | ((with_reducible refine zS (N := 6) rfl ?_); refine zV ?hg (N := 6) ?hd (cs := #[.int .i64 0, .int .i64 0]) (t := 26) ?hr ?_; (case hd => rfl); (case hg => rfl); (case hr => first | (go_simp; done) | (go_simp; rfl)); intro gb660 hg w58 hbox hb; have n0_ := zA (zP (g := gb658) (o := .cells #[.int .i64 a0_0, .int .i64 a0_1] 26 (0, 0)) (by (with_reducible repeat (first | refine zB ?_ _ | refine zD ?_ | refine zC ?_ _)); exact BK658.out) hb); have n1_ := zA (zP (g := gb659) (o := .cells #[.int .i64 a1_0, .int .i64 a1_1] 26 (0, 0)) (by (with_reducible repeat (first | refine zB ?_ _ | refine zD ?_ | refine zC ?_ _)); exact BK659.out) hb); have n2_ := zA (zQ (by repeat (first | (with_reducible first | exact HB.out | apply zG | apply zE | apply zF | refine zH ?_ GE658.out | refine zH ?_ GE659.out) | exact HB.out)) hb); have n3_ := zA (hbox); have n4_ := zA ((by rw [hg]; exact (zR (by repeat (first | (with_reducible first | exact HB.out | apply zG | apply zE | apply zF | refine zH ?_ GE658.out | refine zH ?_ GE659.out) | exact HB.out))) : w.heap.size ≤ gb660)); have n5_ := zA ((by rw [hg]; exact (zR (by repeat (first | (with_reducible first | exact HB.out | apply zG | apply zE | apply zF | refine zH ?_ GE658.out | refine zH ?_ GE659.out) | exact HB.out))) : w.heap.size ≤ gb660)); have n6_ := zA ((by rw [hg]; exact Nat.ne_of_lt (blk_lt (g := gb658) (o := .cells #[.int .i64 a0_0, .int .i64 a0_1] 26 (0, 0)) (by (with_reducible repeat (first | refine zB ?_ _ | refine zD ?_ | refine zC ?_ _)); exact BK658.out)) : gb658 ≠ gb660)); have n7_ := zA ((by rw [hg]; exact Nat.ne_of_gt (blk_lt (g := gb658) (o := .cells #[.int .i64 a0_0, .int .i64 a0_1] 26 (0, 0)) (by (with_reducible repeat (first | refine zB ?_ _ | refine zD ?_ | refine zC ?_ _)); exact BK658.out)) : gb660 ≠ gb658)); have n8_ := zA ((by rw [hg]; exact Nat.ne_of_lt (blk_lt (g := gb659) (o := .cells #[.int .i64 a1_0, .int .i64 a1_1] 26 (0, 0)) (by (with_reducible repeat (first | refine zB ?_ _ | refine zD ?_ | refine zC ?_ _)); exact BK659.out)) : gb659 ≠ gb660)); have n9_ := zA ((by rw [hg]; exact Nat.ne_of_gt (blk_lt (g := gb659) (o := .cells #[.int .i64 a1_0, .int .i64 a1_1] 26 (0, 0)) (by (with_reducible repeat (first | refine zB ?_ _ | refine zD ?_ | refine zC ?_ _)); exact BK659.out)) : gb660 ≠ gb659)); clear BK658; clear BK659; clear HB; have BK658 := n0_; have BK659 := n1_; have HB := n2_; have BK660 := n3_; have GW660 := n4_; have GE660 := n5_; have NB658_660 := n6_; have NB660_658 := n7_; have NB659_660 := n8_; have NB660_659 := n9_; clear n0_ n1_ n2_ n3_ n4_ n5_ n6_ n7_ n8_ n9_; clear hb hbox hg; have hnb59 := NB658_659.out; have hnc59 := NB659_658.out; have hnb60 := NB658_660.out; have hnc60 := NB660_658.out; have hcz61_0 : w58.cell? ⟨gb658, 0, none⟩ = some (.int .i64 a0_0) := (zJ BK658.out 0).trans rfl; have hcz61_1 : w58.cell? ⟨gb658, 1, none⟩ = some (.int .i64 a0_1) := (zJ BK658.out 1).trans rfl; have hfz61_0 := zK BK658.out 0; have hfz61_1 := zK BK658.out 1) | ((with_reducible refine zT (f := 20) rfl ?_); refine goesL_ (some 9) rfl rfl Try.func20 (by kernel_rfl) rfl #[.agg #[.int .i64 a0_0, .int .i64 a0_1]] rfl (by (try simp only [List.map_toArray, List.map_cons, List.map_nil]); first | done | rfl | (simp only [List.length_drop, List.length_take]; rfl)) ?_; (with_reducible refine (spec_DecOk.calls a0_0 a0_1 true _ A4.out).mono ?_); rintro e w62 ⟨rfl, hb⟩; refine ⟨_, rfl, ?_⟩; have n0_ := zA (zP (g := gb658) (o := .cells #[.int .i64 a0_0, .int .i64 a0_1] 26 (0, 0)) (by (with_reducible repeat (first | refine zB ?_ _ | refine zD ?_ | refine zC ?_ _)); exact BK658.out) hb); have n1_ := zA (zP (g := gb659) (o := .cells #[.int .i64 a1_0, .int .i64 a1_1] 26 (0, 0)) (by (with_reducible repeat (first | refine zB ?_ _ | refine zD ?_ | refine zC ?_ _)); exact BK659.out) hb); have n2_ := zA (zP (g := gb660) (o := .cells #[.int .i64 0, .int .i64 0] 26 (0, 0)) (by (with_reducible repeat (first | refine zB ?_ _ | refine zD ?_ | refine zC ?_ _)); exact BK660.out) hb); have n3_ := zA (zQ (by repeat (first | (with_reducible first | exact HB.out | apply zG | apply zE | apply zF | refine zH ?_ GE658.out | refine zH ?_ GE659.out | refine zH ?_ GE660.out) | exact HB.out)) hb); clear BK658; clear BK659; clear BK660; clear HB; have BK658 := n0_; have BK659 := n1_; have BK660 := n2_; have HB := n3_; clear n0_ n1_ n2_ n3_; (try clear hb); (try clear hb2); (try clear hk); (try clear hi); have hnb63 := NB659_660.out; have hnc63 := NB660_659.out; have hcz64_0 : w62.cell? ⟨gb659, 0, none⟩ = some (.int .i64 a1_0) := (zJ BK659.out 0).trans rfl; have hcz64_1 : w62.cell? ⟨gb659, 1, none⟩ = some (.int .i64 a1_1) := (zJ BK659.out 1).trans rfl; have hfz64_0 := zK BK659.out 0; have hfz64_1 := zK BK659.out 1) | (go_at_call 20; (with_reducible refine (spec_DecOk.calls a1_0 a1_1 false _ A6.out).mono ?_); rintro e w65 ⟨rfl, hb⟩; have n0_ := zA (zP (g := gb658) (o := .cells #[.int .i64 a0_0, .int .i64 a0_1] 26 (0, 0)) (by (with_reducible repeat (first | refine zB ?_ _ | refine zD ?_ | refine zC ?_ _)); exact BK658.out) hb); have n1_ := zA (zP (g := gb659) (o := .cells #[.int .i64 a1_0, .int .i64 a1_1] 26 (0, 0)) (by (with_reducible repeat (first | refine zB ?_ _ | refine zD ?_ | refine zC ?_ _)); exact BK659.out) hb); have n2_ := zA (zP (g := gb660) (o := .cells #[.int .i64 0, .int .i64 0] 26 (0, 0)) (by (with_reducible repeat (first | refine zB ?_ _ | refine zD ?_ | refine zC ?_ _)); exact BK660.out) hb); have n3_ := zA (zQ (by repeat (first | (with_reducible first | exact HB.out | apply zG | apply zE | apply zF | refine zH ?_ GE658.out | refine zH ?_ GE659.out | refine zH ?_ GE660.out) | exact HB.out)) hb); clear BK658; clear BK659; clear BK660; clear HB; have BK658 := n0_; have BK659 := n1_; have BK660 := n2_; have HB := n3_; clear n0_ n1_ n2_ n3_; (try clear hb); (try clear hb2); (try clear hk); (try clear hi); have hcz66_0 : w65.cell? ⟨gb660, 0, none⟩ = some (.int .i64 0) := (zJ BK660.out 0).trans rfl; have hcz66_1 : w65.cell? ⟨gb660, 1, none⟩ = some (.int .i64 0) := (zJ BK660.out 1).trans rfl; have hfz66_0 := zK BK660.out 0; have hfz66_1 := zK BK660.out 1))
   refine bodyPost_ret (results_ct rfl _ _ gb660 26 #[.int .i64 0, .int .i64 0] (0, 0) _ rfl (by (with_reducible repeat (first | refine zB ?_ _ | refine zD ?_ | refine zC ?_ _)); refine blk_put (cs := #[.int .i64 0, .int .i64 0]) ?_ 1 _ rfl; (with_reducible repeat (first | refine zB ?_ _ | refine zD ?_ | refine zC ?_ _)); refine blk_put (cs := #[.int .i64 0, .int .i64 0]) ?_ 0 _ rfl; (with_reducible repeat (first | refine zB ?_ _ | refine zD ?_ | refine zC ?_ _)); exact BK660.out) Try.underlying26 rfl (by kernel_rfl)) rfl ?_
   exact ⟨by first | rfl | (simp [errW_none, errW_some] <;> rfl) | (simp [*, errW_none, errW_some] <;> rfl), by repeat (first | (with_reducible first | exact HB.out | apply zG | apply zE | apply zF | refine zH ?_ GE658.out | refine zH ?_ GE659.out | refine zH ?_ GE660.out) | exact HB.out)⟩
 ·replace c5 := Bool.eq_false_iff.mpr c5
  subst c5
  have H1 : (some (0, 0, false)) = some (r1, r2, r3) := by rw [if_neg (show ¬ (false = true) by decide)] at H; exact H
  clear H
  have H := H1
  clear H1
  simp only [Option.some.injEq, Prod.mk.injEq] at H
  obtain ⟨rfl, rfl, rfl⟩ := H
  go_enter Try.func38, Try.ntmps38
  go_wp2_with (first | ((with_reducible refine zS (N := 3) rfl ?_); refine zV ?hg (N := 3) ?hd (cs := #[.int .i64 a0_0, .int .i64 a0_1]) (t := 26) ?hr ?_; (case hd => rfl); (case hg => rfl); (case hr => first | (go_simp; done) | (go_simp; rfl)); intro gb658 hg w67 hbox hb; have n0_ := zA (zQ (by repeat (first | (with_reducible first | exact HB.out | apply zG | apply zE | apply zF) | exact HB.out)) hb); have n1_ := zA (hbox); have n2_ := zA ((by rw [hg]; exact (zR (by repeat (first | (with_reducible first | exact HB.out | apply zG | apply zE | apply zF) | exact HB.out))) : w.heap.size ≤ gb658)); have n3_ := zA ((by rw [hg]; exact (zR (by repeat (first | (with_reducible first | exact HB.out | apply zG | apply zE | apply zF) | exact HB.out))) : w.heap.size ≤ gb658)); clear HB; have HB := n0_; have BK658 := n1_; have GW658 := n2_; have GE658 := n3_; clear n0_ n1_ n2_ n3_; clear hb hbox hg) | ((with_reducible refine zS (N := 4) rfl ?_); refine zV ?hg (N := 4) ?hd (cs := #[.int .i64 a1_0, .int .i64 a1_1]) (t := 26) ?hr ?_; (case hd => rfl); (case hg => rfl); (case hr => first | (go_simp; done) | (go_simp; rfl)); intro gb659 hg w68 hbox hb; have n0_ := zA (zP (g := gb658) (o := .cells #[.int .i64 a0_0, .int .i64 a0_1] 26 (0, 0)) (by (with_reducible repeat (first | refine zB ?_ _ | refine zD ?_ | refine zC ?_ _)); exact BK658.out) hb); have n1_ := zA (zQ (by repeat (first | (with_reducible first | exact HB.out | apply zG | apply zE | apply zF | refine zH ?_ GE658.out) | exact HB.out)) hb); have n2_ := zA (hbox); have n3_ := zA ((by rw [hg]; exact (zR (by repeat (first | (with_reducible first | exact HB.out | apply zG | apply zE | apply zF | refine zH ?_ GE658.out) | exact HB.out))) : w.heap.size ≤ gb659)); have n4_ := zA ((by rw [hg]; exact (zR (by repeat (first | (with_reducible first | exact HB.out | apply zG | apply zE | apply zF | refine zH ?_ GE658.out) | exact HB.out))) : w.heap.size ≤ gb659)); have n5_ := zA ((by rw [hg]; exact Nat.ne_of_lt (blk_lt (g := gb658) (o := .cells #[.int .i64 a0_0, .int .i64 a0_1] 26 (0, 0)) (by (with_reducible repeat (first | refine zB ?_ _ | refine zD ?_ | refine zC ?_ _)); exact BK658.out)) : gb658 ≠ gb659)); have n6_ := zA ((by rw [hg]; exact Nat.ne_of_gt (blk_lt (g := gb658) (o := .cells #[.int .i64 a0_0, .int .i64 a0_1] 26 (0, 0)) (by (with_reducible repeat (first | refine zB ?_ _ | refine zD ?_ | refine zC ?_ _)); exact BK658.out)) : gb659 ≠ gb658)); clear BK658; clear HB; have BK658 := n0_; have HB := n1_; have BK659 := n2_; have GW659 := n3_; have GE659 := n4_; have NB658_659 := n5_; have NB659_658 := n6_; clear n0_ n1_ n2_ n3_ n4_ n5_ n6_; clear hb hbox hg) | ((with_reducible refine zS (N := 6) rfl ?_); refine zV ?hg (N := 6) ?hd (cs := #[.int .i64 0, .int .i64 0]) (t := 26) ?hr ?_; (case hd => rfl); (case hg => rfl); (case hr => first | (go_simp; done) | (go_simp; rfl)); intro gb660 hg w69 hbox hb; have n0_ := zA (zP (g := gb658) (o := .cells #[.int .i64 a0_0, .int .i64 a0_1] 26 (0, 0)) (by (with_reducible repeat (first | refine zB ?_ _ | refine zD ?_ | refine zC ?_ _)); exact BK658.out) hb); have n1_ := zA (zP (g := gb659) (o := .cells #[.int .i64 a1_0, .int .i64 a1_1] 26 (0, 0)) (by (with_reducible repeat (first | refine zB ?_ _ | refine zD ?_ | refine zC ?_ _)); exact BK659.out) hb); have n2_ := zA (zQ (by repeat (first | (with_reducible first | exact HB.out | apply zG | apply zE | apply zF | refine zH ?_ GE658.out | refine zH ?_ GE659.out) | exact HB.out)) hb); have n3_ := zA (hbox); have n4_ := zA ((by rw [hg]; exact (zR (by repeat (first | (with_reducible first | exact HB.out | apply zG | apply zE | apply zF | refine zH ?_ GE658.out | refine zH ?_ GE659.out) | exact HB.out))) : w.heap.size ≤ gb660)); have n5_ := zA ((by rw [hg]; exact (zR (by repeat (first | (with_reducible first | exact HB.out | apply zG | apply zE | apply zF | refine zH ?_ GE658.out | refine zH ?_ GE659.out) | exact HB.out))) : w.heap.size ≤ gb660)); have n6_ := zA ((by rw [hg]; exact Nat.ne_of_lt (blk_lt (g := gb658) (o := .cells #[.int .i64 a0_0, .int .i64 a0_1] 26 (0, 0)) (by (with_reducible repeat (first | refine zB ?_ _ | refine zD ?_ | refine zC ?_ _)); exact BK658.out)) : gb658 ≠ gb660)); have n7_ := zA ((by rw [hg]; exact Nat.ne_of_gt (blk_lt (g := gb658) (o := .cells #[.int .i64 a0_0, .int .i64 a0_1] 26 (0, 0)) (by (with_reducible repeat (first | refine zB ?_ _ | refine zD ?_ | refine zC ?_ _)); exact BK658.out)) : gb660 ≠ gb658)); have n8_ := zA ((by rw [hg]; exact Nat.ne_of_lt (blk_lt (g := gb659) (o := .cells #[.int .i64 a1_0, .int .i64 a1_1] 26 (0, 0)) (by (with_reducible repeat (first | refine zB ?_ _ | refine zD ?_ | refine zC ?_ _)); exact BK659.out)) : gb659 ≠ gb660)); have n9_ := zA ((by rw [hg]; exact Nat.ne_of_gt (blk_lt (g := gb659) (o := .cells #[.int .i64 a1_0, .int .i64 a1_1] 26 (0, 0)) (by (with_reducible repeat (first | refine zB ?_ _ | refine zD ?_ | refine zC ?_ _)); exact BK659.out)) : gb660 ≠ gb659)); clear BK658; clear BK659; clear HB; have BK658 := n0_; have BK659 := n1_; have HB := n2_; have BK660 := n3_; have GW660 := n4_; have GE660 := n5_; have NB658_660 := n6_; have NB660_658 := n7_; have NB659_660 := n8_; have NB660_659 := n9_; clear n0_ n1_ n2_ n3_ n4_ n5_ n6_ n7_ n8_ n9_; clear hb hbox hg; have hnb70 := NB658_659.out; have hnc70 := NB659_658.out; have hnb71 := NB658_660.out; have hnc71 := NB660_658.out; have hcz72_0 : w69.cell? ⟨gb658, 0, none⟩ = some (.int .i64 a0_0) := (zJ BK658.out 0).trans rfl; have hcz72_1 : w69.cell? ⟨gb658, 1, none⟩ = some (.int .i64 a0_1) := (zJ BK658.out 1).trans rfl; have hfz72_0 := zK BK658.out 0; have hfz72_1 := zK BK658.out 1) | ((with_reducible refine zT (f := 20) rfl ?_); refine goesL_ (some 9) rfl rfl Try.func20 (by kernel_rfl) rfl #[.agg #[.int .i64 a0_0, .int .i64 a0_1]] rfl (by (try simp only [List.map_toArray, List.map_cons, List.map_nil]); first | done | rfl | (simp only [List.length_drop, List.length_take]; rfl)) ?_; (with_reducible refine (spec_DecOk.calls a0_0 a0_1 false _ A4.out).mono ?_); rintro e w73 ⟨rfl, hb⟩; refine ⟨_, rfl, ?_⟩; have n0_ := zA (zP (g := gb658) (o := .cells #[.int .i64 a0_0, .int .i64 a0_1] 26 (0, 0)) (by (with_reducible repeat (first | refine zB ?_ _ | refine zD ?_ | refine zC ?_ _)); exact BK658.out) hb); have n1_ := zA (zP (g := gb659) (o := .cells #[.int .i64 a1_0, .int .i64 a1_1] 26 (0, 0)) (by (with_reducible repeat (first | refine zB ?_ _ | refine zD ?_ | refine zC ?_ _)); exact BK659.out) hb); have n2_ := zA (zP (g := gb660) (o := .cells #[.int .i64 0, .int .i64 0] 26 (0, 0)) (by (with_reducible repeat (first | refine zB ?_ _ | refine zD ?_ | refine zC ?_ _)); exact BK660.out) hb); have n3_ := zA (zQ (by repeat (first | (with_reducible first | exact HB.out | apply zG | apply zE | apply zF | refine zH ?_ GE658.out | refine zH ?_ GE659.out | refine zH ?_ GE660.out) | exact HB.out)) hb); clear BK658; clear BK659; clear BK660; clear HB; have BK658 := n0_; have BK659 := n1_; have BK660 := n2_; have HB := n3_; clear n0_ n1_ n2_ n3_; (try clear hb); (try clear hb2); (try clear hk); (try clear hi); have hnb74 := NB660_659.out; have hnc74 := NB659_660.out; have hcz75_0 : w73.cell? ⟨gb660, 0, none⟩ = some (.int .i64 0) := (zJ BK660.out 0).trans rfl; have hcz75_1 : w73.cell? ⟨gb660, 1, none⟩ = some (.int .i64 0) := (zJ BK660.out 1).trans rfl; have hfz75_0 := zK BK660.out 0; have hfz75_1 := zK BK660.out 1))
  refine bodyPost_ret (results_ct rfl _ _ gb660 26 #[.int .i64 0, .int .i64 0] (0, 0) _ rfl (by (with_reducible repeat (first | refine zB ?_ _ | refine zD ?_ | refine zC ?_ _)); refine blk_put (cs := #[.int .i64 0, .int .i64 0]) ?_ 1 _ rfl; (with_reducible repeat (first | refine zB ?_ _ | refine zD ?_ | refine zC ?_ _)); refine blk_put (cs := #[.int .i64 0, .int .i64 0]) ?_ 0 _ rfl; (with_reducible repeat (first | refine zB ?_ _ | refine zD ?_ | refine zC ?_ _)); exact BK660.out) Try.underlying26 rfl (by kernel_rfl)) rfl ?_
  exact ⟨by first | rfl | (simp [errW_none, errW_some] <;> rfl) | (simp [*, errW_none, errW_some] <;> rfl), by repeat (first | (with_reducible first | exact HB.out | apply zG | apply zE | apply zF | refine zH ?_ GE658.out | refine zH ?_ GE659.out | refine zH ?_ GE660.out) | exact HB.out)⟩

end Go.Proofs.Ytmoaolcioihjnaa.Q

namespace Go.Proofs.Ytmoaolcioihjnaa.Q
open Go.RowKit Go.Proofs.YtmoaolcioihjnaaW.PrintWords Go.Proofs.YtmoaolcioihjnaaW.PrintLast Go.Proofs.YtmoaolcioihjnaaW.PrintMore Go.Proofs.YtmoaolcioihjnaaX
attribute [local go_sem] max2_int min2_int max_two min_two max_three min_three max_four min_four   -- for this text's walks alone
set_option linter.unusedVariables false
set_option linter.unusedSimpArgs false

def laws_chAbs.f (a0_0 : Int) (a0_1 : Int) : Option (Int × Int) := if a0_0 < 0 then (some (wrap64 (-a0_0), a0_1)) else (some (a0_0, a0_1))
set_option maxHeartbeats 8000000 in
set_option maxRecDepth 100000 in
theorem laws_chAbs.calls (a0_0 : Int) (a0_1 : Int) (r1 : Int) (r2 : Int) (w : World) (h : laws_chAbs.f a0_0 a0_1 = some (r1, r2)) :
  Calls Try.prog 39 #[.agg #[.int .i64 a0_0, .int .i64 a0_1]] w fun e w' => e = .returned (.agg #[.int .i64 r1, .int .i64 r2]) ∧ Below w.heap.size w w' := by
 have hu26 := Try.underlying26
 have HB := zA (Below.refl w.heap.size w)
 have H : (if a0_0 < 0 then (some (wrap64 (-a0_0), a0_1)) else (some (a0_0, a0_1))) = some (r1, r2) := h
 clear h
 by_cases c2 : a0_0 < 0
 ·rw [if_pos c2] at H
  have c2b0 : decide (a0_0 < 0) = true := decide_eq_true c2
  clear c2
  simp only [Option.some.injEq, Prod.mk.injEq] at H
  obtain ⟨rfl, rfl⟩ := H
  go_enter Try.func39, Try.ntmps39
  go_wp2_with (first | ((with_reducible refine zS (N := 1) rfl ?_); refine zV ?hg (N := 1) ?hd (cs := #[.int .i64 a0_0, .int .i64 a0_1]) (t := 26) ?hr ?_; (case hd => rfl); (case hg => rfl); (case hr => first | (go_simp; done) | (go_simp; rfl)); intro gb667 hg w3 hbox hb; have n0_ := zA (zQ (by repeat (first | (with_reducible first | exact HB.out | apply zG | apply zE | apply zF) | exact HB.out)) hb); have n1_ := zA (hbox); have n2_ := zA ((by rw [hg]; exact (zR (by repeat (first | (with_reducible first | exact HB.out | apply zG | apply zE | apply zF) | exact HB.out))) : w.heap.size ≤ gb667)); have n3_ := zA ((by rw [hg]; exact (zR (by repeat (first | (with_reducible first | exact HB.out | apply zG | apply zE | apply zF) | exact HB.out))) : w.heap.size ≤ gb667)); clear HB; have HB := n0_; have BK667 := n1_; have GW667 := n2_; have GE667 := n3_; clear n0_ n1_ n2_ n3_; clear hb hbox hg) | ((with_reducible refine zS (N := 2) rfl ?_); refine zV ?hg (N := 2) ?hd (cs := #[.int .i64 0, .int .i64 0]) (t := 26) ?hr ?_; (case hd => rfl); (case hg => rfl); (case hr => first | (go_simp; done) | (go_simp; rfl)); intro gb668 hg w4 hbox hb; have n0_ := zA (zP (g := gb667) (o := .cells #[.int .i64 a0_0, .int .i64 a0_1] 26 (0, 0)) (by (with_reducible repeat (first | refine zB ?_ _ | refine zD ?_ | refine zC ?_ _)); exact BK667.out) hb); have n1_ := zA (zQ (by repeat (first | (with_reducible first | exact HB.out | apply zG | apply zE | apply zF | refine zH ?_ GE667.out) | exact HB.out)) hb); have n2_ := zA (hbox); have n3_ := zA ((by rw [hg]; exact (zR (by repeat (first | (with_reducible first | exact HB.out | apply zG | apply zE | apply zF | refine zH ?_ GE667.out) | exact HB.out))) : w.heap.size ≤ gb668)); have n4_ := zA ((by rw [hg]; exact (zR (by repeat (first | (with_reducible first | exact HB.out | apply zG | apply zE | apply zF | refine zH ?_ GE667.out) | exact HB.out))) : w.heap.size ≤ gb668)); have n5_ := zA ((by rw [hg]; exact Nat.ne_of_lt (blk_lt (g := gb667) (o := .cells #[.int .i64 a0_0, .int .i64 a0_1] 26 (0, 0)) (by (with_reducible repeat (first | refine zB ?_ _ | refine zD ?_ | refine zC ?_ _)); exact BK667.out)) : gb667 ≠ gb668)); have n6_ := zA ((by rw [hg]; exact Nat.ne_of_gt (blk_lt (g := gb667) (o := .cells #[.int .i64 a0_0, .int .i64 a0_1] 26 (0, 0)) (by (with_reducible repeat (first | refine zB ?_ _ | refine zD ?_ | refine zC ?_ _)); exact BK667.out)) : gb668 ≠ gb667)); clear BK667; clear HB; have BK667 := n0_; have HB := n1_; have BK668 := n2_; have GW668 := n3_; have GE668 := n4_; have NB667_668 := n5_; have NB668_667 := n6_; clear n0_ n1_ n2_ n3_ n4_ n5_ n6_; clear hb hbox hg; have hnb5 := NB667_668.out; have hnc5 := NB668_667.out; have hcz6_0 : w4.cell? ⟨gb667, 0, none⟩ = some (.int .i64 a0_0) := (zJ BK667.out 0).trans rfl; have hcz6_1 : w4.cell? ⟨gb667, 1, none⟩ = some (.int .i64 a0_1) := (zJ BK667.out 1).trans rfl; have hfz6_0 := zK BK667.out 0; have hfz6_1 := zK BK667.out 1; have hcz7_0 : w4.cell? ⟨gb668, 0, none⟩ = some (.int .i64 0) := (zJ BK668.out 0).trans rfl; have hcz7_1 : w4.cell? ⟨gb668, 1, none⟩ = some (.int .i64 0) := (zJ BK668.out 1).trans rfl; have hfz7_0 := zK BK668.out 0; have hfz7_1 := zK BK668.out 1))
  refine bodyPost_ret (results_cell_row rfl _ _ gb668 26 #[.int .i64 (wrap64 (-a0_0)), .int .i64 a0_1] (0, 0) _ rfl (by (with_reducible repeat (first | refine zB ?_ _ | refine zD ?_ | refine zC ?_ _)); refine blk_put (cs := #[.int .i64 (wrap64 (-a0_0)), .int .i64 0]) ?_ 1 _ rfl; (with_reducible repeat (first | refine zB ?_ _ | refine zD ?_ | refine zC ?_ _)); refine blk_put (cs := #[.int .i64 0, .int .i64 0]) ?_ 0 _ rfl; (with_reducible repeat (first | refine zB ?_ _ | refine zD ?_ | refine zC ?_ _)); exact BK668.out) Try.underlying26 rfl (by kernel_rfl)) rfl ?_
  exact ⟨by first | rfl | (simp [errW_none, errW_some] <;> rfl) | (simp [*, errW_none, errW_some] <;> rfl), by repeat (first | (with_reducible first | exact HB.out | apply zG | apply zE | apply zF | refine zH ?_ GE667.out | refine zH ?_ GE668.out) | exact HB.out)⟩
 ·rw [if_neg c2] at H
  have c2b0 : decide (a0_0 < 0) = false := decide_eq_false c2
  clear c2
  simp only [Option.some.injEq, Prod.mk.injEq] at H
  obtain ⟨rfl, rfl⟩ := H
  go_enter Try.func39, Try.ntmps39
  go_wp2_with (first | ((with_reducible refine zS (N := 1) rfl ?_); refine zV ?hg (N := 1) ?hd (cs := #[.int .i64 a0_0, .int .i64 a0_1]) (t := 26) ?hr ?_; (case hd => rfl); (case hg => rfl); (case hr => first | (go_simp; done) | (go_simp; rfl)); intro gb667 hg w8 hbox hb; have n0_ := zA (zQ (by repeat (first | (with_reducible first | exact HB.out | apply zG | apply zE | apply zF) | exact HB.out)) hb); have n1_ := zA (hbox); have n2_ := zA ((by rw [hg]; exact (zR (by repeat (first | (with_reducible first | exact HB.out | apply zG | apply zE | apply zF) | exact HB.out))) : w.heap.size ≤ gb667)); have n3_ := zA ((by rw [hg]; exact (zR (by repeat (first | (with_reducible first | exact HB.out | apply zG | apply zE | apply zF) | exact HB.out))) : w.heap.size ≤ gb667)); clear HB; have HB := n0_; have BK667 := n1_; have GW667 := n2_; have GE667 := n3_; clear n0_ n1_ n2_ n3_; clear hb hbox hg) | ((with_reducible refine zS (N := 2) rfl ?_); refine zV ?hg (N := 2) ?hd (cs := #[.int .i64 0, .int .i64 0]) (t := 26) ?hr ?_; (case hd => rfl); (case hg => rfl); (case hr => first | (go_simp; done) | (go_simp; rfl)); intro gb668 hg w9 hbox hb; have n0_ := zA (zP (g := gb667) (o := .cells #[.int .i64 a0_0, .int .i64 a0_1] 26 (0, 0)) (by (with_reducible repeat (first | refine zB ?_ _ | refine zD ?_ | refine zC ?_ _)); exact BK667.out) hb); have n1_ := zA (zQ (by repeat (first | (with_reducible first | exact HB.out | apply zG | apply zE | apply zF | refine zH ?_ GE667.out) | exact HB.out)) hb); have n2_ := zA (hbox); have n3_ := zA ((by rw [hg]; exact (zR (by repeat (first | (with_reducible first | exact HB.out | apply zG | apply zE | apply zF | refine zH ?_ GE667.out) | exact HB.out))) : w.heap.size ≤ gb668)); have n4_ := zA ((by rw [hg]; exact (zR (by repeat (first | (with_reducible first | exact HB.out | apply zG | apply zE | apply zF | refine zH ?_ GE667.out) | exact HB.out))) : w.heap.size ≤ gb668)); have n5_ := zA ((by rw [hg]; exact Nat.ne_of_lt (blk_lt (g := gb667) (o := .cells #[.int .i64 a0_0, .int .i64 a0_1] 26 (0, 0)) (by (with_reducible repeat (first | refine zB ?_ _ | refine zD ?_ | refine zC ?_ _)); exact BK667.out)) : gb667 ≠ gb668)); have n6_ := zA ((by rw [hg]; exact Nat.ne_of_gt (blk_lt (g := gb667) (o := .cells #[.int .i64 a0_0, .int .i64 a0_1] 26 (0, 0)) (by (with_reducible repeat (first | refine zB ?_ _ | refine zD ?_ | refine zC ?_ _)); exact BK667.out)) : gb668 ≠ gb667)); clear BK667; clear HB; have BK667 := n0_; have HB := n1_; have BK668 := n2_; have GW668 := n3_; have GE668 := n4_; have NB667_668 := n5_; have NB668_667 := n6_; clear n0_ n1_ n2_ n3_ n4_ n5_ n6_; clear hb hbox hg; have hnb10 := NB667_668.out; have hnc10 := NB668_667.out; have hcz11_0 : w9.cell? ⟨gb667, 0, none⟩ = some (.int .i64 a0_0) := (zJ BK667.out 0).trans rfl; have hcz11_1 : w9.cell? ⟨gb667, 1, none⟩ = some (.int .i64 a0_1) := (zJ BK667.out 1).trans rfl; have hfz11_0 := zK BK667.out 0; have hfz11_1 := zK BK667.out 1; have hcz12_0 : w9.cell? ⟨gb668, 0, none⟩ = some (.int .i64 0) := (zJ BK668.out 0).trans rfl; have hcz12_1 : w9.cell? ⟨gb668, 1, none⟩ = some (.int .i64 0) := (zJ BK668.out 1).trans rfl; have hfz12_0 := zK BK668.out 0; have hfz12_1 := zK BK668.out 1))
  refine bodyPost_ret (results_cell_row rfl _ _ gb668 26 #[.int .i64 a0_0, .int .i64 a0_1] (0, 0) _ rfl (by (with_reducible repeat (first | refine zB ?_ _ | refine zD ?_ | refine zC ?_ _)); refine blk_put (cs := #[.int .i64 a0_0, .int .i64 0]) ?_ 1 _ rfl; (with_reducible repeat (first | refine zB ?_ _ | refine zD ?_ | refine zC ?_ _)); refine blk_put (cs := #[.int .i64 0, .int .i64 0]) ?_ 0 _ rfl; (with_reducible repeat (first | refine zB ?_ _ | refine zD ?_ | refine zC ?_ _)); exact BK668.out) Try.underlying26 rfl (by kernel_rfl)) rfl ?_
  exact ⟨by first | rfl | (simp [errW_none, errW_some] <;> rfl) | (simp [*, errW_none, errW_some] <;> rfl), by repeat (first | (with_reducible first | exact HB.out | apply zG | apply zE | apply zF | refine zH ?_ GE667.out | refine zH ?_ GE668.out) | exact HB.out)⟩

end Go.Proofs.Ytmoaolcioihjnaa.Q
