-- laid by a program of this session (wip/tools) out of the translation; Lean checks it
import Derived.Test.YtmoaolcioihjnaaBFnDecModq1
namespace Go.Proofs.Ytmoaolcioihjnaa.Q
open Go.RowKit Go.Proofs.YtmoaolcioihjnaaW.PrintWords Go.Proofs.YtmoaolcioihjnaaW.PrintLast Go.Proofs.YtmoaolcioihjnaaW.PrintMore Go.Proofs.YtmoaolcioihjnaaX
attribute [local go_sem] max2_int min2_int max_two min_two max_three min_three max_four min_four   -- for this text's walks alone
set_option linter.unusedVariables false
set_option linter.unusedSimpArgs false

mutual
def impl_DecDiv.j0 : Nat → Int → Bool → Int → Int → Int → Int → Option (Int × Int × Bool)
 | 0, _, _, _, _, _, _ => none
 | k + 1, x2, x33, x632000, x632001, x633000, x633001 => if x33 = true then (some (0, 0, false)) else ((impl_size.f x632000).bind fun t636 => ((impl_size.f x633000).bind fun t637 => (impl_DecDiv.l0 k x2 t636 t637 (wrap64 ((wrap64 (x632001 - x633001)) + x2)) x632000 x632001 x633000 x633001)))
def impl_DecDiv.l0 : Nat → Int → Int → Int → Int → Int → Int → Int → Int → Option (Int × Int × Bool)
 | 0, _, _, _, _, _, _, _, _ => none
 | k + 1, x2, x8, x9, x10, x632000, x632001, x633000, x633001 => if x10 < 0 then (impl_DecDiv.j2 k x2 x8 x9 x10 (decide (x8 > 0)) x632000 x632001 x633000 x633001) else (impl_DecDiv.j2 k x2 x8 x9 x10 false x632000 x632001 x633000 x633001)
def impl_DecDiv.j2 : Nat → Int → Int → Int → Int → Bool → Int → Int → Int → Int → Option (Int × Int × Bool)
 | 0, _, _, _, _, _, _, _, _, _ => none
 | k + 1, x2, x8, x9, x10, x53, x632000, x632001, x633000, x633001 => if x53 = true then (if x9 > 100000000000000000 then (impl_DecDiv.l0 k x2 0 (wrap64 (x9 * 10)) (wrap64 (x10 + 1)) x632000 x632001 x633000 x633001) else (impl_DecDiv.l0 k x2 x8 (wrap64 (x9 * 10)) (wrap64 (x10 + 1)) x632000 x632001 x633000 x633001)) else (if x9 = 0 then (none) else (impl_DecDiv.l1 k x2 x9 x10 (wrap64 (Int.tdiv x8 x9)) (Int.tmod x8 x9) x632000 x632001 x633000 x633001))
def impl_DecDiv.l1 : Nat → Int → Int → Int → Int → Int → Int → Int → Int → Int → Option (Int × Int × Bool)
 | 0, _, _, _, _, _, _, _, _, _ => none
 | k + 1, x2, x9, x10, x11, x12, x632000, x632001, x633000, x633001 => if x10 > 0 then (if x9 = 0 then (none) else (if (wrap64 ((wrap64 (x11 * 10)) + (wrap64 (Int.tdiv (wrap64 (x12 * 10)) x9)))) > 100000000000000000 then (some (0, 0, false)) else (impl_DecDiv.l1 k x2 x9 (wrap64 (x10 - 1)) (wrap64 ((wrap64 (x11 * 10)) + (wrap64 (Int.tdiv (wrap64 (x12 * 10)) x9)))) (Int.tmod (wrap64 (x12 * 10)) x9) x632000 x632001 x633000 x633001))) else (if ((decide (x632000 < 0)) != (decide (x633000 < 0))) = true then ((impl_form.f k (wrap64 (-x11)) (wrap64 (-x2))).bind fun bt638 => (some (bt638.1, bt638.2.1, bt638.2.2))) else ((impl_form.f k x11 (wrap64 (-x2))).bind fun bt641 => (some (bt641.1, bt641.2.1, bt641.2.2))))
end
def impl_DecDiv.f (k : Nat) (a0_0 : Int) (a0_1 : Int) (a1_0 : Int) (a1_1 : Int) (a2 : Int) : Option (Int × Int × Bool) := (impl_DecOk.f a0_0 a0_1).bind fun t634 => (if t634 = true then ((impl_DecOk.f a1_0 a1_1).bind fun t635 => (if t635 = true then (if a1_0 = 0 then (impl_DecDiv.j0 k a2 true a0_0 a0_1 a1_0 a1_1) else (if a2 < 0 then (impl_DecDiv.j0 k a2 true a0_0 a0_1 a1_0 a1_1) else (impl_DecDiv.j0 k a2 (decide (a2 > 8)) a0_0 a0_1 a1_0 a1_1))) else (impl_DecDiv.j0 k a2 true a0_0 a0_1 a1_0 a1_1))) else (impl_DecDiv.j0 k a2 true a0_0 a0_1 a1_0 a1_1))
theorem impl_DecDiv.mono_l : ∀ k, (∀ y0 y1 y2 y3 y4 y5, LeO (impl_DecDiv.j0 k y0 y1 y2 y3 y4 y5) (impl_DecDiv.j0 (k + 1) y0 y1 y2 y3 y4 y5)) ∧ (∀ y0 y1 y2 y3 y4 y5 y6 y7, LeO (impl_DecDiv.l0 k y0 y1 y2 y3 y4 y5 y6 y7) (impl_DecDiv.l0 (k + 1) y0 y1 y2 y3 y4 y5 y6 y7)) ∧ (∀ y0 y1 y2 y3 y4 y5 y6 y7 y8, LeO (impl_DecDiv.j2 k y0 y1 y2 y3 y4 y5 y6 y7 y8) (impl_DecDiv.j2 (k + 1) y0 y1 y2 y3 y4 y5 y6 y7 y8)) ∧ (∀ y0 y1 y2 y3 y4 y5 y6 y7 y8, LeO (impl_DecDiv.l1 k y0 y1 y2 y3 y4 y5 y6 y7 y8) (impl_DecDiv.l1 (k + 1) y0 y1 y2 y3 y4 y5 y6 y7 y8))
 | 0 => ⟨fun _ _ _ _ _ _ r h => by simp [impl_DecDiv.j0] at h, fun _ _ _ _ _ _ _ _ r h => by simp [impl_DecDiv.l0] at h, fun _ _ _ _ _ _ _ _ _ r h => by simp [impl_DecDiv.j2] at h, fun _ _ _ _ _ _ _ _ _ r h => by simp [impl_DecDiv.l1] at h⟩
 | k + 1 => by
  obtain ⟨ih0, ih1, ih2, ih3⟩ := impl_DecDiv.mono_l k
  refine ⟨?_, ?_, ?_, ?_⟩
  ·intro y0 y1 y2 y3 y4 y5
   unfold impl_DecDiv.j0
   repeat' first
   | (with_reducible exact ih0 _ _ _ _ _ _)
   | (with_reducible exact ih1 _ _ _ _ _ _ _ _)
   | (with_reducible exact ih2 _ _ _ _ _ _ _ _ _)
   | (with_reducible exact ih3 _ _ _ _ _ _ _ _ _)
   | (with_reducible exact impl_form.mono _ _ _)
   | (with_reducible exact LeO.refl _)
   | (with_reducible exact LeO.none _)
   | (with_reducible refine LeO.ite ?_ ?_)
   | (with_reducible refine LeO.bind ?_ (fun _ => ?_))
   | exact ih0 _ _ _ _ _ _
   | exact ih1 _ _ _ _ _ _ _ _
   | exact ih2 _ _ _ _ _ _ _ _ _
   | exact ih3 _ _ _ _ _ _ _ _ _
   | exact impl_form.mono _ _ _
   | exact LeO.none _
   | refine LeO.ite ?_ ?_
   | refine LeO.bind ?_ (fun _ => ?_)
  ·intro y0 y1 y2 y3 y4 y5 y6 y7
   unfold impl_DecDiv.l0
   repeat' first
   | (with_reducible exact ih0 _ _ _ _ _ _)
   | (with_reducible exact ih1 _ _ _ _ _ _ _ _)
   | (with_reducible exact ih2 _ _ _ _ _ _ _ _ _)
   | (with_reducible exact ih3 _ _ _ _ _ _ _ _ _)
   | (with_reducible exact impl_form.mono _ _ _)
   | (with_reducible exact LeO.refl _)
   | (with_reducible exact LeO.none _)
   | (with_reducible refine LeO.ite ?_ ?_)
   | (with_reducible refine LeO.bind ?_ (fun _ => ?_))
   | exact ih0 _ _ _ _ _ _
   | exact ih1 _ _ _ _ _ _ _ _
   | exact ih2 _ _ _ _ _ _ _ _ _
   | exact ih3 _ _ _ _ _ _ _ _ _
   | exact impl_form.mono _ _ _
   | exact LeO.none _
   | refine LeO.ite ?_ ?_
   | refine LeO.bind ?_ (fun _ => ?_)
  ·intro y0 y1 y2 y3 y4 y5 y6 y7 y8
   unfold impl_DecDiv.j2
   repeat' first
   | (with_reducible exact ih0 _ _ _ _ _ _)
   | (with_reducible exact ih1 _ _ _ _ _ _ _ _)
   | (with_reducible exact ih2 _ _ _ _ _ _ _ _ _)
   | (with_reducible exact ih3 _ _ _ _ _ _ _ _ _)
   | (with_reducible exact impl_form.mono _ _ _)
   | (with_reducible exact LeO.refl _)
   | (with_reducible exact LeO.none _)
   | (with_reducible refine LeO.ite ?_ ?_)
   | (with_reducible refine LeO.bind ?_ (fun _ => ?_))
   | exact ih0 _ _ _ _ _ _
   | exact ih1 _ _ _ _ _ _ _ _
   | exact ih2 _ _ _ _ _ _ _ _ _
   | exact ih3 _ _ _ _ _ _ _ _ _
   | exact impl_form.mono _ _ _
   | exact LeO.none _
   | refine LeO.ite ?_ ?_
   | refine LeO.bind ?_ (fun _ => ?_)
  ·intro y0 y1 y2 y3 y4 y5 y6 y7 y8
   unfold impl_DecDiv.l1
   repeat' first
   | (with_reducible exact ih0 _ _ _ _ _ _)
   | (with_reducible exact ih1 _ _ _ _ _ _ _ _)
   | (with_reducible exact ih2 _ _ _ _ _ _ _ _ _)
   | (with_reducible exact ih3 _ _ _ _ _ _ _ _ _)
   | (with_reducible exact impl_form.mono _ _ _)
   | (with_reducible exact LeO.refl _)
   | (with_reducible exact LeO.none _)
   | (with_reducible refine LeO.ite ?_ ?_)
   | (with_reducible refine LeO.bind ?_ (fun _ => ?_))
   | exact ih0 _ _ _ _ _ _
   | exact ih1 _ _ _ _ _ _ _ _
   | exact ih2 _ _ _ _ _ _ _ _ _
   | exact ih3 _ _ _ _ _ _ _ _ _
   | exact impl_form.mono _ _ _
   | exact LeO.none _
   | refine LeO.ite ?_ ?_
   | refine LeO.bind ?_ (fun _ => ?_)
theorem impl_DecDiv.mono : ∀ a0 a1 a2 a3 a4 k, LeO (impl_DecDiv.f k a0 a1 a2 a3 a4) (impl_DecDiv.f (k + 1) a0 a1 a2 a3 a4) := by
 intro a0 a1 a2 a3 a4 k
 obtain ⟨ih0, ih1, ih2, ih3⟩ := impl_DecDiv.mono_l k
 unfold impl_DecDiv.f
 repeat' first
   | (with_reducible exact ih0 _ _ _ _ _ _)
   | (with_reducible exact ih1 _ _ _ _ _ _ _ _)
   | (with_reducible exact ih2 _ _ _ _ _ _ _ _ _)
   | (with_reducible exact ih3 _ _ _ _ _ _ _ _ _)
   | (with_reducible exact impl_form.mono _ _ _)
   | (with_reducible exact LeO.refl _)
   | (with_reducible exact LeO.none _)
   | (with_reducible refine LeO.ite ?_ ?_)
   | (with_reducible refine LeO.bind ?_ (fun _ => ?_))
   | exact ih0 _ _ _ _ _ _
   | exact ih1 _ _ _ _ _ _ _ _
   | exact ih2 _ _ _ _ _ _ _ _ _
   | exact ih3 _ _ _ _ _ _ _ _ _
   | exact impl_form.mono _ _ _
   | exact LeO.none _
   | refine LeO.ite ?_ ?_
   | refine LeO.bind ?_ (fun _ => ?_)
def impl_DecDiv.T3 : Bool × List (List Nat × List Nat) := (true, [([], []), ([0], [0]), ([1], [1]), ([], []), ([3], [3]), ([4, 2], [4]), ([2, 5, 0, 1, 2], [2]), ([5, 6, 0, 1, 2, 3, 4, 5, 6], [5])])
def impl_DecDiv.B3 : List Nat := [0, 1, 3, 0, 8, 31, 63, 127]
theorem impl_DecDiv.tab3 : rtab .any (opsOf Try.f37 3) = impl_DecDiv.T3 := by kernel_rfl
theorem impl_DecDiv.bits3 : waitsOk impl_DecDiv.T3.2 impl_DecDiv.B3 = true := by kernel_rfl
def impl_DecDiv.T10 : Bool × List (List Nat × List Nat) := (true, [([], []), ([], []), ([0, 1], [0, 1]), ([], []), ([], []), ([3, 4], [3, 4]), ([2, 0, 1, 2], [2]), ([5, 6, 0, 1, 2, 3, 4, 5, 6], [5])])
def impl_DecDiv.B10 : List Nat := [0, 0, 3, 0, 0, 24, 7, 127]
theorem impl_DecDiv.tab10 : rtab .any (opsOf Try.f37 10) = impl_DecDiv.T10 := by kernel_rfl
theorem impl_DecDiv.bits10 : waitsOk impl_DecDiv.T10.2 impl_DecDiv.B10 = true := by kernel_rfl
set_option maxHeartbeats 8000000 in
set_option maxRecDepth 100000 in
theorem impl_DecDiv.calls (k : Nat) (a0_0 : Int) (a0_1 : Int) (a1_0 : Int) (a1_1 : Int) (a2 : Int) (r1 : Int) (r2 : Int) (r3 : Bool) (w : World) (h : impl_DecDiv.f k a0_0 a0_1 a1_0 a1_1 a2 = some (r1, r2, r3)) :
  Calls Try.prog 37 #[.agg #[.int .i64 a0_0, .int .i64 a0_1], .agg #[.int .i64 a1_0, .int .i64 a1_1], .int .i64 a2] w fun e w' => e = .returned (.tuple #[.agg #[.int .i64 r1, .int .i64 r2], .bool r3]) ∧ Below w.heap.size w w' := by
 have hu26 := Try.underlying26
 have HB := zA (Below.refl w.heap.size w)
 have H : ((impl_DecOk.f a0_0 a0_1).bind fun t634 => (if t634 = true then ((impl_DecOk.f a1_0 a1_1).bind fun t635 => (if t635 = true then (if a1_0 = 0 then (impl_DecDiv.j0 k a2 true a0_0 a0_1 a1_0 a1_1) else (if a2 < 0 then (impl_DecDiv.j0 k a2 true a0_0 a0_1 a1_0 a1_1) else (impl_DecDiv.j0 k a2 (decide (a2 > 8)) a0_0 a0_1 a1_0 a1_1))) else (impl_DecDiv.j0 k a2 true a0_0 a0_1 a1_0 a1_1))) else (impl_DecDiv.j0 k a2 true a0_0 a0_1 a1_0 a1_1))) = some (r1, r2, r3) := h
 clear h
 have HC4 := zA H
 clear H
 go_enter Try.func37, Try.ntmps37
 go_upto_region 1 with (first | ((with_reducible refine zS (N := 3) rfl ?_); refine zV ?hg (N := 3) ?hd (cs := #[.int .i64 a0_0, .int .i64 a0_1]) (t := 26) ?hr ?_; (case hd => rfl); (case hg => rfl); (case hr => first | (go_simp; done) | (go_simp; rfl)); intro gb631 hg w5 hbox hb; have n0_ := zA (zQ (by repeat (first | (with_reducible first | exact HB.out | apply zG | apply zE | apply zF) | exact HB.out)) hb); have n1_ := zA (hbox); have n2_ := zA ((by rw [hg]; exact (zR (by repeat (first | (with_reducible first | exact HB.out | apply zG | apply zE | apply zF) | exact HB.out))) : w.heap.size ≤ gb631)); have n3_ := zA ((by rw [hg]; exact (zR (by repeat (first | (with_reducible first | exact HB.out | apply zG | apply zE | apply zF) | exact HB.out))) : w.heap.size ≤ gb631)); clear HB; have HB := n0_; have BK631 := n1_; have GW631 := n2_; have GE631 := n3_; clear n0_ n1_ n2_ n3_; clear hb hbox hg) | ((with_reducible refine zS (N := 4) rfl ?_); refine zV ?hg (N := 4) ?hd (cs := #[.int .i64 a1_0, .int .i64 a1_1]) (t := 26) ?hr ?_; (case hd => rfl); (case hg => rfl); (case hr => first | (go_simp; done) | (go_simp; rfl)); intro gb632 hg w6 hbox hb; have n0_ := zA (zP (g := gb631) (o := .cells #[.int .i64 a0_0, .int .i64 a0_1] 26 (0, 0)) (by (with_reducible repeat (first | refine zB ?_ _ | refine zD ?_ | refine zC ?_ _)); exact BK631.out) hb); have n1_ := zA (zQ (by repeat (first | (with_reducible first | exact HB.out | apply zG | apply zE | apply zF | refine zH ?_ GE631.out) | exact HB.out)) hb); have n2_ := zA (hbox); have n3_ := zA ((by rw [hg]; exact (zR (by repeat (first | (with_reducible first | exact HB.out | apply zG | apply zE | apply zF | refine zH ?_ GE631.out) | exact HB.out))) : w.heap.size ≤ gb632)); have n4_ := zA ((by rw [hg]; exact (zR (by repeat (first | (with_reducible first | exact HB.out | apply zG | apply zE | apply zF | refine zH ?_ GE631.out) | exact HB.out))) : w.heap.size ≤ gb632)); have n5_ := zA ((by rw [hg]; exact Nat.ne_of_lt (blk_lt (g := gb631) (o := .cells #[.int .i64 a0_0, .int .i64 a0_1] 26 (0, 0)) (by (with_reducible repeat (first | refine zB ?_ _ | refine zD ?_ | refine zC ?_ _)); exact BK631.out)) : gb631 ≠ gb632)); have n6_ := zA ((by rw [hg]; exact Nat.ne_of_gt (blk_lt (g := gb631) (o := .cells #[.int .i64 a0_0, .int .i64 a0_1] 26 (0, 0)) (by (with_reducible repeat (first | refine zB ?_ _ | refine zD ?_ | refine zC ?_ _)); exact BK631.out)) : gb632 ≠ gb631)); clear BK631; clear HB; have BK631 := n0_; have HB := n1_; have BK632 := n2_; have GW632 := n3_; have GE632 := n4_; have NB631_632 := n5_; have NB632_631 := n6_; clear n0_ n1_ n2_ n3_ n4_ n5_ n6_; clear hb hbox hg) | ((with_reducible refine zS (N := 6) rfl ?_); refine zV ?hg (N := 6) ?hd (cs := #[.int .i64 0, .int .i64 0]) (t := 26) ?hr ?_; (case hd => rfl); (case hg => rfl); (case hr => first | (go_simp; done) | (go_simp; rfl)); intro gb633 hg w7 hbox hb; have n0_ := zA (zP (g := gb631) (o := .cells #[.int .i64 a0_0, .int .i64 a0_1] 26 (0, 0)) (by (with_reducible repeat (first | refine zB ?_ _ | refine zD ?_ | refine zC ?_ _)); exact BK631.out) hb); have n1_ := zA (zP (g := gb632) (o := .cells #[.int .i64 a1_0, .int .i64 a1_1] 26 (0, 0)) (by (with_reducible repeat (first | refine zB ?_ _ | refine zD ?_ | refine zC ?_ _)); exact BK632.out) hb); have n2_ := zA (zQ (by repeat (first | (with_reducible first | exact HB.out | apply zG | apply zE | apply zF | refine zH ?_ GE631.out | refine zH ?_ GE632.out) | exact HB.out)) hb); have n3_ := zA (hbox); have n4_ := zA ((by rw [hg]; exact (zR (by repeat (first | (with_reducible first | exact HB.out | apply zG | apply zE | apply zF | refine zH ?_ GE631.out | refine zH ?_ GE632.out) | exact HB.out))) : w.heap.size ≤ gb633)); have n5_ := zA ((by rw [hg]; exact (zR (by repeat (first | (with_reducible first | exact HB.out | apply zG | apply zE | apply zF | refine zH ?_ GE631.out | refine zH ?_ GE632.out) | exact HB.out))) : w.heap.size ≤ gb633)); have n6_ := zA ((by rw [hg]; exact Nat.ne_of_lt (blk_lt (g := gb631) (o := .cells #[.int .i64 a0_0, .int .i64 a0_1] 26 (0, 0)) (by (with_reducible repeat (first | refine zB ?_ _ | refine zD ?_ | refine zC ?_ _)); exact BK631.out)) : gb631 ≠ gb633)); have n7_ := zA ((by rw [hg]; exact Nat.ne_of_gt (blk_lt (g := gb631) (o := .cells #[.int .i64 a0_0, .int .i64 a0_1] 26 (0, 0)) (by (with_reducible repeat (first | refine zB ?_ _ | refine zD ?_ | refine zC ?_ _)); exact BK631.out)) : gb633 ≠ gb631)); have n8_ := zA ((by rw [hg]; exact Nat.ne_of_lt (blk_lt (g := gb632) (o := .cells #[.int .i64 a1_0, .int .i64 a1_1] 26 (0, 0)) (by (with_reducible repeat (first | refine zB ?_ _ | refine zD ?_ | refine zC ?_ _)); exact BK632.out)) : gb632 ≠ gb633)); have n9_ := zA ((by rw [hg]; exact Nat.ne_of_gt (blk_lt (g := gb632) (o := .cells #[.int .i64 a1_0, .int .i64 a1_1] 26 (0, 0)) (by (with_reducible repeat (first | refine zB ?_ _ | refine zD ?_ | refine zC ?_ _)); exact BK632.out)) : gb633 ≠ gb632)); clear BK631; clear BK632; clear HB; have BK631 := n0_; have BK632 := n1_; have HB := n2_; have BK633 := n3_; have GW633 := n4_; have GE633 := n5_; have NB631_633 := n6_; have NB633_631 := n7_; have NB632_633 := n8_; have NB633_632 := n9_; clear n0_ n1_ n2_ n3_ n4_ n5_ n6_ n7_ n8_ n9_; clear hb hbox hg))
 (try simp only [Act.put, zL, zM, zN])
 go_cut [33] (fun v33 wc => ∃ (kq : Nat) (x33_3 : Bool), v33 = .bool x33_3 ∧ Aside0 (impl_DecDiv.j0 kq a2 x33_3 a0_0 a0_1 a1_0 a1_1 = some (r1, r2, r3)) ∧ Aside0 (kq ≤ k) ∧ Aside0 (wc.heap[gb631]? = some (.cells #[.int .i64 a0_0, .int .i64 a0_1] 26 (0, 0))) ∧ Aside0 (wc.heap[gb632]? = some (.cells #[.int .i64 a1_0, .int .i64 a1_1] 26 (0, 0))) ∧ Aside0 (wc.heap[gb633]? = some (.cells #[.int .i64 0, .int .i64 0] 26 (0, 0))) ∧ Aside0 (Below w.heap.size w wc))
 case first =>
  have H := HC4.out
  clear HC4
  replace H := Option.bind_eq_some_iff.mp H
  obtain ⟨t634, A80, H⟩ := H
  replace H : (if t634 = true then ((impl_DecOk.f a1_0 a1_1).bind fun t635 => (if t635 = true then (if a1_0 = 0 then (impl_DecDiv.j0 k a2 true a0_0 a0_1 a1_0 a1_1) else (if a2 < 0 then (impl_DecDiv.j0 k a2 true a0_0 a0_1 a1_0 a1_1) else (impl_DecDiv.j0 k a2 (decide (a2 > 8)) a0_0 a0_1 a1_0 a1_1))) else (impl_DecDiv.j0 k a2 true a0_0 a0_1 a1_0 a1_1))) else (impl_DecDiv.j0 k a2 true a0_0 a0_1 a1_0 a1_1)) = some (r1, r2, r3) := H
  have A8 := zA A80
  clear A80
  by_cases c9 : t634 = true
  ·subst c9
   have H1 : ((impl_DecOk.f a1_0 a1_1).bind fun t635 => (if t635 = true then (if a1_0 = 0 then (impl_DecDiv.j0 k a2 true a0_0 a0_1 a1_0 a1_1) else (if a2 < 0 then (impl_DecDiv.j0 k a2 true a0_0 a0_1 a1_0 a1_1) else (impl_DecDiv.j0 k a2 (decide (a2 > 8)) a0_0 a0_1 a1_0 a1_1))) else (impl_DecDiv.j0 k a2 true a0_0 a0_1 a1_0 a1_1))) = some (r1, r2, r3) := by rw [if_pos rfl] at H; exact H
   clear H
   have H := H1
   clear H1
   replace H := Option.bind_eq_some_iff.mp H
   obtain ⟨t635, A100, H⟩ := H
   replace H : (if t635 = true then (if a1_0 = 0 then (impl_DecDiv.j0 k a2 true a0_0 a0_1 a1_0 a1_1) else (if a2 < 0 then (impl_DecDiv.j0 k a2 true a0_0 a0_1 a1_0 a1_1) else (impl_DecDiv.j0 k a2 (decide (a2 > 8)) a0_0 a0_1 a1_0 a1_1))) else (impl_DecDiv.j0 k a2 true a0_0 a0_1 a1_0 a1_1)) = some (r1, r2, r3) := H
   have A10 := zA A100
   clear A100
   by_cases c11 : t635 = true
   ·subst c11
    have H1 : (if a1_0 = 0 then (impl_DecDiv.j0 k a2 true a0_0 a0_1 a1_0 a1_1) else (if a2 < 0 then (impl_DecDiv.j0 k a2 true a0_0 a0_1 a1_0 a1_1) else (impl_DecDiv.j0 k a2 (decide (a2 > 8)) a0_0 a0_1 a1_0 a1_1))) = some (r1, r2, r3) := by rw [if_pos rfl] at H; exact H
    clear H
    have H := H1
    clear H1
    by_cases c12 : a1_0 = 0
    ·rw [if_pos c12] at H
     have c12b0 : (a1_0 == 0) = true := beq_iff_eq.mpr c12
     have c12b1 : (a1_0 != 0) = false := bne_eq_false_iff_eq.mpr c12
     clear c12
     (first | rw [c12b0] | (simp only [i64_w, i32_w]; rw [c12b0]) | skip)
     have H' := zA H
     clear H
     have hnb13 := NB631_632.out
     have hnc13 := NB632_631.out
     have hnb14 := NB631_633.out
     have hnc14 := NB633_631.out
     have hcz15_0 : w7.cell? ⟨gb631, 0, none⟩ = some (.int .i64 a0_0) := (zJ BK631.out 0).trans rfl
     have hcz15_1 : w7.cell? ⟨gb631, 1, none⟩ = some (.int .i64 a0_1) := (zJ BK631.out 1).trans rfl
     have hfz15_0 := zK BK631.out 0
     have hfz15_1 := zK BK631.out 1
     go_wp2_with (first | ((with_reducible refine zT (f := 16) rfl ?_); refine goesL_ (some 14) rfl rfl Try.func16 (by kernel_rfl) rfl #[.agg #[.int .i64 a0_0, .int .i64 a0_1]] rfl (by (try simp only [zW, yA, yB]); first | done | rfl | (simp only [zX, zZ]; rfl)) ?_; (with_reducible refine (impl_DecOk.calls a0_0 a0_1 true _ A8.out).mono ?_); rintro e w16 ⟨rfl, hb⟩; refine ⟨_, rfl, ?_⟩; have n0_ := zA (zP (g := gb631) (o := .cells #[.int .i64 a0_0, .int .i64 a0_1] 26 (0, 0)) (by (with_reducible repeat (first | refine zB ?_ _ | refine zD ?_ | refine zC ?_ _)); exact BK631.out) hb); have n1_ := zA (zP (g := gb632) (o := .cells #[.int .i64 a1_0, .int .i64 a1_1] 26 (0, 0)) (by (with_reducible repeat (first | refine zB ?_ _ | refine zD ?_ | refine zC ?_ _)); exact BK632.out) hb); have n2_ := zA (zP (g := gb633) (o := .cells #[.int .i64 0, .int .i64 0] 26 (0, 0)) (by (with_reducible repeat (first | refine zB ?_ _ | refine zD ?_ | refine zC ?_ _)); exact BK633.out) hb); have n3_ := zA (zQ (by repeat (first | (with_reducible first | exact HB.out | apply zG | apply zE | apply zF | refine zH ?_ GE631.out | refine zH ?_ GE632.out | refine zH ?_ GE633.out) | exact HB.out)) hb); clear BK631; clear BK632; clear BK633; clear HB; have BK631 := n0_; have BK632 := n1_; have BK633 := n2_; have HB := n3_; clear n0_ n1_ n2_ n3_; (try clear hb); (try clear hb2); (try clear hk); (try clear hi); have hnb17 := NB632_633.out; have hnc17 := NB633_632.out; have hcz18_0 : w16.cell? ⟨gb632, 0, none⟩ = some (.int .i64 a1_0) := (zJ BK632.out 0).trans rfl; have hcz18_1 : w16.cell? ⟨gb632, 1, none⟩ = some (.int .i64 a1_1) := (zJ BK632.out 1).trans rfl; have hfz18_0 := zK BK632.out 0; have hfz18_1 := zK BK632.out 1) | (go_at_call 16; (with_reducible refine (impl_DecOk.calls a1_0 a1_1 true _ A10.out).mono ?_); rintro e w19 ⟨rfl, hb⟩; have n0_ := zA (zP (g := gb631) (o := .cells #[.int .i64 a0_0, .int .i64 a0_1] 26 (0, 0)) (by (with_reducible repeat (first | refine zB ?_ _ | refine zD ?_ | refine zC ?_ _)); exact BK631.out) hb); have n1_ := zA (zP (g := gb632) (o := .cells #[.int .i64 a1_0, .int .i64 a1_1] 26 (0, 0)) (by (with_reducible repeat (first | refine zB ?_ _ | refine zD ?_ | refine zC ?_ _)); exact BK632.out) hb); have n2_ := zA (zP (g := gb633) (o := .cells #[.int .i64 0, .int .i64 0] 26 (0, 0)) (by (with_reducible repeat (first | refine zB ?_ _ | refine zD ?_ | refine zC ?_ _)); exact BK633.out) hb); have n3_ := zA (zQ (by repeat (first | (with_reducible first | exact HB.out | apply zG | apply zE | apply zF | refine zH ?_ GE631.out | refine zH ?_ GE632.out | refine zH ?_ GE633.out) | exact HB.out)) hb); clear BK631; clear BK632; clear BK633; clear HB; have BK631 := n0_; have BK632 := n1_; have BK633 := n2_; have HB := n3_; clear n0_ n1_ n2_ n3_; (try clear hb); (try clear hb2); (try clear hk); (try clear hi); have hcz20_0 : w19.cell? ⟨gb632, 0, none⟩ = some (.int .i64 a1_0) := (zJ BK632.out 0).trans rfl; have hcz20_1 : w19.cell? ⟨gb632, 1, none⟩ = some (.int .i64 a1_1) := (zJ BK632.out 1).trans rfl; have hfz20_0 := zK BK632.out 0; have hfz20_1 := zK BK632.out 1))
     go_meet
     case rel => exact ⟨_, (true), (by first | rfl | (simp; done) | (simp [*]; done)), H', ⟨by first | omega | exact Nat.le_refl _⟩, ⟨by (with_reducible repeat (first | refine zB ?_ _ | refine zD ?_ | refine zC ?_ _)); exact BK631.out⟩, ⟨by (with_reducible repeat (first | refine zB ?_ _ | refine zD ?_ | refine zC ?_ _)); exact BK632.out⟩, ⟨by (with_reducible repeat (first | refine zB ?_ _ | refine zD ?_ | refine zC ?_ _)); exact BK633.out⟩, ⟨by repeat (first | (with_reducible first | exact HB.out | apply zG | apply zE | apply zF | refine zH ?_ GE631.out | refine zH ?_ GE632.out | refine zH ?_ GE633.out) | exact HB.out)⟩⟩
    ·rw [if_neg c12] at H
     have c12b0 : (a1_0 == 0) = false := beq_eq_false_iff_ne.mpr c12
     have c12b1 : (a1_0 != 0) = true := bne_iff_ne.mpr c12
     (first | rw [c12b0] | (simp only [i64_w, i32_w]; rw [c12b0]) | skip)
     by_cases c21 : a2 < 0
     ·rw [if_pos c21] at H
      have c21b0 : decide (a2 < 0) = true := decide_eq_true c21
      clear c21
      have H' := zA H
      clear H
      have hnb22 := NB631_632.out
      have hnc22 := NB632_631.out
      have hnb23 := NB631_633.out
      have hnc23 := NB633_631.out
      have hcz24_0 : w7.cell? ⟨gb631, 0, none⟩ = some (.int .i64 a0_0) := (zJ BK631.out 0).trans rfl
      have hcz24_1 : w7.cell? ⟨gb631, 1, none⟩ = some (.int .i64 a0_1) := (zJ BK631.out 1).trans rfl
      have hfz24_0 := zK BK631.out 0
      have hfz24_1 := zK BK631.out 1
      go_wp2_with (first | ((with_reducible refine zT (f := 16) rfl ?_); refine goesL_ (some 14) rfl rfl Try.func16 (by kernel_rfl) rfl #[.agg #[.int .i64 a0_0, .int .i64 a0_1]] rfl (by (try simp only [zW, yA, yB]); first | done | rfl | (simp only [zX, zZ]; rfl)) ?_; (with_reducible refine (impl_DecOk.calls a0_0 a0_1 true _ A8.out).mono ?_); rintro e w25 ⟨rfl, hb⟩; refine ⟨_, rfl, ?_⟩; have n0_ := zA (zP (g := gb631) (o := .cells #[.int .i64 a0_0, .int .i64 a0_1] 26 (0, 0)) (by (with_reducible repeat (first | refine zB ?_ _ | refine zD ?_ | refine zC ?_ _)); exact BK631.out) hb); have n1_ := zA (zP (g := gb632) (o := .cells #[.int .i64 a1_0, .int .i64 a1_1] 26 (0, 0)) (by (with_reducible repeat (first | refine zB ?_ _ | refine zD ?_ | refine zC ?_ _)); exact BK632.out) hb); have n2_ := zA (zP (g := gb633) (o := .cells #[.int .i64 0, .int .i64 0] 26 (0, 0)) (by (with_reducible repeat (first | refine zB ?_ _ | refine zD ?_ | refine zC ?_ _)); exact BK633.out) hb); have n3_ := zA (zQ (by repeat (first | (with_reducible first | exact HB.out | apply zG | apply zE | apply zF | refine zH ?_ GE631.out | refine zH ?_ GE632.out | refine zH ?_ GE633.out) | exact HB.out)) hb); clear BK631; clear BK632; clear BK633; clear HB; have BK631 := n0_; have BK632 := n1_; have BK633 := n2_; have HB := n3_; clear n0_ n1_ n2_ n3_; (try clear hb); (try clear hb2); (try clear hk); (try clear hi); have hnb26 := NB632_633.out; have hnc26 := NB633_632.out; have hcz27_0 : w25.cell? ⟨gb632, 0, none⟩ = some (.int .i64 a1_0) := (zJ BK632.out 0).trans rfl; have hcz27_1 : w25.cell? ⟨gb632, 1, none⟩ = some (.int .i64 a1_1) := (zJ BK632.out 1).trans rfl; have hfz27_0 := zK BK632.out 0; have hfz27_1 := zK BK632.out 1) | (go_at_call 16; (with_reducible refine (impl_DecOk.calls a1_0 a1_1 true _ A10.out).mono ?_); rintro e w28 ⟨rfl, hb⟩; have n0_ := zA (zP (g := gb631) (o := .cells #[.int .i64 a0_0, .int .i64 a0_1] 26 (0, 0)) (by (with_reducible repeat (first | refine zB ?_ _ | refine zD ?_ | refine zC ?_ _)); exact BK631.out) hb); have n1_ := zA (zP (g := gb632) (o := .cells #[.int .i64 a1_0, .int .i64 a1_1] 26 (0, 0)) (by (with_reducible repeat (first | refine zB ?_ _ | refine zD ?_ | refine zC ?_ _)); exact BK632.out) hb); have n2_ := zA (zP (g := gb633) (o := .cells #[.int .i64 0, .int .i64 0] 26 (0, 0)) (by (with_reducible repeat (first | refine zB ?_ _ | refine zD ?_ | refine zC ?_ _)); exact BK633.out) hb); have n3_ := zA (zQ (by repeat (first | (with_reducible first | exact HB.out | apply zG | apply zE | apply zF | refine zH ?_ GE631.out | refine zH ?_ GE632.out | refine zH ?_ GE633.out) | exact HB.out)) hb); clear BK631; clear BK632; clear BK633; clear HB; have BK631 := n0_; have BK632 := n1_; have BK633 := n2_; have HB := n3_; clear n0_ n1_ n2_ n3_; (try clear hb); (try clear hb2); (try clear hk); (try clear hi); have hcz29_0 : w28.cell? ⟨gb632, 0, none⟩ = some (.int .i64 a1_0) := (zJ BK632.out 0).trans rfl; have hcz29_1 : w28.cell? ⟨gb632, 1, none⟩ = some (.int .i64 a1_1) := (zJ BK632.out 1).trans rfl; have hfz29_0 := zK BK632.out 0; have hfz29_1 := zK BK632.out 1))
      go_meet
      case rel => exact ⟨_, (true), (by first | rfl | (simp; done) | (simp [*]; done)), H', ⟨by first | omega | exact Nat.le_refl _⟩, ⟨by (with_reducible repeat (first | refine zB ?_ _ | refine zD ?_ | refine zC ?_ _)); exact BK631.out⟩, ⟨by (with_reducible repeat (first | refine zB ?_ _ | refine zD ?_ | refine zC ?_ _)); exact BK632.out⟩, ⟨by (with_reducible repeat (first | refine zB ?_ _ | refine zD ?_ | refine zC ?_ _)); exact BK633.out⟩, ⟨by repeat (first | (with_reducible first | exact HB.out | apply zG | apply zE | apply zF | refine zH ?_ GE631.out | refine zH ?_ GE632.out | refine zH ?_ GE633.out) | exact HB.out)⟩⟩
     ·rw [if_neg c21] at H
      have c21b0 : decide (a2 < 0) = false := decide_eq_false c21
      clear c21
      have H' := zA H
      clear H
      have hnb30 := NB631_632.out
      have hnc30 := NB632_631.out
      have hnb31 := NB631_633.out
      have hnc31 := NB633_631.out
      have hcz32_0 : w7.cell? ⟨gb631, 0, none⟩ = some (.int .i64 a0_0) := (zJ BK631.out 0).trans rfl
      have hcz32_1 : w7.cell? ⟨gb631, 1, none⟩ = some (.int .i64 a0_1) := (zJ BK631.out 1).trans rfl
      have hfz32_0 := zK BK631.out 0
      have hfz32_1 := zK BK631.out 1
      go_wp2_with (first | ((with_reducible refine zT (f := 16) rfl ?_); refine goesL_ (some 14) rfl rfl Try.func16 (by kernel_rfl) rfl #[.agg #[.int .i64 a0_0, .int .i64 a0_1]] rfl (by (try simp only [zW, yA, yB]); first | done | rfl | (simp only [zX, zZ]; rfl)) ?_; (with_reducible refine (impl_DecOk.calls a0_0 a0_1 true _ A8.out).mono ?_); rintro e w33 ⟨rfl, hb⟩; refine ⟨_, rfl, ?_⟩; have n0_ := zA (zP (g := gb631) (o := .cells #[.int .i64 a0_0, .int .i64 a0_1] 26 (0, 0)) (by (with_reducible repeat (first | refine zB ?_ _ | refine zD ?_ | refine zC ?_ _)); exact BK631.out) hb); have n1_ := zA (zP (g := gb632) (o := .cells #[.int .i64 a1_0, .int .i64 a1_1] 26 (0, 0)) (by (with_reducible repeat (first | refine zB ?_ _ | refine zD ?_ | refine zC ?_ _)); exact BK632.out) hb); have n2_ := zA (zP (g := gb633) (o := .cells #[.int .i64 0, .int .i64 0] 26 (0, 0)) (by (with_reducible repeat (first | refine zB ?_ _ | refine zD ?_ | refine zC ?_ _)); exact BK633.out) hb); have n3_ := zA (zQ (by repeat (first | (with_reducible first | exact HB.out | apply zG | apply zE | apply zF | refine zH ?_ GE631.out | refine zH ?_ GE632.out | refine zH ?_ GE633.out) | exact HB.out)) hb); clear BK631; clear BK632; clear BK633; clear HB; have BK631 := n0_; have BK632 := n1_; have BK633 := n2_; have HB := n3_; clear n0_ n1_ n2_ n3_; (try clear hb); (try clear hb2); (try clear hk); (try clear hi); have hnb34 := NB632_633.out; have hnc34 := NB633_632.out; have hcz35_0 : w33.cell? ⟨gb632, 0, none⟩ = some (.int .i64 a1_0) := (zJ BK632.out 0).trans rfl; have hcz35_1 : w33.cell? ⟨gb632, 1, none⟩ = some (.int .i64 a1_1) := (zJ BK632.out 1).trans rfl; have hfz35_0 := zK BK632.out 0; have hfz35_1 := zK BK632.out 1) | (go_at_call 16; (with_reducible refine (impl_DecOk.calls a1_0 a1_1 true _ A10.out).mono ?_); rintro e w36 ⟨rfl, hb⟩; have n0_ := zA (zP (g := gb631) (o := .cells #[.int .i64 a0_0, .int .i64 a0_1] 26 (0, 0)) (by (with_reducible repeat (first | refine zB ?_ _ | refine zD ?_ | refine zC ?_ _)); exact BK631.out) hb); have n1_ := zA (zP (g := gb632) (o := .cells #[.int .i64 a1_0, .int .i64 a1_1] 26 (0, 0)) (by (with_reducible repeat (first | refine zB ?_ _ | refine zD ?_ | refine zC ?_ _)); exact BK632.out) hb); have n2_ := zA (zP (g := gb633) (o := .cells #[.int .i64 0, .int .i64 0] 26 (0, 0)) (by (with_reducible repeat (first | refine zB ?_ _ | refine zD ?_ | refine zC ?_ _)); exact BK633.out) hb); have n3_ := zA (zQ (by repeat (first | (with_reducible first | exact HB.out | apply zG | apply zE | apply zF | refine zH ?_ GE631.out | refine zH ?_ GE632.out | refine zH ?_ GE633.out) | exact HB.out)) hb); clear BK631; clear BK632; clear BK633; clear HB; have BK631 := n0_; have BK632 := n1_; have BK633 := n2_; have HB := n3_; clear n0_ n1_ n2_ n3_; (try clear hb); (try clear hb2); (try clear hk); (try clear hi); have hcz37_0 : w36.cell? ⟨gb632, 0, none⟩ = some (.int .i64 a1_0) := (zJ BK632.out 0).trans rfl; have hcz37_1 : w36.cell? ⟨gb632, 1, none⟩ = some (.int .i64 a1_1) := (zJ BK632.out 1).trans rfl; have hfz37_0 := zK BK632.out 0; have hfz37_1 := zK BK632.out 1))
      go_meet
      case rel => exact ⟨_, (decide (a2 > 8)), (by first | rfl | (simp; done) | (simp [*]; done)), H', ⟨by first | omega | exact Nat.le_refl _⟩, ⟨by (with_reducible repeat (first | refine zB ?_ _ | refine zD ?_ | refine zC ?_ _)); exact BK631.out⟩, ⟨by (with_reducible repeat (first | refine zB ?_ _ | refine zD ?_ | refine zC ?_ _)); exact BK632.out⟩, ⟨by (with_reducible repeat (first | refine zB ?_ _ | refine zD ?_ | refine zC ?_ _)); exact BK633.out⟩, ⟨by repeat (first | (with_reducible first | exact HB.out | apply zG | apply zE | apply zF | refine zH ?_ GE631.out | refine zH ?_ GE632.out | refine zH ?_ GE633.out) | exact HB.out)⟩⟩
   ·replace c11 := Bool.eq_false_iff.mpr c11
    subst c11
    have H1 : (impl_DecDiv.j0 k a2 true a0_0 a0_1 a1_0 a1_1) = some (r1, r2, r3) := by rw [if_neg (show ¬ (false = true) by decide)] at H; exact H
    clear H
    have H := H1
    clear H1
    have H' := zA H
    clear H
    have hnb38 := NB631_632.out
    have hnc38 := NB632_631.out
    have hnb39 := NB631_633.out
    have hnc39 := NB633_631.out
    have hcz40_0 : w7.cell? ⟨gb631, 0, none⟩ = some (.int .i64 a0_0) := (zJ BK631.out 0).trans rfl
    have hcz40_1 : w7.cell? ⟨gb631, 1, none⟩ = some (.int .i64 a0_1) := (zJ BK631.out 1).trans rfl
    have hfz40_0 := zK BK631.out 0
    have hfz40_1 := zK BK631.out 1
    go_wp2_with (first | ((with_reducible refine zT (f := 16) rfl ?_); refine goesL_ (some 14) rfl rfl Try.func16 (by kernel_rfl) rfl #[.agg #[.int .i64 a0_0, .int .i64 a0_1]] rfl (by (try simp only [zW, yA, yB]); first | done | rfl | (simp only [zX, zZ]; rfl)) ?_; (with_reducible refine (impl_DecOk.calls a0_0 a0_1 true _ A8.out).mono ?_); rintro e w41 ⟨rfl, hb⟩; refine ⟨_, rfl, ?_⟩; have n0_ := zA (zP (g := gb631) (o := .cells #[.int .i64 a0_0, .int .i64 a0_1] 26 (0, 0)) (by (with_reducible repeat (first | refine zB ?_ _ | refine zD ?_ | refine zC ?_ _)); exact BK631.out) hb); have n1_ := zA (zP (g := gb632) (o := .cells #[.int .i64 a1_0, .int .i64 a1_1] 26 (0, 0)) (by (with_reducible repeat (first | refine zB ?_ _ | refine zD ?_ | refine zC ?_ _)); exact BK632.out) hb); have n2_ := zA (zP (g := gb633) (o := .cells #[.int .i64 0, .int .i64 0] 26 (0, 0)) (by (with_reducible repeat (first | refine zB ?_ _ | refine zD ?_ | refine zC ?_ _)); exact BK633.out) hb); have n3_ := zA (zQ (by repeat (first | (with_reducible first | exact HB.out | apply zG | apply zE | apply zF | refine zH ?_ GE631.out | refine zH ?_ GE632.out | refine zH ?_ GE633.out) | exact HB.out)) hb); clear BK631; clear BK632; clear BK633; clear HB; have BK631 := n0_; have BK632 := n1_; have BK633 := n2_; have HB := n3_; clear n0_ n1_ n2_ n3_; (try clear hb); (try clear hb2); (try clear hk); (try clear hi); have hnb42 := NB632_633.out; have hnc42 := NB633_632.out; have hcz43_0 : w41.cell? ⟨gb632, 0, none⟩ = some (.int .i64 a1_0) := (zJ BK632.out 0).trans rfl; have hcz43_1 : w41.cell? ⟨gb632, 1, none⟩ = some (.int .i64 a1_1) := (zJ BK632.out 1).trans rfl; have hfz43_0 := zK BK632.out 0; have hfz43_1 := zK BK632.out 1) | (go_at_call 16; (with_reducible refine (impl_DecOk.calls a1_0 a1_1 false _ A10.out).mono ?_); rintro e w44 ⟨rfl, hb⟩; have n0_ := zA (zP (g := gb631) (o := .cells #[.int .i64 a0_0, .int .i64 a0_1] 26 (0, 0)) (by (with_reducible repeat (first | refine zB ?_ _ | refine zD ?_ | refine zC ?_ _)); exact BK631.out) hb); have n1_ := zA (zP (g := gb632) (o := .cells #[.int .i64 a1_0, .int .i64 a1_1] 26 (0, 0)) (by (with_reducible repeat (first | refine zB ?_ _ | refine zD ?_ | refine zC ?_ _)); exact BK632.out) hb); have n2_ := zA (zP (g := gb633) (o := .cells #[.int .i64 0, .int .i64 0] 26 (0, 0)) (by (with_reducible repeat (first | refine zB ?_ _ | refine zD ?_ | refine zC ?_ _)); exact BK633.out) hb); have n3_ := zA (zQ (by repeat (first | (with_reducible first | exact HB.out | apply zG | apply zE | apply zF | refine zH ?_ GE631.out | refine zH ?_ GE632.out | refine zH ?_ GE633.out) | exact HB.out)) hb); clear BK631; clear BK632; clear BK633; clear HB; have BK631 := n0_; have BK632 := n1_; have BK633 := n2_; have HB := n3_; clear n0_ n1_ n2_ n3_; (try clear hb); (try clear hb2); (try clear hk); (try clear hi)))
    go_meet
    case rel => exact ⟨_, (true), (by first | rfl | (simp; done) | (simp [*]; done)), H', ⟨by first | omega | exact Nat.le_refl _⟩, ⟨by (with_reducible repeat (first | refine zB ?_ _ | refine zD ?_ | refine zC ?_ _)); exact BK631.out⟩, ⟨by (with_reducible repeat (first | refine zB ?_ _ | refine zD ?_ | refine zC ?_ _)); exact BK632.out⟩, ⟨by (with_reducible repeat (first | refine zB ?_ _ | refine zD ?_ | refine zC ?_ _)); exact BK633.out⟩, ⟨by repeat (first | (with_reducible first | exact HB.out | apply zG | apply zE | apply zF | refine zH ?_ GE631.out | refine zH ?_ GE632.out | refine zH ?_ GE633.out) | exact HB.out)⟩⟩
  ·replace c9 := Bool.eq_false_iff.mpr c9
   subst c9
   have H1 : (impl_DecDiv.j0 k a2 true a0_0 a0_1 a1_0 a1_1) = some (r1, r2, r3) := by rw [if_neg (show ¬ (false = true) by decide)] at H; exact H
   clear H
   have H := H1
   clear H1
   have H' := zA H
   clear H
   have hnb45 := NB631_632.out
   have hnc45 := NB632_631.out
   have hnb46 := NB631_633.out
   have hnc46 := NB633_631.out
   have hcz47_0 : w7.cell? ⟨gb631, 0, none⟩ = some (.int .i64 a0_0) := (zJ BK631.out 0).trans rfl
   have hcz47_1 : w7.cell? ⟨gb631, 1, none⟩ = some (.int .i64 a0_1) := (zJ BK631.out 1).trans rfl
   have hfz47_0 := zK BK631.out 0
   have hfz47_1 := zK BK631.out 1
   go_wp2_with (first | ((with_reducible refine zT (f := 16) rfl ?_); refine goesL_ (some 14) rfl rfl Try.func16 (by kernel_rfl) rfl #[.agg #[.int .i64 a0_0, .int .i64 a0_1]] rfl (by (try simp only [zW, yA, yB]); first | done | rfl | (simp only [zX, zZ]; rfl)) ?_; (with_reducible refine (impl_DecOk.calls a0_0 a0_1 false _ A8.out).mono ?_); rintro e w48 ⟨rfl, hb⟩; refine ⟨_, rfl, ?_⟩; have n0_ := zA (zP (g := gb631) (o := .cells #[.int .i64 a0_0, .int .i64 a0_1] 26 (0, 0)) (by (with_reducible repeat (first | refine zB ?_ _ | refine zD ?_ | refine zC ?_ _)); exact BK631.out) hb); have n1_ := zA (zP (g := gb632) (o := .cells #[.int .i64 a1_0, .int .i64 a1_1] 26 (0, 0)) (by (with_reducible repeat (first | refine zB ?_ _ | refine zD ?_ | refine zC ?_ _)); exact BK632.out) hb); have n2_ := zA (zP (g := gb633) (o := .cells #[.int .i64 0, .int .i64 0] 26 (0, 0)) (by (with_reducible repeat (first | refine zB ?_ _ | refine zD ?_ | refine zC ?_ _)); exact BK633.out) hb); have n3_ := zA (zQ (by repeat (first | (with_reducible first | exact HB.out | apply zG | apply zE | apply zF | refine zH ?_ GE631.out | refine zH ?_ GE632.out | refine zH ?_ GE633.out) | exact HB.out)) hb); clear BK631; clear BK632; clear BK633; clear HB; have BK631 := n0_; have BK632 := n1_; have BK633 := n2_; have HB := n3_; clear n0_ n1_ n2_ n3_; (try clear hb); (try clear hb2); (try clear hk); (try clear hi)))
   go_meet
   case rel => exact ⟨_, (true), (by first | rfl | (simp; done) | (simp [*]; done)), H', ⟨by first | omega | exact Nat.le_refl _⟩, ⟨by (with_reducible repeat (first | refine zB ?_ _ | refine zD ?_ | refine zC ?_ _)); exact BK631.out⟩, ⟨by (with_reducible repeat (first | refine zB ?_ _ | refine zD ?_ | refine zC ?_ _)); exact BK632.out⟩, ⟨by (with_reducible repeat (first | refine zB ?_ _ | refine zD ?_ | refine zC ?_ _)); exact BK633.out⟩, ⟨by repeat (first | (with_reducible first | exact HB.out | apply zG | apply zE | apply zF | refine zH ?_ GE631.out | refine zH ?_ GE632.out | refine zH ?_ GE633.out) | exact HB.out)⟩⟩
 case rest =>
  clear HC4
  try clear c1
  try clear c2
  try clear p2
  try clear c3
  try clear c4
  try clear c9
  try clear c11
  try clear c12
  try clear c12b0
  try clear c12b1
  try clear c13
  try clear c14
  try clear c16
  try clear c17
  try clear c21
  try clear c21b0
  try clear c22
  try clear c23
  try clear c26
  try clear c30
  try clear c31
  try clear c34
  try clear c37
  try clear c38
  try clear c39
  try clear c42
  try clear c45
  try clear c46
  try clear hcz15_0
  try clear hcz15_1
  try clear hcz18_0
  try clear hcz18_1
  try clear hcz20_0
  try clear hcz20_1
  try clear hcz24_0
  try clear hcz24_1
  try clear hcz27_0
  try clear hcz27_1
  try clear hcz29_0
  try clear hcz29_1
  try clear hcz32_0
  try clear hcz32_1
  try clear hcz35_0
  try clear hcz35_1
  try clear hcz37_0
  try clear hcz37_1
  try clear hcz40_0
  try clear hcz40_1
  try clear hcz43_0
  try clear hcz43_1
  try clear hcz47_0
  try clear hcz47_1
  try clear hfz15_0
  try clear hfz15_1
  try clear hfz18_0
  try clear hfz18_1
  try clear hfz20_0
  try clear hfz20_1
  try clear hfz24_0
  try clear hfz24_1
  try clear hfz27_0
  try clear hfz27_1
  try clear hfz29_0
  try clear hfz29_1
  try clear hfz32_0
  try clear hfz32_1
  try clear hfz35_0
  try clear hfz35_1
  try clear hfz37_0
  try clear hfz37_1
  try clear hfz40_0
  try clear hfz40_1
  try clear hfz43_0
  try clear hfz43_1
  try clear hfz47_0
  try clear hfz47_1
  obtain ⟨kq, x33_3, rfl, HA, HJ3, BK631, BK632, BK633, HB⟩ := hcut
  cases kq with
  | zero => exact absurd HA.out (by simp [impl_DecDiv.j0])
  | succ kj3 =>
   have H := HA.out
   clear HA
   simp only [impl_DecDiv.j0] at H
   by_cases c49 : x33_3 = true
   ·subst c49
    have H1 : (some (0, 0, false)) = some (r1, r2, r3) := by rw [if_pos rfl] at H; exact H
    clear H
    have H := H1
    clear H1
    simp only [Option.some.injEq, Prod.mk.injEq] at H
    obtain ⟨rfl, rfl, rfl⟩ := H
    have hnb50 := NB633_631.out
    have hnc50 := NB631_633.out
    have hnb51 := NB633_632.out
    have hnc51 := NB632_633.out
    have hcz52_0 : wc.cell? ⟨gb633, 0, none⟩ = some (.int .i64 0) := (zJ BK633.out 0).trans rfl
    have hcz52_1 : wc.cell? ⟨gb633, 1, none⟩ = some (.int .i64 0) := (zJ BK633.out 1).trans rfl
    have hfz52_0 := zK BK633.out 0
    have hfz52_1 := zK BK633.out 1
    go_wp2
    refine bodyPost_ret (results_ct rfl _ _ gb633 26 #[.int .i64 0, .int .i64 0] (0, 0) _ rfl (by (with_reducible repeat (first | refine zB ?_ _ | refine zD ?_ | refine zC ?_ _)); refine blk_put (cs := #[.int .i64 0, .int .i64 0]) ?_ 1 _ rfl; (with_reducible repeat (first | refine zB ?_ _ | refine zD ?_ | refine zC ?_ _)); refine blk_put (cs := #[.int .i64 0, .int .i64 0]) ?_ 0 _ rfl; (with_reducible repeat (first | refine zB ?_ _ | refine zD ?_ | refine zC ?_ _)); exact BK633.out) Try.underlying26 rfl (by kernel_rfl)) rfl ?_
    exact ⟨by first | rfl | (simp [errW_none, errW_some] <;> rfl) | (simp [*, errW_none, errW_some] <;> rfl), by repeat (first | (with_reducible first | exact HB.out | apply zG | apply zE | apply zF | refine zH ?_ GE631.out | refine zH ?_ GE632.out | refine zH ?_ GE633.out) | exact HB.out)⟩
   ·replace c49 := Bool.eq_false_iff.mpr c49
    subst c49
    have H1 : ((impl_size.f a0_0).bind fun t636 => ((impl_size.f a1_0).bind fun t637 => (impl_DecDiv.l0 kj3 a2 t636 t637 (wrap64 ((wrap64 (a0_1 - a1_1)) + a2)) a0_0 a0_1 a1_0 a1_1))) = some (r1, r2, r3) := by rw [if_neg (show ¬ (false = true) by decide)] at H; exact H
    clear H
    have H := H1
    clear H1
    replace H := Option.bind_eq_some_iff.mp H
    obtain ⟨t636, A530, H⟩ := H
    replace H : ((impl_size.f a1_0).bind fun t637 => (impl_DecDiv.l0 kj3 a2 t636 t637 (wrap64 ((wrap64 (a0_1 - a1_1)) + a2)) a0_0 a0_1 a1_0 a1_1)) = some (r1, r2, r3) := H
    have A53 := zA A530
    clear A530
    replace H := Option.bind_eq_some_iff.mp H
    obtain ⟨t637, A540, H⟩ := H
    replace H : (impl_DecDiv.l0 kj3 a2 t636 t637 (wrap64 ((wrap64 (a0_1 - a1_1)) + a2)) a0_0 a0_1 a1_0 a1_1) = some (r1, r2, r3) := H
    have A54 := zA A540
    clear A540
    have H' := zA H
    clear H
    try go_wp2
    have n0_ := zA (zD BK631.out)
    have n1_ := zA (zD BK632.out)
    have n2_ := zA (zD BK633.out)
    have n3_ := zA (zF HB.out)
    clear BK631
    clear BK632
    clear BK633
    clear HB
    have BK631 := n0_
    have BK632 := n1_
    have BK633 := n2_
    have HB := n3_
    clear n0_ n1_ n2_ n3_
    refine start_ (n := 8) (S := fun w' => w'.cell? ⟨gb631, 0, none⟩ = some (.int .i64 a0_0) ∧ w'.cell? ⟨gb631, 1, none⟩ = some (.int .i64 a0_1) ∧ w'.cell? ⟨gb632, 0, none⟩ = some (.int .i64 a1_0) ∧ w'.cell? ⟨gb632, 1, none⟩ = some (.int .i64 a1_1)) (ds := []) #[false, false, false, false, false, false, false, false] (by kernel_rfl) rfl rfl ⟨(zJ BK631.out 0).trans rfl, (zJ BK631.out 1).trans rfl, (zJ BK632.out 0).trans rfl, (zJ BK632.out 1).trans rfl⟩ (fun hHeld => ?_); refine with_tabW impl_DecDiv.tab3 impl_DecDiv.bits3 (fun HT_ HW_ => ?_)
    generalize wc.drew = w55 at BK631 BK632 BK633 HB hHeld ⊢
    refine pure_ (i := 0) (N := some 35) (v := ?_) (a' := ?_) #[true, false, false, false, false, false, false, false] rfl rfl (any_of HT_.out (by kernel_rfl)) (fun _ _ _ h => h) (Or.inl ⟨by rfl, ?_⟩) ?_ ?_
    rotate_left
    ·intro w'
     go_simp
     with_reducible rfl
    rotate_left
    ·simp only [Act.put, zL, zM, zN, i64_w, i32_w]
     rfl
    refine pure_ (i := 3) (N := some 38) (v := ?_) (a' := ?_) #[true, false, false, true, false, false, false, false] rfl rfl (any_of HT_.out (by kernel_rfl)) (fun _ _ _ h => h) (Or.inl ⟨by rfl, ?_⟩) ?_ ?_
    rotate_left
    ·intro w'
     go_simp
     with_reducible rfl
    rotate_left
    ·simp only [Act.put, zL, zM, zN, i64_w, i32_w]
     rfl
    refine take_ (i := 1) (N := some 36) (v := ?_) (a' := ?_) #[true, true, false, true, false, false, false, false] rfl rfl (take_ofW HT_.out HW_.out (by kernel_rfl)) (fun _ _ _ h => h) (Or.inl ⟨by rfl, ?_⟩) hHeld ?_ ?_
    rotate_left
    ·rintro w' ⟨s0, s1, s2, s3⟩
     go_simp
     with_reducible rfl
    rotate_left
    ·simp only [Act.put, zL, zM, zN, i64_w, i32_w]
     rfl
    refine take_ (i := 4) (N := some 39) (v := ?_) (a' := ?_) #[true, true, false, true, true, false, false, false] rfl rfl (take_ofW HT_.out HW_.out (by kernel_rfl)) (fun _ _ _ h => h) (Or.inl ⟨by rfl, ?_⟩) hHeld ?_ ?_
    rotate_left
    ·rintro w' ⟨s0, s1, s2, s3⟩
     go_simp
     with_reducible rfl
    rotate_left
    ·simp only [Act.put, zL, zM, zN, i64_w, i32_w]
     rfl
    refine one_ (i := 2) (N := some 37) #[true, true, true, true, true, false, false, false] rfl rfl (one_of HT_.out (by kernel_rfl)) (by decide) (fun K hK => ?_)
    refine goes_ Try.func63 (by kernel_rfl) rfl #[.int .i64 a0_0] (by rfl) rfl rfl (by (try simp only [zW, yA, yB]); first | done | rfl | (simp only [zX, zZ]; rfl)) ?_
    with_reducible refine (impl_size.calls a0_0 t636 _ A53.out).mono ?_
    rintro e w56 ⟨rfl, hb⟩
    refine ⟨_, rfl, ?_⟩
    have n0_ := zA (zP (g := gb631) (o := .cells #[.int .i64 a0_0, .int .i64 a0_1] 26 (0, 0)) (by (with_reducible repeat (first | refine zB ?_ _ | refine zD ?_ | refine zC ?_ _)); exact BK631.out) hb)
    have n1_ := zA (zP (g := gb632) (o := .cells #[.int .i64 a1_0, .int .i64 a1_1] 26 (0, 0)) (by (with_reducible repeat (first | refine zB ?_ _ | refine zD ?_ | refine zC ?_ _)); exact BK632.out) hb)
    have n2_ := zA (zP (g := gb633) (o := .cells #[.int .i64 0, .int .i64 0] 26 (0, 0)) (by (with_reducible repeat (first | refine zB ?_ _ | refine zD ?_ | refine zC ?_ _)); exact BK633.out) hb)
    have n3_ := zA (zQ (by repeat (first | (with_reducible first | exact HB.out | apply zG | apply zE | apply zF | refine zH ?_ GE631.out | refine zH ?_ GE632.out | refine zH ?_ GE633.out) | exact HB.out)) hb)
    clear BK631
    clear BK632
    clear BK633
    clear HB
    have BK631 := n0_
    have BK632 := n1_
    have BK633 := n2_
    have HB := n3_
    clear n0_ n1_ n2_ n3_
    (try clear hb)
    (try clear hb2)
    (try clear hk)
    (try clear hi)
    refine hK.out _ _ ⟨(zJ BK631.out 0).trans rfl, (zJ BK631.out 1).trans rfl, (zJ BK632.out 0).trans rfl, (zJ BK632.out 1).trans rfl⟩ (fun hHeld => ?_)
    clear hK K
    refine norm_ (a' := ?_) ?_ ?_
    rotate_left
    ·show Act.put _ (some 37) _ = _
     simp only [Act.put, zL, zM, zN, i64_w, i32_w]
     rfl
    refine one_ (i := 5) (N := some 40) #[true, true, true, true, true, true, false, false] rfl rfl (one_of HT_.out (by kernel_rfl)) (by decide) (fun K hK => ?_)
    refine goes_ Try.func63 (by kernel_rfl) rfl #[.int .i64 a1_0] (by rfl) rfl rfl (by (try simp only [zW, yA, yB]); first | done | rfl | (simp only [zX, zZ]; rfl)) ?_
    with_reducible refine (impl_size.calls a1_0 t637 _ A54.out).mono ?_
    rintro e w57 ⟨rfl, hb⟩
    refine ⟨_, rfl, ?_⟩
    have n0_ := zA (zP (g := gb631) (o := .cells #[.int .i64 a0_0, .int .i64 a0_1] 26 (0, 0)) (by (with_reducible repeat (first | refine zB ?_ _ | refine zD ?_ | refine zC ?_ _)); exact BK631.out) hb)
    have n1_ := zA (zP (g := gb632) (o := .cells #[.int .i64 a1_0, .int .i64 a1_1] 26 (0, 0)) (by (with_reducible repeat (first | refine zB ?_ _ | refine zD ?_ | refine zC ?_ _)); exact BK632.out) hb)
    have n2_ := zA (zP (g := gb633) (o := .cells #[.int .i64 0, .int .i64 0] 26 (0, 0)) (by (with_reducible repeat (first | refine zB ?_ _ | refine zD ?_ | refine zC ?_ _)); exact BK633.out) hb)
    have n3_ := zA (zQ (by repeat (first | (with_reducible first | exact HB.out | apply zG | apply zE | apply zF | refine zH ?_ GE631.out | refine zH ?_ GE632.out | refine zH ?_ GE633.out) | exact HB.out)) hb)
    clear BK631
    clear BK632
    clear BK633
    clear HB
    have BK631 := n0_
    have BK632 := n1_
    have BK633 := n2_
    have HB := n3_
    clear n0_ n1_ n2_ n3_
    (try clear hb)
    (try clear hb2)
    (try clear hk)
    (try clear hi)
    refine hK.out _ _ ⟨(zJ BK631.out 0).trans rfl, (zJ BK631.out 1).trans rfl, (zJ BK632.out 0).trans rfl, (zJ BK632.out 1).trans rfl⟩ (fun hHeld => ?_)
    clear hK K
    refine norm_ (a' := ?_) ?_ ?_
    rotate_left
    ·show Act.put _ (some 40) _ = _
     simp only [Act.put, zL, zM, zN, i64_w, i32_w]
     rfl
    refine pure_ (i := 6) (N := some 8) (v := ?_) (a' := ?_) #[true, true, true, true, true, true, true, false] rfl rfl (any_of HT_.out (by kernel_rfl)) (fun _ _ _ h => h) (Or.inl ⟨by rfl, ?_⟩) ?_ ?_
    rotate_left
    ·intro w'
     go_simp
     with_reducible rfl
    rotate_left
    ·simp only [Act.put, zL, zM, zN, i64_w, i32_w]
     rfl
    refine pure_ (i := 7) (N := some 9) (v := ?_) (a' := ?_) #[true, true, true, true, true, true, true, true] rfl rfl (any_of HT_.out (by kernel_rfl)) (fun _ _ _ h => h) (Or.inl ⟨by rfl, ?_⟩) ?_ ?_
    rotate_left
    ·intro w'
     go_simp
     with_reducible rfl
    rotate_left
    ·simp only [Act.put, zL, zM, zN, i64_w, i32_w]
     rfl
    refine done_ (done_of HT_.out (by kernel_rfl)) ?_
    have hnb58 := NB631_632.out
    have hnc58 := NB632_631.out
    have hnb59 := NB631_633.out
    have hnc59 := NB633_631.out
    have hcz60_0 : w57.cell? ⟨gb631, 0, none⟩ = some (.int .i64 a0_0) := (zJ BK631.out 0).trans rfl
    have hcz60_1 : w57.cell? ⟨gb631, 1, none⟩ = some (.int .i64 a0_1) := (zJ BK631.out 1).trans rfl
    have hfz60_0 := zK BK631.out 0
    have hfz60_1 := zK BK631.out 1
    have hnb61 := NB632_633.out
    have hnc61 := NB633_632.out
    have hcz62_0 : w57.cell? ⟨gb632, 0, none⟩ = some (.int .i64 a1_0) := (zJ BK632.out 0).trans rfl
    have hcz62_1 : w57.cell? ⟨gb632, 1, none⟩ = some (.int .i64 a1_1) := (zJ BK632.out 1).trans rfl
    have hfz62_0 := zK BK632.out 0
    have hfz62_1 := zK BK632.out 1
    try go_wp2
    go_loopg [8, 9, 10] kj3 (fun kq v8 v9 v10 w' => ∃ (x8_2 : Int) (x9_2 : Int) (x10_2 : Int), v8 = .int .i64 x8_2 ∧ v9 = .int .i64 x9_2 ∧ v10 = .int .i64 x10_2 ∧ Aside0 (impl_DecDiv.l0 kq a2 x8_2 x9_2 x10_2 a0_0 a0_1 a1_0 a1_1 = some (r1, r2, r3)) ∧ Aside0 (kq ≤ kj3) ∧ Aside0 (w'.heap[gb631]? = some (.cells #[.int .i64 a0_0, .int .i64 a0_1] 26 (0, 0))) ∧ Aside0 (w'.heap[gb632]? = some (.cells #[.int .i64 a1_0, .int .i64 a1_1] 26 (0, 0))) ∧ Aside0 (w'.heap[gb633]? = some (.cells #[.int .i64 0, .int .i64 0] 26 (0, 0))) ∧ Aside0 (Below w.heap.size w w'))
    case atStart => exact ⟨(t636), (t637), (wrap64 ((wrap64 (a0_1 - a1_1)) + a2)), (by first | rfl | (simp; done) | (simp [*]; done)), (by first | rfl | (simp; done) | (simp [*]; done)), (by first | rfl | (simp; done) | (simp [*]; done)), H', ⟨Nat.le_refl _⟩, ⟨by (with_reducible repeat (first | refine zB ?_ _ | refine zD ?_ | refine zC ?_ _)); exact BK631.out⟩, ⟨by (with_reducible repeat (first | refine zB ?_ _ | refine zD ?_ | refine zC ?_ _)); exact BK632.out⟩, ⟨by (with_reducible repeat (first | refine zB ?_ _ | refine zD ?_ | refine zC ?_ _)); exact BK633.out⟩, ⟨by repeat (first | (with_reducible first | exact HB.out | apply zG | apply zE | apply zF | refine zH ?_ GE631.out | refine zH ?_ GE632.out | refine zH ?_ GE633.out) | exact HB.out)⟩⟩
    case round =>
     clear H'
     try clear c1
     try clear c2
     try clear p2
     try clear c3
     try clear c4
     try clear c5
     try clear c6
     try clear p6
     try clear c9
     try clear c11
     try clear c12
     try clear c12b0
     try clear c12b1
     try clear c13
     try clear c14
     try clear c16
     try clear c17
     try clear c21
     try clear c21b0
     try clear c22
     try clear c23
     try clear c26
     try clear c30
     try clear c31
     try clear c34
     try clear c37
     try clear c38
     try clear c39
     try clear c42
     try clear c45
     try clear c46
     try clear c49
     try clear c50
     try clear c51
     try clear c58
     try clear c59
     try clear c61
     try clear hcz15_0
     try clear hcz15_1
     try clear hcz18_0
     try clear hcz18_1
     try clear hcz20_0
     try clear hcz20_1
     try clear hcz24_0
     try clear hcz24_1
     try clear hcz27_0
     try clear hcz27_1
     try clear hcz29_0
     try clear hcz29_1
     try clear hcz32_0
     try clear hcz32_1
     try clear hcz35_0
     try clear hcz35_1
     try clear hcz37_0
     try clear hcz37_1
     try clear hcz40_0
     try clear hcz40_1
     try clear hcz43_0
     try clear hcz43_1
     try clear hcz47_0
     try clear hcz47_1
     try clear hcz52_0
     try clear hcz52_1
     try clear hcz60_0
     try clear hcz60_1
     try clear hcz62_0
     try clear hcz62_1
     try clear hfz15_0
     try clear hfz15_1
     try clear hfz18_0
     try clear hfz18_1
     try clear hfz20_0
     try clear hfz20_1
     try clear hfz24_0
     try clear hfz24_1
     try clear hfz27_0
     try clear hfz27_1
     try clear hfz29_0
     try clear hfz29_1
     try clear hfz32_0
     try clear hfz32_1
     try clear hfz35_0
     try clear hfz35_1
     try clear hfz37_0
     try clear hfz37_1
     try clear hfz40_0
     try clear hfz40_1
     try clear hfz43_0
     try clear hfz43_1
     try clear hfz47_0
     try clear hfz47_1
     try clear hfz52_0
     try clear hfz52_1
     try clear hfz60_0
     try clear hfz60_1
     try clear hfz62_0
     try clear hfz62_1
     try clear p2
     obtain ⟨x8_2, x9_2, x10_2, rfl, rfl, rfl, HA, HK2, BK631, BK632, BK633, HB⟩ := hrel
     cases gk with
     | zero => exact absurd HA.out (by simp [impl_DecDiv.l0])
     | succ k2 =>
      have H := HA.out
      clear HA
      simp only [impl_DecDiv.l0] at H
      have HC63 := zA H
      clear H
      go_upto_region 5 with (fail)
      go_cut [53] (fun v53 wc => ∃ (kq : Nat) (x53_62 : Bool), v53 = .bool x53_62 ∧ Aside0 (impl_DecDiv.j2 kq a2 x8_2 x9_2 x10_2 x53_62 a0_0 a0_1 a1_0 a1_1 = some (r1, r2, r3)) ∧ Aside0 (kq ≤ k2) ∧ Aside0 (wc.heap[gb631]? = some (.cells #[.int .i64 a0_0, .int .i64 a0_1] 26 (0, 0))) ∧ Aside0 (wc.heap[gb632]? = some (.cells #[.int .i64 a1_0, .int .i64 a1_1] 26 (0, 0))) ∧ Aside0 (wc.heap[gb633]? = some (.cells #[.int .i64 0, .int .i64 0] 26 (0, 0))) ∧ Aside0 (Below w.heap.size w wc))
      case first =>
       have H := HC63.out
       clear HC63
       by_cases c64 : x10_2 < 0
       ·rw [if_pos c64] at H
        have c64b0 : decide (x10_2 < 0) = true := decide_eq_true c64
        clear c64
        (first | rw [c64b0] | (simp only [i64_w, i32_w]; rw [c64b0]) | skip)
        have H' := zA H
        clear H
        go_wp2
        go_meet
        case rel => exact ⟨_, (decide (x8_2 > 0)), (by first | rfl | (simp; done) | (simp [*]; done)), H', ⟨by have := HJ3.out; have := HK2.out; first | omega | exact Nat.le_refl _⟩, ⟨by (with_reducible repeat (first | refine zB ?_ _ | refine zD ?_ | refine zC ?_ _)); exact BK631.out⟩, ⟨by (with_reducible repeat (first | refine zB ?_ _ | refine zD ?_ | refine zC ?_ _)); exact BK632.out⟩, ⟨by (with_reducible repeat (first | refine zB ?_ _ | refine zD ?_ | refine zC ?_ _)); exact BK633.out⟩, ⟨by repeat (first | (with_reducible first | exact HB.out | apply zG | apply zE | apply zF | refine zH ?_ GE631.out | refine zH ?_ GE632.out | refine zH ?_ GE633.out) | exact HB.out)⟩⟩
       ·rw [if_neg c64] at H
        have c64b0 : decide (x10_2 < 0) = false := decide_eq_false c64
        clear c64
        (first | rw [c64b0] | (simp only [i64_w, i32_w]; rw [c64b0]) | skip)
        have H' := zA H
        clear H
        go_wp2
        go_meet
        case rel => exact ⟨_, (false), (by first | rfl | (simp; done) | (simp [*]; done)), H', ⟨by have := HJ3.out; have := HK2.out; first | omega | exact Nat.le_refl _⟩, ⟨by (with_reducible repeat (first | refine zB ?_ _ | refine zD ?_ | refine zC ?_ _)); exact BK631.out⟩, ⟨by (with_reducible repeat (first | refine zB ?_ _ | refine zD ?_ | refine zC ?_ _)); exact BK632.out⟩, ⟨by (with_reducible repeat (first | refine zB ?_ _ | refine zD ?_ | refine zC ?_ _)); exact BK633.out⟩, ⟨by repeat (first | (with_reducible first | exact HB.out | apply zG | apply zE | apply zF | refine zH ?_ GE631.out | refine zH ?_ GE632.out | refine zH ?_ GE633.out) | exact HB.out)⟩⟩
      case rest =>
       clear HC63
       try clear c1
       try clear c2
       try clear p2
       try clear c3
       try clear c4
       try clear c5
       try clear c6
       try clear p6
       try clear c9
       try clear c11
       try clear c12
       try clear c12b0
       try clear c12b1
       try clear c13
       try clear c14
       try clear c16
       try clear c17
       try clear c21
       try clear c21b0
       try clear c22
       try clear c23
       try clear c26
       try clear c30
       try clear c31
       try clear c34
       try clear c37
       try clear c38
       try clear c39
       try clear c42
       try clear c45
       try clear c46
       try clear c49
       try clear c50
       try clear c51
       try clear c58
       try clear c59
       try clear c61
       try clear c63
       try clear c64
       try clear c64b0
       try clear p64
       try clear hcz15_0
       try clear hcz15_1
       try clear hcz18_0
       try clear hcz18_1
       try clear hcz20_0
       try clear hcz20_1
       try clear hcz24_0
       try clear hcz24_1
       try clear hcz27_0
       try clear hcz27_1
       try clear hcz29_0
       try clear hcz29_1
       try clear hcz32_0
       try clear hcz32_1
       try clear hcz35_0
       try clear hcz35_1
       try clear hcz37_0
       try clear hcz37_1
       try clear hcz40_0
       try clear hcz40_1
       try clear hcz43_0
       try clear hcz43_1
       try clear hcz47_0
       try clear hcz47_1
       try clear hcz52_0
       try clear hcz52_1
       try clear hcz60_0
       try clear hcz60_1
       try clear hcz62_0
       try clear hcz62_1
       try clear hfz15_0
       try clear hfz15_1
       try clear hfz18_0
       try clear hfz18_1
       try clear hfz20_0
       try clear hfz20_1
       try clear hfz24_0
       try clear hfz24_1
       try clear hfz27_0
       try clear hfz27_1
       try clear hfz29_0
       try clear hfz29_1
       try clear hfz32_0
       try clear hfz32_1
       try clear hfz35_0
       try clear hfz35_1
       try clear hfz37_0
       try clear hfz37_1
       try clear hfz40_0
       try clear hfz40_1
       try clear hfz43_0
       try clear hfz43_1
       try clear hfz47_0
       try clear hfz47_1
       try clear hfz52_0
       try clear hfz52_1
       try clear hfz60_0
       try clear hfz60_1
       try clear hfz62_0
       try clear hfz62_1
       try clear p2
       try clear p6
       obtain ⟨kq, x53_62, rfl, HA, HJ62, BK631, BK632, BK633, HB⟩ := hcut
       cases kq with
       | zero => exact absurd HA.out (by simp [impl_DecDiv.j2])
       | succ kj62 =>
        have H := HA.out
        clear HA
        simp only [impl_DecDiv.j2] at H
        by_cases c65 : x53_62 = true
        ·subst c65
         have H1 : (if x9_2 > 100000000000000000 then (impl_DecDiv.l0 kj62 a2 0 (wrap64 (x9_2 * 10)) (wrap64 (x10_2 + 1)) a0_0 a0_1 a1_0 a1_1) else (impl_DecDiv.l0 kj62 a2 x8_2 (wrap64 (x9_2 * 10)) (wrap64 (x10_2 + 1)) a0_0 a0_1 a1_0 a1_1)) = some (r1, r2, r3) := by rw [if_pos rfl] at H; exact H
         clear H
         have H := H1
         clear H1
         by_cases c66 : x9_2 > 100000000000000000
         ·rw [if_pos c66] at H
          have c66b0 : decide (100000000000000000 < x9_2) = true := decide_eq_true c66
          clear c66
          have H' := zA H
          clear H
          go_wp2
          go_roundg kj62
          case measure => have := HJ3.out; have := HK2.out; have := HJ62.out; omega
          case rel => exact ⟨(0), (wrap64 (x9_2 * 10)), (wrap64 (x10_2 + 1)), (by first | rfl | (simp; done) | (simp [*]; done)), (by first | rfl | (simp; done) | (simp [*]; done)), (by first | rfl | (simp; done) | (simp [*]; done)), H', ⟨by have := HJ3.out; have := HK2.out; have := HJ62.out; omega⟩, ⟨by (with_reducible repeat (first | refine zB ?_ _ | refine zD ?_ | refine zC ?_ _)); exact BK631.out⟩, ⟨by (with_reducible repeat (first | refine zB ?_ _ | refine zD ?_ | refine zC ?_ _)); exact BK632.out⟩, ⟨by (with_reducible repeat (first | refine zB ?_ _ | refine zD ?_ | refine zC ?_ _)); exact BK633.out⟩, ⟨by repeat (first | (with_reducible first | exact HB.out | apply zG | apply zE | apply zF | refine zH ?_ GE631.out | refine zH ?_ GE632.out | refine zH ?_ GE633.out) | exact HB.out)⟩⟩
         ·rw [if_neg c66] at H
          have c66b0 : decide (100000000000000000 < x9_2) = false := decide_eq_false c66
          clear c66
          have H' := zA H
          clear H
          go_wp2
          go_roundg kj62
          case measure => have := HJ3.out; have := HK2.out; have := HJ62.out; omega
          case rel => exact ⟨(x8_2), (wrap64 (x9_2 * 10)), (wrap64 (x10_2 + 1)), (by first | rfl | (simp; done) | (simp [*]; done)), (by first | rfl | (simp; done) | (simp [*]; done)), (by first | rfl | (simp; done) | (simp [*]; done)), H', ⟨by have := HJ3.out; have := HK2.out; have := HJ62.out; omega⟩, ⟨by (with_reducible repeat (first | refine zB ?_ _ | refine zD ?_ | refine zC ?_ _)); exact BK631.out⟩, ⟨by (with_reducible repeat (first | refine zB ?_ _ | refine zD ?_ | refine zC ?_ _)); exact BK632.out⟩, ⟨by (with_reducible repeat (first | refine zB ?_ _ | refine zD ?_ | refine zC ?_ _)); exact BK633.out⟩, ⟨by repeat (first | (with_reducible first | exact HB.out | apply zG | apply zE | apply zF | refine zH ?_ GE631.out | refine zH ?_ GE632.out | refine zH ?_ GE633.out) | exact HB.out)⟩⟩
        ·replace c65 := Bool.eq_false_iff.mpr c65
         subst c65
         have H1 : (if x9_2 = 0 then (none) else (impl_DecDiv.l1 kj62 a2 x9_2 x10_2 (wrap64 (Int.tdiv x8_2 x9_2)) (Int.tmod x8_2 x9_2) a0_0 a0_1 a1_0 a1_1)) = some (r1, r2, r3) := by rw [if_neg (show ¬ (false = true) by decide)] at H; exact H
         clear H
         have H := H1
         clear H1
         by_cases c67 : x9_2 = 0
         ·rw [if_pos c67] at H
          exact absurd H (by simp)
         ·rw [if_neg c67] at H
          have c67b0 : (x9_2 == 0) = false := beq_eq_false_iff_ne.mpr c67
          have c67b1 : (x9_2 != 0) = true := bne_iff_ne.mpr c67
          have H' := zA H
          clear H
          try go_wp2
          have n0_ := zA (zD BK631.out)
          have n1_ := zA (zD BK632.out)
          have n2_ := zA (zD BK633.out)
          have n3_ := zA (zF HB.out)
          clear BK631
          clear BK632
          clear BK633
          clear HB
          have BK631 := n0_
          have BK632 := n1_
          have BK633 := n2_
          have HB := n3_
          clear n0_ n1_ n2_ n3_
          refine start_ (n := 8) (S := fun w' => True) (ds := []) #[false, false, false, false, false, false, false, false] (by kernel_rfl) rfl rfl trivial (fun hHeld => ?_); refine with_tabW impl_DecDiv.tab10 impl_DecDiv.bits10 (fun HT_ HW_ => ?_)
          generalize wc.drew = w68 at BK631 BK632 BK633 HB hHeld ⊢
          refine pure_ (i := 0) (N := some 60) (v := ?_) (a' := ?_) #[true, false, false, false, false, false, false, false] rfl rfl (any_of HT_.out (by kernel_rfl)) (fun _ _ _ h => h) (Or.inl ⟨by rfl, ?_⟩) ?_ ?_
          rotate_left
          ·intro w'
           go_simp
           with_reducible rfl
          rotate_left
          ·simp only [Act.put, zL, zM, zN, i64_w, i32_w]
           rfl
          refine pure_ (i := 1) (N := some 61) (v := ?_) (a' := ?_) #[true, true, false, false, false, false, false, false] rfl rfl (any_of HT_.out (by kernel_rfl)) (fun _ _ _ h => h) (Or.inl ⟨by rfl, ?_⟩) ?_ ?_
          rotate_left
          ·intro w'
           go_simp
           with_reducible rfl
          rotate_left
          ·simp only [Act.put, zL, zM, zN, i64_w, i32_w]
           rfl
          refine pure_ (i := 2) (N := some 62) (v := ?_) (a' := ?_) #[true, true, true, false, false, false, false, false] rfl rfl (any_of HT_.out (by kernel_rfl)) (fun _ _ _ h => h) (Or.inl ⟨by rfl, ?_⟩) ?_ ?_
          rotate_left
          ·intro w'
           go_simp
           with_reducible rfl
          rotate_left
          ·simp only [Act.put, zL, zM, zN, i64_w, i32_w]
           rfl
          refine pure_ (i := 3) (N := some 63) (v := ?_) (a' := ?_) #[true, true, true, true, false, false, false, false] rfl rfl (any_of HT_.out (by kernel_rfl)) (fun _ _ _ h => h) (Or.inl ⟨by rfl, ?_⟩) ?_ ?_
          rotate_left
          ·intro w'
           go_simp
           with_reducible rfl
          rotate_left
          ·simp only [Act.put, zL, zM, zN, i64_w, i32_w]
           rfl
          refine pure_ (i := 4) (N := some 64) (v := ?_) (a' := ?_) #[true, true, true, true, true, false, false, false] rfl rfl (any_of HT_.out (by kernel_rfl)) (fun _ _ _ h => h) (Or.inl ⟨by rfl, ?_⟩) ?_ ?_
          rotate_left
          ·intro w'
           go_simp
           with_reducible rfl
          rotate_left
          ·simp only [Act.put, zL, zM, zN, i64_w, i32_w]
           rfl
          refine pure_ (i := 5) (N := some 65) (v := ?_) (a' := ?_) #[true, true, true, true, true, true, false, false] rfl rfl (any_of HT_.out (by kernel_rfl)) (fun _ _ _ h => h) (Or.inl ⟨by rfl, ?_⟩) ?_ ?_
          rotate_left
          ·intro w'
           go_simp
           with_reducible rfl
          rotate_left
          ·simp only [Act.put, zL, zM, zN, i64_w, i32_w]
           rfl
          refine pure_ (i := 6) (N := some 11) (v := ?_) (a' := ?_) #[true, true, true, true, true, true, true, false] rfl rfl (any_of HT_.out (by kernel_rfl)) (fun _ _ _ h => h) (Or.inl ⟨by rfl, ?_⟩) ?_ ?_
          rotate_left
          ·intro w'
           go_simp
           with_reducible rfl
          rotate_left
          ·simp only [Act.put, zL, zM, zN, i64_w, i32_w]
           rfl
          refine pure_ (i := 7) (N := some 12) (v := ?_) (a' := ?_) #[true, true, true, true, true, true, true, true] rfl rfl (any_of HT_.out (by kernel_rfl)) (fun _ _ _ h => h) (Or.inl ⟨by rfl, ?_⟩) ?_ ?_
          rotate_left
          ·intro w'
           go_simp
           with_reducible rfl
          rotate_left
          ·simp only [Act.put, zL, zM, zN, i64_w, i32_w]
           rfl
          refine done_ (done_of HT_.out (by kernel_rfl)) ?_
          try go_wp2
          go_loopg [10, 11, 12] kj62 (fun kq v10 v11 v12 w' => ∃ (x10_4 : Int) (x11_4 : Int) (x12_4 : Int) (x634000_4 : Int) (x634001_4 : Int), v10 = .int .i64 x10_4 ∧ v11 = .int .i64 x11_4 ∧ v12 = .int .i64 x12_4 ∧ Aside0 (impl_DecDiv.l1 kq a2 x9_2 x10_4 x11_4 x12_4 a0_0 a0_1 a1_0 a1_1 = some (r1, r2, r3)) ∧ Aside0 (kq ≤ kj62) ∧ Aside0 (w'.heap[gb631]? = some (.cells #[.int .i64 a0_0, .int .i64 a0_1] 26 (0, 0))) ∧ Aside0 (w'.heap[gb632]? = some (.cells #[.int .i64 a1_0, .int .i64 a1_1] 26 (0, 0))) ∧ Aside0 (w'.heap[gb633]? = some (.cells #[.int .i64 x634000_4, .int .i64 x634001_4] 26 (0, 0))) ∧ Aside0 (Below w.heap.size w w'))
          case atStart => exact ⟨(x10_2), (wrap64 (Int.tdiv x8_2 x9_2)), (Int.tmod x8_2 x9_2), (0), (0), (by first | rfl | (simp; done) | (simp [*]; done)), (by first | rfl | (simp; done) | (simp [*]; done)), (by first | rfl | (simp; done) | (simp [*]; done)), H', ⟨Nat.le_refl _⟩, ⟨by (with_reducible repeat (first | refine zB ?_ _ | refine zD ?_ | refine zC ?_ _)); exact BK631.out⟩, ⟨by (with_reducible repeat (first | refine zB ?_ _ | refine zD ?_ | refine zC ?_ _)); exact BK632.out⟩, ⟨by (with_reducible repeat (first | refine zB ?_ _ | refine zD ?_ | refine zC ?_ _)); exact BK633.out⟩, ⟨by repeat (first | (with_reducible first | exact HB.out | apply zG | apply zE | apply zF | refine zH ?_ GE631.out | refine zH ?_ GE632.out | refine zH ?_ GE633.out) | exact HB.out)⟩⟩
          case round =>
           clear H'
           try clear c1
           try clear c2
           try clear p2
           try clear c3
           try clear c4
           try clear c5
           try clear c6
           try clear p6
           try clear c9
           try clear c11
           try clear c12
           try clear c12b0
           try clear c12b1
           try clear c13
           try clear c14
           try clear c16
           try clear c17
           try clear c21
           try clear c21b0
           try clear c22
           try clear c23
           try clear c26
           try clear c30
           try clear c31
           try clear c34
           try clear c37
           try clear c38
           try clear c39
           try clear c42
           try clear c45
           try clear c46
           try clear c49
           try clear c50
           try clear c51
           try clear c58
           try clear c59
           try clear c61
           try clear c63
           try clear c64
           try clear c64b0
           try clear p64
           try clear c65
           try clear c66
           try clear c66b0
           try clear c67
           try clear c67b0
           try clear c67b1
           try clear hcz15_0
           try clear hcz15_1
           try clear hcz18_0
           try clear hcz18_1
           try clear hcz20_0
           try clear hcz20_1
           try clear hcz24_0
           try clear hcz24_1
           try clear hcz27_0
           try clear hcz27_1
           try clear hcz29_0
           try clear hcz29_1
           try clear hcz32_0
           try clear hcz32_1
           try clear hcz35_0
           try clear hcz35_1
           try clear hcz37_0
           try clear hcz37_1
           try clear hcz40_0
           try clear hcz40_1
           try clear hcz43_0
           try clear hcz43_1
           try clear hcz47_0
           try clear hcz47_1
           try clear hcz52_0
           try clear hcz52_1
           try clear hcz60_0
           try clear hcz60_1
           try clear hcz62_0
           try clear hcz62_1
           try clear hfz15_0
           try clear hfz15_1
           try clear hfz18_0
           try clear hfz18_1
           try clear hfz20_0
           try clear hfz20_1
           try clear hfz24_0
           try clear hfz24_1
           try clear hfz27_0
           try clear hfz27_1
           try clear hfz29_0
           try clear hfz29_1
           try clear hfz32_0
           try clear hfz32_1
           try clear hfz35_0
           try clear hfz35_1
           try clear hfz37_0
           try clear hfz37_1
           try clear hfz40_0
           try clear hfz40_1
           try clear hfz43_0
           try clear hfz43_1
           try clear hfz47_0
           try clear hfz47_1
           try clear hfz52_0
           try clear hfz52_1
           try clear hfz60_0
           try clear hfz60_1
           try clear hfz62_0
           try clear hfz62_1
           try clear p2
           try clear p6
           try clear p64
           obtain ⟨x10_4, x11_4, x12_4, x634000_4, x634001_4, rfl, rfl, rfl, HA, HK4, BK631, BK632, BK633, HB⟩ := hrel
           cases gk with
           | zero => exact absurd HA.out (by simp [impl_DecDiv.l1])
           | succ k4 =>
            have H := HA.out
            clear HA
            simp only [impl_DecDiv.l1] at H
            by_cases c69 : x10_4 > 0
            ·rw [if_pos c69] at H
             have c69b0 : decide (0 < x10_4) = true := decide_eq_true c69
             clear c69
             by_cases c70 : x9_2 = 0
             ·rw [if_pos c70] at H
              exact absurd H (by simp)
             ·rw [if_neg c70] at H
              have c70b0 : (x9_2 == 0) = false := beq_eq_false_iff_ne.mpr c70
              have c70b1 : (x9_2 != 0) = true := bne_iff_ne.mpr c70
              by_cases c71 : (wrap64 ((wrap64 (x11_4 * 10)) + (wrap64 (Int.tdiv (wrap64 (x12_4 * 10)) x9_2)))) > 100000000000000000
              ·rw [if_pos c71] at H
               have c71b0 : decide (100000000000000000 < (wrap64 ((wrap64 (x11_4 * 10)) + (wrap64 (Int.tdiv (wrap64 (x12_4 * 10)) x9_2))))) = true := decide_eq_true c71
               clear c71
               simp only [Option.some.injEq, Prod.mk.injEq] at H
               obtain ⟨rfl, rfl, rfl⟩ := H
               have hnb72 := NB633_631.out
               have hnc72 := NB631_633.out
               have hnb73 := NB633_632.out
               have hnc73 := NB632_633.out
               have hcz74_0 : wr.cell? ⟨gb633, 0, none⟩ = some (.int .i64 x634000_4) := (zJ BK633.out 0).trans rfl
               have hcz74_1 : wr.cell? ⟨gb633, 1, none⟩ = some (.int .i64 x634001_4) := (zJ BK633.out 1).trans rfl
               have hfz74_0 := zK BK633.out 0
               have hfz74_1 := zK BK633.out 1
               go_wp2
               refine bodyPost_ret (results_ct rfl _ _ gb633 26 #[.int .i64 0, .int .i64 0] (0, 0) _ rfl (by (with_reducible repeat (first | refine zB ?_ _ | refine zD ?_ | refine zC ?_ _)); refine blk_put (cs := #[.int .i64 0, .int .i64 x634001_4]) ?_ 1 _ rfl; (with_reducible repeat (first | refine zB ?_ _ | refine zD ?_ | refine zC ?_ _)); refine blk_put (cs := #[.int .i64 x634000_4, .int .i64 x634001_4]) ?_ 0 _ rfl; (with_reducible repeat (first | refine zB ?_ _ | refine zD ?_ | refine zC ?_ _)); exact BK633.out) Try.underlying26 rfl (by kernel_rfl)) rfl ?_
               exact ⟨by first | rfl | (simp [errW_none, errW_some] <;> rfl) | (simp [*, errW_none, errW_some] <;> rfl), by repeat (first | (with_reducible first | exact HB.out | apply zG | apply zE | apply zF | refine zH ?_ GE631.out | refine zH ?_ GE632.out | refine zH ?_ GE633.out) | exact HB.out)⟩
              ·rw [if_neg c71] at H
               have c71b0 : decide (100000000000000000 < (wrap64 ((wrap64 (x11_4 * 10)) + (wrap64 (Int.tdiv (wrap64 (x12_4 * 10)) x9_2))))) = false := decide_eq_false c71
               clear c71
               have H' := zA H
               clear H
               go_wp2
               go_roundg k4
               case measure => have := HJ3.out; have := HK2.out; have := HJ62.out; have := HK4.out; omega
               case rel => exact ⟨(wrap64 (x10_4 - 1)), (wrap64 ((wrap64 (x11_4 * 10)) + (wrap64 (Int.tdiv (wrap64 (x12_4 * 10)) x9_2)))), (Int.tmod (wrap64 (x12_4 * 10)) x9_2), (x634000_4), (x634001_4), (by first | rfl | (simp; done) | (simp [*]; done)), (by first | rfl | (simp; done) | (simp [*]; done)), (by first | rfl | (simp; done) | (simp [*]; done)), H', ⟨by have := HJ3.out; have := HK2.out; have := HJ62.out; have := HK4.out; omega⟩, ⟨by (with_reducible repeat (first | refine zB ?_ _ | refine zD ?_ | refine zC ?_ _)); exact BK631.out⟩, ⟨by (with_reducible repeat (first | refine zB ?_ _ | refine zD ?_ | refine zC ?_ _)); exact BK632.out⟩, ⟨by (with_reducible repeat (first | refine zB ?_ _ | refine zD ?_ | refine zC ?_ _)); exact BK633.out⟩, ⟨by repeat (first | (with_reducible first | exact HB.out | apply zG | apply zE | apply zF | refine zH ?_ GE631.out | refine zH ?_ GE632.out | refine zH ?_ GE633.out) | exact HB.out)⟩⟩
            ·rw [if_neg c69] at H
             have c69b0 : decide (0 < x10_4) = false := decide_eq_false c69
             clear c69
             by_cases c75 : ((decide (a0_0 < 0)) != (decide (a1_0 < 0))) = true
             ·rw [if_pos c75] at H
              have c75b0 : ((decide (a0_0 < 0)) != (decide (a1_0 < 0))) = true := c75
              (try (have c75b1 : decide ((decide (a0_0 < 0)) = (decide (a1_0 < 0))) = false := by simpa using c75))
              (try (have c75b2 : ((decide (a0_0 < 0)) == (decide (a1_0 < 0))) = false := by simpa using c75))
              (try (have c75b3 : ¬ ((decide (a0_0 < 0)) = (decide (a1_0 < 0))) := by simpa using c75))
              clear c75
              replace H := Option.bind_eq_some_iff.mp H
              obtain ⟨⟨t638, t639, t640⟩, A760, H⟩ := H
              replace H : (some (t638, t639, t640)) = some (r1, r2, r3) := H
              have A76 := zA A760
              clear A760
              simp only [Option.some.injEq, Prod.mk.injEq] at H
              obtain ⟨rfl, rfl, rfl⟩ := H
              have hnb77 := NB631_632.out
              have hnc77 := NB632_631.out
              have hnb78 := NB631_633.out
              have hnc78 := NB633_631.out
              have hcz79_0 : wr.cell? ⟨gb631, 0, none⟩ = some (.int .i64 a0_0) := (zJ BK631.out 0).trans rfl
              have hcz79_1 : wr.cell? ⟨gb631, 1, none⟩ = some (.int .i64 a0_1) := (zJ BK631.out 1).trans rfl
              have hfz79_0 := zK BK631.out 0
              have hfz79_1 := zK BK631.out 1
              have hnb80 := NB632_633.out
              have hnc80 := NB633_632.out
              have hcz81_0 : wr.cell? ⟨gb632, 0, none⟩ = some (.int .i64 a1_0) := (zJ BK632.out 0).trans rfl
              have hcz81_1 : wr.cell? ⟨gb632, 1, none⟩ = some (.int .i64 a1_1) := (zJ BK632.out 1).trans rfl
              have hfz81_0 := zK BK632.out 0
              have hfz81_1 := zK BK632.out 1
              go_wp2_with (first | ((with_reducible refine zT (f := 46) rfl ?_); refine goesL_ (some 96) rfl rfl Try.func46 (by kernel_rfl) rfl #[.int .i64 (wrap64 (-x11_4)), .int .i64 (wrap64 (-a2))] rfl (by (try simp only [zW, yA, yB]); first | done | rfl | (simp only [zX, zZ]; rfl)) ?_; (with_reducible refine (impl_form.calls k4 (wrap64 (-x11_4)) (wrap64 (-a2)) t638 t639 t640 _ A76.out).mono ?_); rintro e w82 ⟨rfl, hb⟩; refine ⟨_, rfl, ?_⟩; have n0_ := zA (zP (g := gb631) (o := .cells #[.int .i64 a0_0, .int .i64 a0_1] 26 (0, 0)) (by (with_reducible repeat (first | refine zB ?_ _ | refine zD ?_ | refine zC ?_ _)); exact BK631.out) hb); have n1_ := zA (zP (g := gb632) (o := .cells #[.int .i64 a1_0, .int .i64 a1_1] 26 (0, 0)) (by (with_reducible repeat (first | refine zB ?_ _ | refine zD ?_ | refine zC ?_ _)); exact BK632.out) hb); have n2_ := zA (zP (g := gb633) (o := .cells #[.int .i64 x634000_4, .int .i64 x634001_4] 26 (0, 0)) (by (with_reducible repeat (first | refine zB ?_ _ | refine zD ?_ | refine zC ?_ _)); exact BK633.out) hb); have n3_ := zA (zQ (by repeat (first | (with_reducible first | exact HB.out | apply zG | apply zE | apply zF | refine zH ?_ GE631.out | refine zH ?_ GE632.out | refine zH ?_ GE633.out) | exact HB.out)) hb); clear BK631; clear BK632; clear BK633; clear HB; have BK631 := n0_; have BK632 := n1_; have BK633 := n2_; have HB := n3_; clear n0_ n1_ n2_ n3_; (try clear hb); (try clear hb2); (try clear hk); (try clear hi); have hcz83_0 : w82.cell? ⟨gb633, 0, none⟩ = some (.int .i64 x634000_4) := (zJ BK633.out 0).trans rfl; have hcz83_1 : w82.cell? ⟨gb633, 1, none⟩ = some (.int .i64 x634001_4) := (zJ BK633.out 1).trans rfl; have hfz83_0 := zK BK633.out 0; have hfz83_1 := zK BK633.out 1))
              refine bodyPost_ret (results_ct rfl _ _ gb633 26 #[.int .i64 t638, .int .i64 t639] (0, 0) _ rfl (by (with_reducible repeat (first | refine zB ?_ _ | refine zD ?_ | refine zC ?_ _)); refine blk_put (cs := #[.int .i64 t638, .int .i64 x634001_4]) ?_ 1 _ rfl; (with_reducible repeat (first | refine zB ?_ _ | refine zD ?_ | refine zC ?_ _)); refine blk_put (cs := #[.int .i64 x634000_4, .int .i64 x634001_4]) ?_ 0 _ rfl; (with_reducible repeat (first | refine zB ?_ _ | refine zD ?_ | refine zC ?_ _)); exact BK633.out) Try.underlying26 rfl (by kernel_rfl)) rfl ?_
              exact ⟨by first | rfl | (simp [errW_none, errW_some] <;> rfl) | (simp [*, errW_none, errW_some] <;> rfl), by repeat (first | (with_reducible first | exact HB.out | apply zG | apply zE | apply zF | refine zH ?_ GE631.out | refine zH ?_ GE632.out | refine zH ?_ GE633.out) | exact HB.out)⟩
             ·rw [if_neg c75] at H
              have c75b0 : ((decide (a0_0 < 0)) != (decide (a1_0 < 0))) = false := by simpa using c75
              (try (have c75b1 : decide ((decide (a0_0 < 0)) = (decide (a1_0 < 0))) = true := by simpa using c75))
              (try (have c75b2 : ((decide (a0_0 < 0)) == (decide (a1_0 < 0))) = true := by simpa using c75))
              clear c75
              replace H := Option.bind_eq_some_iff.mp H
              obtain ⟨⟨t641, t642, t643⟩, A840, H⟩ := H
              replace H : (some (t641, t642, t643)) = some (r1, r2, r3) := H
              have A84 := zA A840
              clear A840
              simp only [Option.some.injEq, Prod.mk.injEq] at H
              obtain ⟨rfl, rfl, rfl⟩ := H
              have hnb85 := NB631_632.out
              have hnc85 := NB632_631.out
              have hnb86 := NB631_633.out
              have hnc86 := NB633_631.out
              have hcz87_0 : wr.cell? ⟨gb631, 0, none⟩ = some (.int .i64 a0_0) := (zJ BK631.out 0).trans rfl
              have hcz87_1 : wr.cell? ⟨gb631, 1, none⟩ = some (.int .i64 a0_1) := (zJ BK631.out 1).trans rfl
              have hfz87_0 := zK BK631.out 0
              have hfz87_1 := zK BK631.out 1
              have hnb88 := NB632_633.out
              have hnc88 := NB633_632.out
              have hcz89_0 : wr.cell? ⟨gb632, 0, none⟩ = some (.int .i64 a1_0) := (zJ BK632.out 0).trans rfl
              have hcz89_1 : wr.cell? ⟨gb632, 1, none⟩ = some (.int .i64 a1_1) := (zJ BK632.out 1).trans rfl
              have hfz89_0 := zK BK632.out 0
              have hfz89_1 := zK BK632.out 1
              go_wp2_with (first | ((with_reducible refine zT (f := 46) rfl ?_); refine goesL_ (some 96) rfl rfl Try.func46 (by kernel_rfl) rfl #[.int .i64 x11_4, .int .i64 (wrap64 (-a2))] rfl (by (try simp only [zW, yA, yB]); first | done | rfl | (simp only [zX, zZ]; rfl)) ?_; (with_reducible refine (impl_form.calls k4 x11_4 (wrap64 (-a2)) t641 t642 t643 _ A84.out).mono ?_); rintro e w90 ⟨rfl, hb⟩; refine ⟨_, rfl, ?_⟩; have n0_ := zA (zP (g := gb631) (o := .cells #[.int .i64 a0_0, .int .i64 a0_1] 26 (0, 0)) (by (with_reducible repeat (first | refine zB ?_ _ | refine zD ?_ | refine zC ?_ _)); exact BK631.out) hb); have n1_ := zA (zP (g := gb632) (o := .cells #[.int .i64 a1_0, .int .i64 a1_1] 26 (0, 0)) (by (with_reducible repeat (first | refine zB ?_ _ | refine zD ?_ | refine zC ?_ _)); exact BK632.out) hb); have n2_ := zA (zP (g := gb633) (o := .cells #[.int .i64 x634000_4, .int .i64 x634001_4] 26 (0, 0)) (by (with_reducible repeat (first | refine zB ?_ _ | refine zD ?_ | refine zC ?_ _)); exact BK633.out) hb); have n3_ := zA (zQ (by repeat (first | (with_reducible first | exact HB.out | apply zG | apply zE | apply zF | refine zH ?_ GE631.out | refine zH ?_ GE632.out | refine zH ?_ GE633.out) | exact HB.out)) hb); clear BK631; clear BK632; clear BK633; clear HB; have BK631 := n0_; have BK632 := n1_; have BK633 := n2_; have HB := n3_; clear n0_ n1_ n2_ n3_; (try clear hb); (try clear hb2); (try clear hk); (try clear hi); have hcz91_0 : w90.cell? ⟨gb633, 0, none⟩ = some (.int .i64 x634000_4) := (zJ BK633.out 0).trans rfl; have hcz91_1 : w90.cell? ⟨gb633, 1, none⟩ = some (.int .i64 x634001_4) := (zJ BK633.out 1).trans rfl; have hfz91_0 := zK BK633.out 0; have hfz91_1 := zK BK633.out 1))
              refine bodyPost_ret (results_ct rfl _ _ gb633 26 #[.int .i64 t641, .int .i64 t642] (0, 0) _ rfl (by (with_reducible repeat (first | refine zB ?_ _ | refine zD ?_ | refine zC ?_ _)); refine blk_put (cs := #[.int .i64 t641, .int .i64 x634001_4]) ?_ 1 _ rfl; (with_reducible repeat (first | refine zB ?_ _ | refine zD ?_ | refine zC ?_ _)); refine blk_put (cs := #[.int .i64 x634000_4, .int .i64 x634001_4]) ?_ 0 _ rfl; (with_reducible repeat (first | refine zB ?_ _ | refine zD ?_ | refine zC ?_ _)); exact BK633.out) Try.underlying26 rfl (by kernel_rfl)) rfl ?_
              exact ⟨by first | rfl | (simp [errW_none, errW_some] <;> rfl) | (simp [*, errW_none, errW_some] <;> rfl), by repeat (first | (with_reducible first | exact HB.out | apply zG | apply zE | apply zF | refine zH ?_ GE631.out | refine zH ?_ GE632.out | refine zH ?_ GE633.out) | exact HB.out)⟩

end Go.Proofs.Ytmoaolcioihjnaa.Q

namespace Go.Proofs.Ytmoaolcioihjnaa.Q
open Go.RowKit Go.Proofs.YtmoaolcioihjnaaW.PrintWords Go.Proofs.YtmoaolcioihjnaaW.PrintLast Go.Proofs.YtmoaolcioihjnaaW.PrintMore Go.Proofs.YtmoaolcioihjnaaX
attribute [local go_sem] max2_int min2_int max_two min_two max_three min_three max_four min_four   -- for this text's walks alone
set_option linter.unusedVariables false
set_option linter.unusedSimpArgs false

def impl_DecMod.f (k : Nat) (a0_0 : Int) (a0_1 : Int) (a1_0 : Int) (a1_1 : Int) : Option (Int × Int × Bool) := (impl_DecDiv.f k a0_0 a0_1 a1_0 a1_1 0).bind fun bt715 => (if bt715.2.2 = true then ((impl_DecMul.f k a1_0 a1_1 bt715.1 bt715.2.1).bind fun bt719 => (if bt719.2.2 = true then ((impl_DecSub.f k a0_0 a0_1 bt719.1 bt719.2.1).bind fun bt723 => (some (bt723.1, bt723.2.1, bt723.2.2))) else (some (0, 0, false)))) else (some (0, 0, false)))
theorem impl_DecMod.mono : ∀ a0 a1 a2 a3 k, LeO (impl_DecMod.f k a0 a1 a2 a3) (impl_DecMod.f (k + 1) a0 a1 a2 a3) := by
 intro a0 a1 a2 a3 k
 unfold impl_DecMod.f
 repeat' first
   | (with_reducible exact impl_DecDiv.mono _ _ _ _ _ _)
   | (with_reducible exact impl_DecMul.mono _ _ _ _ _)
   | (with_reducible exact impl_DecSub.mono _ _ _ _ _)
   | (with_reducible exact LeO.refl _)
   | (with_reducible exact LeO.none _)
   | (with_reducible refine LeO.ite ?_ ?_)
   | (with_reducible refine LeO.bind ?_ (fun _ => ?_))
   | exact impl_DecDiv.mono _ _ _ _ _ _
   | exact impl_DecMul.mono _ _ _ _ _
   | exact impl_DecSub.mono _ _ _ _ _
   | exact LeO.none _
   | refine LeO.ite ?_ ?_
   | refine LeO.bind ?_ (fun _ => ?_)
set_option maxHeartbeats 8000000 in
set_option maxRecDepth 100000 in
theorem impl_DecMod.calls (k : Nat) (a0_0 : Int) (a0_1 : Int) (a1_0 : Int) (a1_1 : Int) (r1 : Int) (r2 : Int) (r3 : Bool) (w : World) (h : impl_DecMod.f k a0_0 a0_1 a1_0 a1_1 = some (r1, r2, r3)) :
  Calls Try.prog 41 #[.agg #[.int .i64 a0_0, .int .i64 a0_1], .agg #[.int .i64 a1_0, .int .i64 a1_1]] w fun e w' => e = .returned (.tuple #[.agg #[.int .i64 r1, .int .i64 r2], .bool r3]) ∧ Below w.heap.size w w' := by
 have hu26 := Try.underlying26
 have HB := zA (Below.refl w.heap.size w)
 have H : ((impl_DecDiv.f k a0_0 a0_1 a1_0 a1_1 0).bind fun bt715 => (if bt715.2.2 = true then ((impl_DecMul.f k a1_0 a1_1 bt715.1 bt715.2.1).bind fun bt719 => (if bt719.2.2 = true then ((impl_DecSub.f k a0_0 a0_1 bt719.1 bt719.2.1).bind fun bt723 => (some (bt723.1, bt723.2.1, bt723.2.2))) else (some (0, 0, false)))) else (some (0, 0, false)))) = some (r1, r2, r3) := h
 clear h
 replace H := Option.bind_eq_some_iff.mp H
 obtain ⟨⟨t715, t716, t717⟩, A30, H⟩ := H
 replace H : (if t717 = true then ((impl_DecMul.f k a1_0 a1_1 t715 t716).bind fun bt719 => (if bt719.2.2 = true then ((impl_DecSub.f k a0_0 a0_1 bt719.1 bt719.2.1).bind fun bt723 => (some (bt723.1, bt723.2.1, bt723.2.2))) else (some (0, 0, false)))) else (some (0, 0, false))) = some (r1, r2, r3) := H
 have A3 := zA A30
 clear A30
 by_cases c4 : t717 = true
 ·subst c4
  have H1 : ((impl_DecMul.f k a1_0 a1_1 t715 t716).bind fun bt719 => (if bt719.2.2 = true then ((impl_DecSub.f k a0_0 a0_1 bt719.1 bt719.2.1).bind fun bt723 => (some (bt723.1, bt723.2.1, bt723.2.2))) else (some (0, 0, false)))) = some (r1, r2, r3) := by rw [if_pos rfl] at H; exact H
  clear H
  have H := H1
  clear H1
  replace H := Option.bind_eq_some_iff.mp H
  obtain ⟨⟨t719, t720, t721⟩, A50, H⟩ := H
  replace H : (if t721 = true then ((impl_DecSub.f k a0_0 a0_1 t719 t720).bind fun bt723 => (some (bt723.1, bt723.2.1, bt723.2.2))) else (some (0, 0, false))) = some (r1, r2, r3) := H
  have A5 := zA A50
  clear A50
  by_cases c6 : t721 = true
  ·subst c6
   have H1 : ((impl_DecSub.f k a0_0 a0_1 t719 t720).bind fun bt723 => (some (bt723.1, bt723.2.1, bt723.2.2))) = some (r1, r2, r3) := by rw [if_pos rfl] at H; exact H
   clear H
   have H := H1
   clear H1
   replace H := Option.bind_eq_some_iff.mp H
   obtain ⟨⟨t723, t724, t725⟩, A70, H⟩ := H
   replace H : (some (t723, t724, t725)) = some (r1, r2, r3) := H
   have A7 := zA A70
   clear A70
   simp only [Option.some.injEq, Prod.mk.injEq] at H
   obtain ⟨rfl, rfl, rfl⟩ := H
   go_enter Try.func41, Try.ntmps41
   go_wp2_with (first | ((with_reducible refine zS (N := 2) rfl ?_); refine zV ?hg (N := 2) ?hd (cs := #[.int .i64 a0_0, .int .i64 a0_1]) (t := 26) ?hr ?_; (case hd => rfl); (case hg => rfl); (case hr => first | (go_simp; done) | (go_simp; rfl)); intro gb712 hg w8 hbox hb; have n0_ := zA (zQ (by repeat (first | (with_reducible first | exact HB.out | apply zG | apply zE | apply zF) | exact HB.out)) hb); have n1_ := zA (hbox); have n2_ := zA ((by rw [hg]; exact (zR (by repeat (first | (with_reducible first | exact HB.out | apply zG | apply zE | apply zF) | exact HB.out))) : w.heap.size ≤ gb712)); have n3_ := zA ((by rw [hg]; exact (zR (by repeat (first | (with_reducible first | exact HB.out | apply zG | apply zE | apply zF) | exact HB.out))) : w.heap.size ≤ gb712)); clear HB; have HB := n0_; have BK712 := n1_; have GW712 := n2_; have GE712 := n3_; clear n0_ n1_ n2_ n3_; clear hb hbox hg) | ((with_reducible refine zS (N := 3) rfl ?_); refine zV ?hg (N := 3) ?hd (cs := #[.int .i64 a1_0, .int .i64 a1_1]) (t := 26) ?hr ?_; (case hd => rfl); (case hg => rfl); (case hr => first | (go_simp; done) | (go_simp; rfl)); intro gb713 hg w9 hbox hb; have n0_ := zA (zP (g := gb712) (o := .cells #[.int .i64 a0_0, .int .i64 a0_1] 26 (0, 0)) (by (with_reducible repeat (first | refine zB ?_ _ | refine zD ?_ | refine zC ?_ _)); exact BK712.out) hb); have n1_ := zA (zQ (by repeat (first | (with_reducible first | exact HB.out | apply zG | apply zE | apply zF | refine zH ?_ GE712.out) | exact HB.out)) hb); have n2_ := zA (hbox); have n3_ := zA ((by rw [hg]; exact (zR (by repeat (first | (with_reducible first | exact HB.out | apply zG | apply zE | apply zF | refine zH ?_ GE712.out) | exact HB.out))) : w.heap.size ≤ gb713)); have n4_ := zA ((by rw [hg]; exact (zR (by repeat (first | (with_reducible first | exact HB.out | apply zG | apply zE | apply zF | refine zH ?_ GE712.out) | exact HB.out))) : w.heap.size ≤ gb713)); have n5_ := zA ((by rw [hg]; exact Nat.ne_of_lt (blk_lt (g := gb712) (o := .cells #[.int .i64 a0_0, .int .i64 a0_1] 26 (0, 0)) (by (with_reducible repeat (first | refine zB ?_ _ | refine zD ?_ | refine zC ?_ _)); exact BK712.out)) : gb712 ≠ gb713)); have n6_ := zA ((by rw [hg]; exact Nat.ne_of_gt (blk_lt (g := gb712) (o := .cells #[.int .i64 a0_0, .int .i64 a0_1] 26 (0, 0)) (by (with_reducible repeat (first | refine zB ?_ _ | refine zD ?_ | refine zC ?_ _)); exact BK712.out)) : gb713 ≠ gb712)); clear BK712; clear HB; have BK712 := n0_; have HB := n1_; have BK713 := n2_; have GW713 := n3_; have GE713 := n4_; have NB712_713 := n5_; have NB713_712 := n6_; clear n0_ n1_ n2_ n3_ n4_ n5_ n6_; clear hb hbox hg) | ((with_reducible refine zS (N := 4) rfl ?_); refine zV ?hg (N := 4) ?hd (cs := #[.int .i64 0, .int .i64 0]) (t := 26) ?hr ?_; (case hd => rfl); (case hg => rfl); (case hr => first | (go_simp; done) | (go_simp; rfl)); intro gb714 hg w10 hbox hb; have n0_ := zA (zP (g := gb712) (o := .cells #[.int .i64 a0_0, .int .i64 a0_1] 26 (0, 0)) (by (with_reducible repeat (first | refine zB ?_ _ | refine zD ?_ | refine zC ?_ _)); exact BK712.out) hb); have n1_ := zA (zP (g := gb713) (o := .cells #[.int .i64 a1_0, .int .i64 a1_1] 26 (0, 0)) (by (with_reducible repeat (first | refine zB ?_ _ | refine zD ?_ | refine zC ?_ _)); exact BK713.out) hb); have n2_ := zA (zQ (by repeat (first | (with_reducible first | exact HB.out | apply zG | apply zE | apply zF | refine zH ?_ GE712.out | refine zH ?_ GE713.out) | exact HB.out)) hb); have n3_ := zA (hbox); have n4_ := zA ((by rw [hg]; exact (zR (by repeat (first | (with_reducible first | exact HB.out | apply zG | apply zE | apply zF | refine zH ?_ GE712.out | refine zH ?_ GE713.out) | exact HB.out))) : w.heap.size ≤ gb714)); have n5_ := zA ((by rw [hg]; exact (zR (by repeat (first | (with_reducible first | exact HB.out | apply zG | apply zE | apply zF | refine zH ?_ GE712.out | refine zH ?_ GE713.out) | exact HB.out))) : w.heap.size ≤ gb714)); have n6_ := zA ((by rw [hg]; exact Nat.ne_of_lt (blk_lt (g := gb712) (o := .cells #[.int .i64 a0_0, .int .i64 a0_1] 26 (0, 0)) (by (with_reducible repeat (first | refine zB ?_ _ | refine zD ?_ | refine zC ?_ _)); exact BK712.out)) : gb712 ≠ gb714)); have n7_ := zA ((by rw [hg]; exact Nat.ne_of_gt (blk_lt (g := gb712) (o := .cells #[.int .i64 a0_0, .int .i64 a0_1] 26 (0, 0)) (by (with_reducible repeat (first | refine zB ?_ _ | refine zD ?_ | refine zC ?_ _)); exact BK712.out)) : gb714 ≠ gb712)); have n8_ := zA ((by rw [hg]; exact Nat.ne_of_lt (blk_lt (g := gb713) (o := .cells #[.int .i64 a1_0, .int .i64 a1_1] 26 (0, 0)) (by (with_reducible repeat (first | refine zB ?_ _ | refine zD ?_ | refine zC ?_ _)); exact BK713.out)) : gb713 ≠ gb714)); have n9_ := zA ((by rw [hg]; exact Nat.ne_of_gt (blk_lt (g := gb713) (o := .cells #[.int .i64 a1_0, .int .i64 a1_1] 26 (0, 0)) (by (with_reducible repeat (first | refine zB ?_ _ | refine zD ?_ | refine zC ?_ _)); exact BK713.out)) : gb714 ≠ gb713)); clear BK712; clear BK713; clear HB; have BK712 := n0_; have BK713 := n1_; have HB := n2_; have BK714 := n3_; have GW714 := n4_; have GE714 := n5_; have NB712_714 := n6_; have NB714_712 := n7_; have NB713_714 := n8_; have NB714_713 := n9_; clear n0_ n1_ n2_ n3_ n4_ n5_ n6_ n7_ n8_ n9_; clear hb hbox hg; have hnb11 := NB712_713.out; have hnc11 := NB713_712.out; have hnb12 := NB712_714.out; have hnc12 := NB714_712.out; have hcz13_0 : w10.cell? ⟨gb712, 0, none⟩ = some (.int .i64 a0_0) := (zJ BK712.out 0).trans rfl; have hcz13_1 : w10.cell? ⟨gb712, 1, none⟩ = some (.int .i64 a0_1) := (zJ BK712.out 1).trans rfl; have hfz13_0 := zK BK712.out 0; have hfz13_1 := zK BK712.out 1; have hnb14 := NB713_714.out; have hnc14 := NB714_713.out; have hcz15_0 : w10.cell? ⟨gb713, 0, none⟩ = some (.int .i64 a1_0) := (zJ BK713.out 0).trans rfl; have hcz15_1 : w10.cell? ⟨gb713, 1, none⟩ = some (.int .i64 a1_1) := (zJ BK713.out 1).trans rfl; have hfz15_0 := zK BK713.out 0; have hfz15_1 := zK BK713.out 1) | ((with_reducible refine zT (f := 37) rfl ?_); refine goesL_ (some 12) rfl rfl Try.func37 (by kernel_rfl) rfl #[.agg #[.int .i64 a0_0, .int .i64 a0_1], .agg #[.int .i64 a1_0, .int .i64 a1_1], .int .i64 0] rfl (by (try simp only [zW, yA, yB]); first | done | rfl | (simp only [zX, zZ]; rfl)) ?_; (with_reducible refine (impl_DecDiv.calls k a0_0 a0_1 a1_0 a1_1 0 t715 t716 true _ A3.out).mono ?_); rintro e w16 ⟨rfl, hb⟩; refine ⟨_, rfl, ?_⟩; have n0_ := zA (zP (g := gb712) (o := .cells #[.int .i64 a0_0, .int .i64 a0_1] 26 (0, 0)) (by (with_reducible repeat (first | refine zB ?_ _ | refine zD ?_ | refine zC ?_ _)); exact BK712.out) hb); have n1_ := zA (zP (g := gb713) (o := .cells #[.int .i64 a1_0, .int .i64 a1_1] 26 (0, 0)) (by (with_reducible repeat (first | refine zB ?_ _ | refine zD ?_ | refine zC ?_ _)); exact BK713.out) hb); have n2_ := zA (zP (g := gb714) (o := .cells #[.int .i64 0, .int .i64 0] 26 (0, 0)) (by (with_reducible repeat (first | refine zB ?_ _ | refine zD ?_ | refine zC ?_ _)); exact BK714.out) hb); have n3_ := zA (zQ (by repeat (first | (with_reducible first | exact HB.out | apply zG | apply zE | apply zF | refine zH ?_ GE712.out | refine zH ?_ GE713.out | refine zH ?_ GE714.out) | exact HB.out)) hb); clear BK712; clear BK713; clear BK714; clear HB; have BK712 := n0_; have BK713 := n1_; have BK714 := n2_; have HB := n3_; clear n0_ n1_ n2_ n3_; (try clear hb); (try clear hb2); (try clear hk); (try clear hi)) | ((with_reducible refine zS (N := 6) rfl ?_); refine zV ?hg (N := 6) ?hd (cs := #[.int .i64 0, .int .i64 0]) (t := 26) ?hr ?_; (case hd => rfl); (case hg => rfl); (case hr => first | (go_simp; done) | (go_simp; rfl)); intro gb718 hg w17 hbox hb; have n0_ := zA (zP (g := gb712) (o := .cells #[.int .i64 a0_0, .int .i64 a0_1] 26 (0, 0)) (by (with_reducible repeat (first | refine zB ?_ _ | refine zD ?_ | refine zC ?_ _)); exact BK712.out) hb); have n1_ := zA (zP (g := gb713) (o := .cells #[.int .i64 a1_0, .int .i64 a1_1] 26 (0, 0)) (by (with_reducible repeat (first | refine zB ?_ _ | refine zD ?_ | refine zC ?_ _)); exact BK713.out) hb); have n2_ := zA (zP (g := gb714) (o := .cells #[.int .i64 0, .int .i64 0] 26 (0, 0)) (by (with_reducible repeat (first | refine zB ?_ _ | refine zD ?_ | refine zC ?_ _)); exact BK714.out) hb); have n3_ := zA (zQ (by repeat (first | (with_reducible first | exact HB.out | apply zG | apply zE | apply zF | refine zH ?_ GE712.out | refine zH ?_ GE713.out | refine zH ?_ GE714.out) | exact HB.out)) hb); have n4_ := zA (hbox); have n5_ := zA ((by rw [hg]; exact (zR (by repeat (first | (with_reducible first | exact HB.out | apply zG | apply zE | apply zF | refine zH ?_ GE712.out | refine zH ?_ GE713.out | refine zH ?_ GE714.out) | exact HB.out))) : w.heap.size ≤ gb718)); have n6_ := zA ((by rw [hg]; exact (zR (by repeat (first | (with_reducible first | exact HB.out | apply zG | apply zE | apply zF | refine zH ?_ GE712.out | refine zH ?_ GE713.out | refine zH ?_ GE714.out) | exact HB.out))) : w.heap.size ≤ gb718)); have n7_ := zA ((by rw [hg]; exact Nat.ne_of_lt (blk_lt (g := gb712) (o := .cells #[.int .i64 a0_0, .int .i64 a0_1] 26 (0, 0)) (by (with_reducible repeat (first | refine zB ?_ _ | refine zD ?_ | refine zC ?_ _)); exact BK712.out)) : gb712 ≠ gb718)); have n8_ := zA ((by rw [hg]; exact Nat.ne_of_gt (blk_lt (g := gb712) (o := .cells #[.int .i64 a0_0, .int .i64 a0_1] 26 (0, 0)) (by (with_reducible repeat (first | refine zB ?_ _ | refine zD ?_ | refine zC ?_ _)); exact BK712.out)) : gb718 ≠ gb712)); have n9_ := zA ((by rw [hg]; exact Nat.ne_of_lt (blk_lt (g := gb713) (o := .cells #[.int .i64 a1_0, .int .i64 a1_1] 26 (0, 0)) (by (with_reducible repeat (first | refine zB ?_ _ | refine zD ?_ | refine zC ?_ _)); exact BK713.out)) : gb713 ≠ gb718)); have n10_ := zA ((by rw [hg]; exact Nat.ne_of_gt (blk_lt (g := gb713) (o := .cells #[.int .i64 a1_0, .int .i64 a1_1] 26 (0, 0)) (by (with_reducible repeat (first | refine zB ?_ _ | refine zD ?_ | refine zC ?_ _)); exact BK713.out)) : gb718 ≠ gb713)); have n11_ := zA ((by rw [hg]; exact Nat.ne_of_lt (blk_lt (g := gb714) (o := .cells #[.int .i64 0, .int .i64 0] 26 (0, 0)) (by (with_reducible repeat (first | refine zB ?_ _ | refine zD ?_ | refine zC ?_ _)); exact BK714.out)) : gb714 ≠ gb718)); have n12_ := zA ((by rw [hg]; exact Nat.ne_of_gt (blk_lt (g := gb714) (o := .cells #[.int .i64 0, .int .i64 0] 26 (0, 0)) (by (with_reducible repeat (first | refine zB ?_ _ | refine zD ?_ | refine zC ?_ _)); exact BK714.out)) : gb718 ≠ gb714)); clear BK712; clear BK713; clear BK714; clear HB; have BK712 := n0_; have BK713 := n1_; have BK714 := n2_; have HB := n3_; have BK718 := n4_; have GW718 := n5_; have GE718 := n6_; have NB712_718 := n7_; have NB718_712 := n8_; have NB713_718 := n9_; have NB718_713 := n10_; have NB714_718 := n11_; have NB718_714 := n12_; clear n0_ n1_ n2_ n3_ n4_ n5_ n6_ n7_ n8_ n9_ n10_ n11_ n12_; clear hb hbox hg; have hnb18 := NB718_712.out; have hnc18 := NB712_718.out; have hnb19 := NB718_713.out; have hnc19 := NB713_718.out; have hnb20 := NB718_714.out; have hnc20 := NB714_718.out; have hcz21_0 : w17.cell? ⟨gb718, 0, none⟩ = some (.int .i64 0) := (zJ BK718.out 0).trans rfl; have hcz21_1 : w17.cell? ⟨gb718, 1, none⟩ = some (.int .i64 0) := (zJ BK718.out 1).trans rfl; have hfz21_0 := zK BK718.out 0; have hfz21_1 := zK BK718.out 1; have hcz22_0 : w17.cell? ⟨gb713, 0, none⟩ = some (.int .i64 a1_0) := (zJ BK713.out 0).trans rfl; have hcz22_1 : w17.cell? ⟨gb713, 1, none⟩ = some (.int .i64 a1_1) := (zJ BK713.out 1).trans rfl; have hfz22_0 := zK BK713.out 0; have hfz22_1 := zK BK713.out 1) | ((with_reducible refine zT (f := 18) rfl ?_); refine goesL_ (some 21) rfl rfl Try.func18 (by kernel_rfl) rfl #[.agg #[.int .i64 a1_0, .int .i64 a1_1], .agg #[.int .i64 t715, .int .i64 t716]] rfl (by (try simp only [zW, yA, yB]); first | done | rfl | (simp only [zX, zZ]; rfl)) ?_; (with_reducible refine (impl_DecMul.calls k a1_0 a1_1 t715 t716 t719 t720 true _ A5.out).mono ?_); rintro e w23 ⟨rfl, hb⟩; refine ⟨_, rfl, ?_⟩; have n0_ := zA (zP (g := gb712) (o := .cells #[.int .i64 a0_0, .int .i64 a0_1] 26 (0, 0)) (by (with_reducible repeat (first | refine zB ?_ _ | refine zD ?_ | refine zC ?_ _)); refine blk_far ?_ NB712_718.out _; (with_reducible repeat (first | refine zB ?_ _ | refine zD ?_ | refine zC ?_ _)); refine blk_far ?_ NB712_718.out _; (with_reducible repeat (first | refine zB ?_ _ | refine zD ?_ | refine zC ?_ _)); exact BK712.out) hb); have n1_ := zA (zP (g := gb713) (o := .cells #[.int .i64 a1_0, .int .i64 a1_1] 26 (0, 0)) (by (with_reducible repeat (first | refine zB ?_ _ | refine zD ?_ | refine zC ?_ _)); refine blk_far ?_ NB713_718.out _; (with_reducible repeat (first | refine zB ?_ _ | refine zD ?_ | refine zC ?_ _)); refine blk_far ?_ NB713_718.out _; (with_reducible repeat (first | refine zB ?_ _ | refine zD ?_ | refine zC ?_ _)); exact BK713.out) hb); have n2_ := zA (zP (g := gb714) (o := .cells #[.int .i64 0, .int .i64 0] 26 (0, 0)) (by (with_reducible repeat (first | refine zB ?_ _ | refine zD ?_ | refine zC ?_ _)); refine blk_far ?_ NB714_718.out _; (with_reducible repeat (first | refine zB ?_ _ | refine zD ?_ | refine zC ?_ _)); refine blk_far ?_ NB714_718.out _; (with_reducible repeat (first | refine zB ?_ _ | refine zD ?_ | refine zC ?_ _)); exact BK714.out) hb); have n3_ := zA (zP (g := gb718) (o := .cells #[.int .i64 t715, .int .i64 t716] 26 (0, 0)) (by (with_reducible repeat (first | refine zB ?_ _ | refine zD ?_ | refine zC ?_ _)); refine blk_put (cs := #[.int .i64 t715, .int .i64 0]) ?_ 1 _ rfl; (with_reducible repeat (first | refine zB ?_ _ | refine zD ?_ | refine zC ?_ _)); refine blk_put (cs := #[.int .i64 0, .int .i64 0]) ?_ 0 _ rfl; (with_reducible repeat (first | refine zB ?_ _ | refine zD ?_ | refine zC ?_ _)); exact BK718.out) hb); have n4_ := zA (zQ (by repeat (first | (with_reducible first | exact HB.out | apply zG | apply zE | apply zF | refine zH ?_ GE712.out | refine zH ?_ GE713.out | refine zH ?_ GE714.out | refine zH ?_ GE718.out) | exact HB.out)) hb); clear BK712; clear BK713; clear BK714; clear BK718; clear HB; have BK712 := n0_; have BK713 := n1_; have BK714 := n2_; have BK718 := n3_; have HB := n4_; clear n0_ n1_ n2_ n3_ n4_; (try clear hb); (try clear hb2); (try clear hk); (try clear hi)) | ((with_reducible refine zS (N := 8) rfl ?_); refine zV ?hg (N := 8) ?hd (cs := #[.int .i64 0, .int .i64 0]) (t := 26) ?hr ?_; (case hd => rfl); (case hg => rfl); (case hr => first | (go_simp; done) | (go_simp; rfl)); intro gb722 hg w24 hbox hb; have n0_ := zA (zP (g := gb712) (o := .cells #[.int .i64 a0_0, .int .i64 a0_1] 26 (0, 0)) (by (with_reducible repeat (first | refine zB ?_ _ | refine zD ?_ | refine zC ?_ _)); exact BK712.out) hb); have n1_ := zA (zP (g := gb713) (o := .cells #[.int .i64 a1_0, .int .i64 a1_1] 26 (0, 0)) (by (with_reducible repeat (first | refine zB ?_ _ | refine zD ?_ | refine zC ?_ _)); exact BK713.out) hb); have n2_ := zA (zP (g := gb714) (o := .cells #[.int .i64 0, .int .i64 0] 26 (0, 0)) (by (with_reducible repeat (first | refine zB ?_ _ | refine zD ?_ | refine zC ?_ _)); exact BK714.out) hb); have n3_ := zA (zP (g := gb718) (o := .cells #[.int .i64 t715, .int .i64 t716] 26 (0, 0)) (by (with_reducible repeat (first | refine zB ?_ _ | refine zD ?_ | refine zC ?_ _)); exact BK718.out) hb); have n4_ := zA (zQ (by repeat (first | (with_reducible first | exact HB.out | apply zG | apply zE | apply zF | refine zH ?_ GE712.out | refine zH ?_ GE713.out | refine zH ?_ GE714.out | refine zH ?_ GE718.out) | exact HB.out)) hb); have n5_ := zA (hbox); have n6_ := zA ((by rw [hg]; exact (zR (by repeat (first | (with_reducible first | exact HB.out | apply zG | apply zE | apply zF | refine zH ?_ GE712.out | refine zH ?_ GE713.out | refine zH ?_ GE714.out | refine zH ?_ GE718.out) | exact HB.out))) : w.heap.size ≤ gb722)); have n7_ := zA ((by rw [hg]; exact (zR (by repeat (first | (with_reducible first | exact HB.out | apply zG | apply zE | apply zF | refine zH ?_ GE712.out | refine zH ?_ GE713.out | refine zH ?_ GE714.out | refine zH ?_ GE718.out) | exact HB.out))) : w.heap.size ≤ gb722)); have n8_ := zA ((by rw [hg]; exact Nat.ne_of_lt (blk_lt (g := gb712) (o := .cells #[.int .i64 a0_0, .int .i64 a0_1] 26 (0, 0)) (by (with_reducible repeat (first | refine zB ?_ _ | refine zD ?_ | refine zC ?_ _)); exact BK712.out)) : gb712 ≠ gb722)); have n9_ := zA ((by rw [hg]; exact Nat.ne_of_gt (blk_lt (g := gb712) (o := .cells #[.int .i64 a0_0, .int .i64 a0_1] 26 (0, 0)) (by (with_reducible repeat (first | refine zB ?_ _ | refine zD ?_ | refine zC ?_ _)); exact BK712.out)) : gb722 ≠ gb712)); have n10_ := zA ((by rw [hg]; exact Nat.ne_of_lt (blk_lt (g := gb713) (o := .cells #[.int .i64 a1_0, .int .i64 a1_1] 26 (0, 0)) (by (with_reducible repeat (first | refine zB ?_ _ | refine zD ?_ | refine zC ?_ _)); exact BK713.out)) : gb713 ≠ gb722)); have n11_ := zA ((by rw [hg]; exact Nat.ne_of_gt (blk_lt (g := gb713) (o := .cells #[.int .i64 a1_0, .int .i64 a1_1] 26 (0, 0)) (by (with_reducible repeat (first | refine zB ?_ _ | refine zD ?_ | refine zC ?_ _)); exact BK713.out)) : gb722 ≠ gb713)); have n12_ := zA ((by rw [hg]; exact Nat.ne_of_lt (blk_lt (g := gb714) (o := .cells #[.int .i64 0, .int .i64 0] 26 (0, 0)) (by (with_reducible repeat (first | refine zB ?_ _ | refine zD ?_ | refine zC ?_ _)); exact BK714.out)) : gb714 ≠ gb722)); have n13_ := zA ((by rw [hg]; exact Nat.ne_of_gt (blk_lt (g := gb714) (o := .cells #[.int .i64 0, .int .i64 0] 26 (0, 0)) (by (with_reducible repeat (first | refine zB ?_ _ | refine zD ?_ | refine zC ?_ _)); exact BK714.out)) : gb722 ≠ gb714)); have n14_ := zA ((by rw [hg]; exact Nat.ne_of_lt (blk_lt (g := gb718) (o := .cells #[.int .i64 t715, .int .i64 t716] 26 (0, 0)) (by (with_reducible repeat (first | refine zB ?_ _ | refine zD ?_ | refine zC ?_ _)); exact BK718.out)) : gb718 ≠ gb722)); have n15_ := zA ((by rw [hg]; exact Nat.ne_of_gt (blk_lt (g := gb718) (o := .cells #[.int .i64 t715, .int .i64 t716] 26 (0, 0)) (by (with_reducible repeat (first | refine zB ?_ _ | refine zD ?_ | refine zC ?_ _)); exact BK718.out)) : gb722 ≠ gb718)); clear BK712; clear BK713; clear BK714; clear BK718; clear HB; have BK712 := n0_; have BK713 := n1_; have BK714 := n2_; have BK718 := n3_; have HB := n4_; have BK722 := n5_; have GW722 := n6_; have GE722 := n7_; have NB712_722 := n8_; have NB722_712 := n9_; have NB713_722 := n10_; have NB722_713 := n11_; have NB714_722 := n12_; have NB722_714 := n13_; have NB718_722 := n14_; have NB722_718 := n15_; clear n0_ n1_ n2_ n3_ n4_ n5_ n6_ n7_ n8_ n9_ n10_ n11_ n12_ n13_ n14_ n15_; clear hb hbox hg; have hnb25 := NB722_712.out; have hnc25 := NB712_722.out; have hnb26 := NB722_713.out; have hnc26 := NB713_722.out; have hnb27 := NB722_714.out; have hnc27 := NB714_722.out; have hnb28 := NB722_718.out; have hnc28 := NB718_722.out; have hcz29_0 : w24.cell? ⟨gb722, 0, none⟩ = some (.int .i64 0) := (zJ BK722.out 0).trans rfl; have hcz29_1 : w24.cell? ⟨gb722, 1, none⟩ = some (.int .i64 0) := (zJ BK722.out 1).trans rfl; have hfz29_0 := zK BK722.out 0; have hfz29_1 := zK BK722.out 1; have hcz30_0 : w24.cell? ⟨gb712, 0, none⟩ = some (.int .i64 a0_0) := (zJ BK712.out 0).trans rfl; have hcz30_1 : w24.cell? ⟨gb712, 1, none⟩ = some (.int .i64 a0_1) := (zJ BK712.out 1).trans rfl; have hfz30_0 := zK BK712.out 0; have hfz30_1 := zK BK712.out 1) | ((with_reducible refine zT (f := 24) rfl ?_); refine goesL_ (some 29) rfl rfl Try.func24 (by kernel_rfl) rfl #[.agg #[.int .i64 a0_0, .int .i64 a0_1], .agg #[.int .i64 t719, .int .i64 t720]] rfl (by (try simp only [zW, yA, yB]); first | done | rfl | (simp only [zX, zZ]; rfl)) ?_; (with_reducible refine (impl_DecSub.calls k a0_0 a0_1 t719 t720 t723 t724 t725 _ A7.out).mono ?_); rintro e w31 ⟨rfl, hb⟩; refine ⟨_, rfl, ?_⟩; have n0_ := zA (zP (g := gb712) (o := .cells #[.int .i64 a0_0, .int .i64 a0_1] 26 (0, 0)) (by (with_reducible repeat (first | refine zB ?_ _ | refine zD ?_ | refine zC ?_ _)); refine blk_far ?_ NB712_722.out _; (with_reducible repeat (first | refine zB ?_ _ | refine zD ?_ | refine zC ?_ _)); refine blk_far ?_ NB712_722.out _; (with_reducible repeat (first | refine zB ?_ _ | refine zD ?_ | refine zC ?_ _)); exact BK712.out) hb); have n1_ := zA (zP (g := gb713) (o := .cells #[.int .i64 a1_0, .int .i64 a1_1] 26 (0, 0)) (by (with_reducible repeat (first | refine zB ?_ _ | refine zD ?_ | refine zC ?_ _)); refine blk_far ?_ NB713_722.out _; (with_reducible repeat (first | refine zB ?_ _ | refine zD ?_ | refine zC ?_ _)); refine blk_far ?_ NB713_722.out _; (with_reducible repeat (first | refine zB ?_ _ | refine zD ?_ | refine zC ?_ _)); exact BK713.out) hb); have n2_ := zA (zP (g := gb714) (o := .cells #[.int .i64 0, .int .i64 0] 26 (0, 0)) (by (with_reducible repeat (first | refine zB ?_ _ | refine zD ?_ | refine zC ?_ _)); refine blk_far ?_ NB714_722.out _; (with_reducible repeat (first | refine zB ?_ _ | refine zD ?_ | refine zC ?_ _)); refine blk_far ?_ NB714_722.out _; (with_reducible repeat (first | refine zB ?_ _ | refine zD ?_ | refine zC ?_ _)); exact BK714.out) hb); have n3_ := zA (zP (g := gb718) (o := .cells #[.int .i64 t715, .int .i64 t716] 26 (0, 0)) (by (with_reducible repeat (first | refine zB ?_ _ | refine zD ?_ | refine zC ?_ _)); refine blk_far ?_ NB718_722.out _; (with_reducible repeat (first | refine zB ?_ _ | refine zD ?_ | refine zC ?_ _)); refine blk_far ?_ NB718_722.out _; (with_reducible repeat (first | refine zB ?_ _ | refine zD ?_ | refine zC ?_ _)); exact BK718.out) hb); have n4_ := zA (zP (g := gb722) (o := .cells #[.int .i64 t719, .int .i64 t720] 26 (0, 0)) (by (with_reducible repeat (first | refine zB ?_ _ | refine zD ?_ | refine zC ?_ _)); refine blk_put (cs := #[.int .i64 t719, .int .i64 0]) ?_ 1 _ rfl; (with_reducible repeat (first | refine zB ?_ _ | refine zD ?_ | refine zC ?_ _)); refine blk_put (cs := #[.int .i64 0, .int .i64 0]) ?_ 0 _ rfl; (with_reducible repeat (first | refine zB ?_ _ | refine zD ?_ | refine zC ?_ _)); exact BK722.out) hb); have n5_ := zA (zQ (by repeat (first | (with_reducible first | exact HB.out | apply zG | apply zE | apply zF | refine zH ?_ GE712.out | refine zH ?_ GE713.out | refine zH ?_ GE714.out | refine zH ?_ GE718.out | refine zH ?_ GE722.out) | exact HB.out)) hb); clear BK712; clear BK713; clear BK714; clear BK718; clear BK722; clear HB; have BK712 := n0_; have BK713 := n1_; have BK714 := n2_; have BK718 := n3_; have BK722 := n4_; have HB := n5_; clear n0_ n1_ n2_ n3_ n4_ n5_; (try clear hb); (try clear hb2); (try clear hk); (try clear hi); have hcz32_0 : w31.cell? ⟨gb714, 0, none⟩ = some (.int .i64 0) := (zJ BK714.out 0).trans rfl; have hcz32_1 : w31.cell? ⟨gb714, 1, none⟩ = some (.int .i64 0) := (zJ BK714.out 1).trans rfl; have hfz32_0 := zK BK714.out 0; have hfz32_1 := zK BK714.out 1))
   refine bodyPost_ret (results_ct rfl _ _ gb714 26 #[.int .i64 t723, .int .i64 t724] (0, 0) _ rfl (by (with_reducible repeat (first | refine zB ?_ _ | refine zD ?_ | refine zC ?_ _)); refine blk_put (cs := #[.int .i64 t723, .int .i64 0]) ?_ 1 _ rfl; (with_reducible repeat (first | refine zB ?_ _ | refine zD ?_ | refine zC ?_ _)); refine blk_put (cs := #[.int .i64 0, .int .i64 0]) ?_ 0 _ rfl; (with_reducible repeat (first | refine zB ?_ _ | refine zD ?_ | refine zC ?_ _)); exact BK714.out) Try.underlying26 rfl (by kernel_rfl)) rfl ?_
   exact ⟨by first | rfl | (simp [errW_none, errW_some] <;> rfl) | (simp [*, errW_none, errW_some] <;> rfl), by repeat (first | (with_reducible first | exact HB.out | apply zG | apply zE | apply zF | refine zH ?_ GE712.out | refine zH ?_ GE713.out | refine zH ?_ GE714.out | refine zH ?_ GE718.out | refine zH ?_ GE722.out) | exact HB.out)⟩
  ·replace c6 := Bool.eq_false_iff.mpr c6
   subst c6
   have H1 : (some (0, 0, false)) = some (r1, r2, r3) := by rw [if_neg (show ¬ (false = true) by decide)] at H; exact H
   clear H
   have H := H1
   clear H1
   simp only [Option.some.injEq, Prod.mk.injEq] at H
   obtain ⟨rfl, rfl, rfl⟩ := H
   go_enter Try.func41, Try.ntmps41
   go_wp2_with (first | ((with_reducible refine zS (N := 2) rfl ?_); refine zV ?hg (N := 2) ?hd (cs := #[.int .i64 a0_0, .int .i64 a0_1]) (t := 26) ?hr ?_; (case hd => rfl); (case hg => rfl); (case hr => first | (go_simp; done) | (go_simp; rfl)); intro gb712 hg w33 hbox hb; have n0_ := zA (zQ (by repeat (first | (with_reducible first | exact HB.out | apply zG | apply zE | apply zF) | exact HB.out)) hb); have n1_ := zA (hbox); have n2_ := zA ((by rw [hg]; exact (zR (by repeat (first | (with_reducible first | exact HB.out | apply zG | apply zE | apply zF) | exact HB.out))) : w.heap.size ≤ gb712)); have n3_ := zA ((by rw [hg]; exact (zR (by repeat (first | (with_reducible first | exact HB.out | apply zG | apply zE | apply zF) | exact HB.out))) : w.heap.size ≤ gb712)); clear HB; have HB := n0_; have BK712 := n1_; have GW712 := n2_; have GE712 := n3_; clear n0_ n1_ n2_ n3_; clear hb hbox hg) | ((with_reducible refine zS (N := 3) rfl ?_); refine zV ?hg (N := 3) ?hd (cs := #[.int .i64 a1_0, .int .i64 a1_1]) (t := 26) ?hr ?_; (case hd => rfl); (case hg => rfl); (case hr => first | (go_simp; done) | (go_simp; rfl)); intro gb713 hg w34 hbox hb; have n0_ := zA (zP (g := gb712) (o := .cells #[.int .i64 a0_0, .int .i64 a0_1] 26 (0, 0)) (by (with_reducible repeat (first | refine zB ?_ _ | refine zD ?_ | refine zC ?_ _)); exact BK712.out) hb); have n1_ := zA (zQ (by repeat (first | (with_reducible first | exact HB.out | apply zG | apply zE | apply zF | refine zH ?_ GE712.out) | exact HB.out)) hb); have n2_ := zA (hbox); have n3_ := zA ((by rw [hg]; exact (zR (by repeat (first | (with_reducible first | exact HB.out | apply zG | apply zE | apply zF | refine zH ?_ GE712.out) | exact HB.out))) : w.heap.size ≤ gb713)); have n4_ := zA ((by rw [hg]; exact (zR (by repeat (first | (with_reducible first | exact HB.out | apply zG | apply zE | apply zF | refine zH ?_ GE712.out) | exact HB.out))) : w.heap.size ≤ gb713)); have n5_ := zA ((by rw [hg]; exact Nat.ne_of_lt (blk_lt (g := gb712) (o := .cells #[.int .i64 a0_0, .int .i64 a0_1] 26 (0, 0)) (by (with_reducible repeat (first | refine zB ?_ _ | refine zD ?_ | refine zC ?_ _)); exact BK712.out)) : gb712 ≠ gb713)); have n6_ := zA ((by rw [hg]; exact Nat.ne_of_gt (blk_lt (g := gb712) (o := .cells #[.int .i64 a0_0, .int .i64 a0_1] 26 (0, 0)) (by (with_reducible repeat (first | refine zB ?_ _ | refine zD ?_ | refine zC ?_ _)); exact BK712.out)) : gb713 ≠ gb712)); clear BK712; clear HB; have BK712 := n0_; have HB := n1_; have BK713 := n2_; have GW713 := n3_; have GE713 := n4_; have NB712_713 := n5_; have NB713_712 := n6_; clear n0_ n1_ n2_ n3_ n4_ n5_ n6_; clear hb hbox hg) | ((with_reducible refine zS (N := 4) rfl ?_); refine zV ?hg (N := 4) ?hd (cs := #[.int .i64 0, .int .i64 0]) (t := 26) ?hr ?_; (case hd => rfl); (case hg => rfl); (case hr => first | (go_simp; done) | (go_simp; rfl)); intro gb714 hg w35 hbox hb; have n0_ := zA (zP (g := gb712) (o := .cells #[.int .i64 a0_0, .int .i64 a0_1] 26 (0, 0)) (by (with_reducible repeat (first | refine zB ?_ _ | refine zD ?_ | refine zC ?_ _)); exact BK712.out) hb); have n1_ := zA (zP (g := gb713) (o := .cells #[.int .i64 a1_0, .int .i64 a1_1] 26 (0, 0)) (by (with_reducible repeat (first | refine zB ?_ _ | refine zD ?_ | refine zC ?_ _)); exact BK713.out) hb); have n2_ := zA (zQ (by repeat (first | (with_reducible first | exact HB.out | apply zG | apply zE | apply zF | refine zH ?_ GE712.out | refine zH ?_ GE713.out) | exact HB.out)) hb); have n3_ := zA (hbox); have n4_ := zA ((by rw [hg]; exact (zR (by repeat (first | (with_reducible first | exact HB.out | apply zG | apply zE | apply zF | refine zH ?_ GE712.out | refine zH ?_ GE713.out) | exact HB.out))) : w.heap.size ≤ gb714)); have n5_ := zA ((by rw [hg]; exact (zR (by repeat (first | (with_reducible first | exact HB.out | apply zG | apply zE | apply zF | refine zH ?_ GE712.out | refine zH ?_ GE713.out) | exact HB.out))) : w.heap.size ≤ gb714)); have n6_ := zA ((by rw [hg]; exact Nat.ne_of_lt (blk_lt (g := gb712) (o := .cells #[.int .i64 a0_0, .int .i64 a0_1] 26 (0, 0)) (by (with_reducible repeat (first | refine zB ?_ _ | refine zD ?_ | refine zC ?_ _)); exact BK712.out)) : gb712 ≠ gb714)); have n7_ := zA ((by rw [hg]; exact Nat.ne_of_gt (blk_lt (g := gb712) (o := .cells #[.int .i64 a0_0, .int .i64 a0_1] 26 (0, 0)) (by (with_reducible repeat (first | refine zB ?_ _ | refine zD ?_ | refine zC ?_ _)); exact BK712.out)) : gb714 ≠ gb712)); have n8_ := zA ((by rw [hg]; exact Nat.ne_of_lt (blk_lt (g := gb713) (o := .cells #[.int .i64 a1_0, .int .i64 a1_1] 26 (0, 0)) (by (with_reducible repeat (first | refine zB ?_ _ | refine zD ?_ | refine zC ?_ _)); exact BK713.out)) : gb713 ≠ gb714)); have n9_ := zA ((by rw [hg]; exact Nat.ne_of_gt (blk_lt (g := gb713) (o := .cells #[.int .i64 a1_0, .int .i64 a1_1] 26 (0, 0)) (by (with_reducible repeat (first | refine zB ?_ _ | refine zD ?_ | refine zC ?_ _)); exact BK713.out)) : gb714 ≠ gb713)); clear BK712; clear BK713; clear HB; have BK712 := n0_; have BK713 := n1_; have HB := n2_; have BK714 := n3_; have GW714 := n4_; have GE714 := n5_; have NB712_714 := n6_; have NB714_712 := n7_; have NB713_714 := n8_; have NB714_713 := n9_; clear n0_ n1_ n2_ n3_ n4_ n5_ n6_ n7_ n8_ n9_; clear hb hbox hg; have hnb36 := NB712_713.out; have hnc36 := NB713_712.out; have hnb37 := NB712_714.out; have hnc37 := NB714_712.out; have hcz38_0 : w35.cell? ⟨gb712, 0, none⟩ = some (.int .i64 a0_0) := (zJ BK712.out 0).trans rfl; have hcz38_1 : w35.cell? ⟨gb712, 1, none⟩ = some (.int .i64 a0_1) := (zJ BK712.out 1).trans rfl; have hfz38_0 := zK BK712.out 0; have hfz38_1 := zK BK712.out 1; have hnb39 := NB713_714.out; have hnc39 := NB714_713.out; have hcz40_0 : w35.cell? ⟨gb713, 0, none⟩ = some (.int .i64 a1_0) := (zJ BK713.out 0).trans rfl; have hcz40_1 : w35.cell? ⟨gb713, 1, none⟩ = some (.int .i64 a1_1) := (zJ BK713.out 1).trans rfl; have hfz40_0 := zK BK713.out 0; have hfz40_1 := zK BK713.out 1) | ((with_reducible refine zT (f := 37) rfl ?_); refine goesL_ (some 12) rfl rfl Try.func37 (by kernel_rfl) rfl #[.agg #[.int .i64 a0_0, .int .i64 a0_1], .agg #[.int .i64 a1_0, .int .i64 a1_1], .int .i64 0] rfl (by (try simp only [zW, yA, yB]); first | done | rfl | (simp only [zX, zZ]; rfl)) ?_; (with_reducible refine (impl_DecDiv.calls k a0_0 a0_1 a1_0 a1_1 0 t715 t716 true _ A3.out).mono ?_); rintro e w41 ⟨rfl, hb⟩; refine ⟨_, rfl, ?_⟩; have n0_ := zA (zP (g := gb712) (o := .cells #[.int .i64 a0_0, .int .i64 a0_1] 26 (0, 0)) (by (with_reducible repeat (first | refine zB ?_ _ | refine zD ?_ | refine zC ?_ _)); exact BK712.out) hb); have n1_ := zA (zP (g := gb713) (o := .cells #[.int .i64 a1_0, .int .i64 a1_1] 26 (0, 0)) (by (with_reducible repeat (first | refine zB ?_ _ | refine zD ?_ | refine zC ?_ _)); exact BK713.out) hb); have n2_ := zA (zP (g := gb714) (o := .cells #[.int .i64 0, .int .i64 0] 26 (0, 0)) (by (with_reducible repeat (first | refine zB ?_ _ | refine zD ?_ | refine zC ?_ _)); exact BK714.out) hb); have n3_ := zA (zQ (by repeat (first | (with_reducible first | exact HB.out | apply zG | apply zE | apply zF | refine zH ?_ GE712.out | refine zH ?_ GE713.out | refine zH ?_ GE714.out) | exact HB.out)) hb); clear BK712; clear BK713; clear BK714; clear HB; have BK712 := n0_; have BK713 := n1_; have BK714 := n2_; have HB := n3_; clear n0_ n1_ n2_ n3_; (try clear hb); (try clear hb2); (try clear hk); (try clear hi)) | ((with_reducible refine zS (N := 6) rfl ?_); refine zV ?hg (N := 6) ?hd (cs := #[.int .i64 0, .int .i64 0]) (t := 26) ?hr ?_; (case hd => rfl); (case hg => rfl); (case hr => first | (go_simp; done) | (go_simp; rfl)); intro gb718 hg w42 hbox hb; have n0_ := zA (zP (g := gb712) (o := .cells #[.int .i64 a0_0, .int .i64 a0_1] 26 (0, 0)) (by (with_reducible repeat (first | refine zB ?_ _ | refine zD ?_ | refine zC ?_ _)); exact BK712.out) hb); have n1_ := zA (zP (g := gb713) (o := .cells #[.int .i64 a1_0, .int .i64 a1_1] 26 (0, 0)) (by (with_reducible repeat (first | refine zB ?_ _ | refine zD ?_ | refine zC ?_ _)); exact BK713.out) hb); have n2_ := zA (zP (g := gb714) (o := .cells #[.int .i64 0, .int .i64 0] 26 (0, 0)) (by (with_reducible repeat (first | refine zB ?_ _ | refine zD ?_ | refine zC ?_ _)); exact BK714.out) hb); have n3_ := zA (zQ (by repeat (first | (with_reducible first | exact HB.out | apply zG | apply zE | apply zF | refine zH ?_ GE712.out | refine zH ?_ GE713.out | refine zH ?_ GE714.out) | exact HB.out)) hb); have n4_ := zA (hbox); have n5_ := zA ((by rw [hg]; exact (zR (by repeat (first | (with_reducible first | exact HB.out | apply zG | apply zE | apply zF | refine zH ?_ GE712.out | refine zH ?_ GE713.out | refine zH ?_ GE714.out) | exact HB.out))) : w.heap.size ≤ gb718)); have n6_ := zA ((by rw [hg]; exact (zR (by repeat (first | (with_reducible first | exact HB.out | apply zG | apply zE | apply zF | refine zH ?_ GE712.out | refine zH ?_ GE713.out | refine zH ?_ GE714.out) | exact HB.out))) : w.heap.size ≤ gb718)); have n7_ := zA ((by rw [hg]; exact Nat.ne_of_lt (blk_lt (g := gb712) (o := .cells #[.int .i64 a0_0, .int .i64 a0_1] 26 (0, 0)) (by (with_reducible repeat (first | refine zB ?_ _ | refine zD ?_ | refine zC ?_ _)); exact BK712.out)) : gb712 ≠ gb718)); have n8_ := zA ((by rw [hg]; exact Nat.ne_of_gt (blk_lt (g := gb712) (o := .cells #[.int .i64 a0_0, .int .i64 a0_1] 26 (0, 0)) (by (with_reducible repeat (first | refine zB ?_ _ | refine zD ?_ | refine zC ?_ _)); exact BK712.out)) : gb718 ≠ gb712)); have n9_ := zA ((by rw [hg]; exact Nat.ne_of_lt (blk_lt (g := gb713) (o := .cells #[.int .i64 a1_0, .int .i64 a1_1] 26 (0, 0)) (by (with_reducible repeat (first | refine zB ?_ _ | refine zD ?_ | refine zC ?_ _)); exact BK713.out)) : gb713 ≠ gb718)); have n10_ := zA ((by rw [hg]; exact Nat.ne_of_gt (blk_lt (g := gb713) (o := .cells #[.int .i64 a1_0, .int .i64 a1_1] 26 (0, 0)) (by (with_reducible repeat (first | refine zB ?_ _ | refine zD ?_ | refine zC ?_ _)); exact BK713.out)) : gb718 ≠ gb713)); have n11_ := zA ((by rw [hg]; exact Nat.ne_of_lt (blk_lt (g := gb714) (o := .cells #[.int .i64 0, .int .i64 0] 26 (0, 0)) (by (with_reducible repeat (first | refine zB ?_ _ | refine zD ?_ | refine zC ?_ _)); exact BK714.out)) : gb714 ≠ gb718)); have n12_ := zA ((by rw [hg]; exact Nat.ne_of_gt (blk_lt (g := gb714) (o := .cells #[.int .i64 0, .int .i64 0] 26 (0, 0)) (by (with_reducible repeat (first | refine zB ?_ _ | refine zD ?_ | refine zC ?_ _)); exact BK714.out)) : gb718 ≠ gb714)); clear BK712; clear BK713; clear BK714; clear HB; have BK712 := n0_; have BK713 := n1_; have BK714 := n2_; have HB := n3_; have BK718 := n4_; have GW718 := n5_; have GE718 := n6_; have NB712_718 := n7_; have NB718_712 := n8_; have NB713_718 := n9_; have NB718_713 := n10_; have NB714_718 := n11_; have NB718_714 := n12_; clear n0_ n1_ n2_ n3_ n4_ n5_ n6_ n7_ n8_ n9_ n10_ n11_ n12_; clear hb hbox hg; have hnb43 := NB718_712.out; have hnc43 := NB712_718.out; have hnb44 := NB718_713.out; have hnc44 := NB713_718.out; have hnb45 := NB718_714.out; have hnc45 := NB714_718.out; have hcz46_0 : w42.cell? ⟨gb718, 0, none⟩ = some (.int .i64 0) := (zJ BK718.out 0).trans rfl; have hcz46_1 : w42.cell? ⟨gb718, 1, none⟩ = some (.int .i64 0) := (zJ BK718.out 1).trans rfl; have hfz46_0 := zK BK718.out 0; have hfz46_1 := zK BK718.out 1; have hcz47_0 : w42.cell? ⟨gb713, 0, none⟩ = some (.int .i64 a1_0) := (zJ BK713.out 0).trans rfl; have hcz47_1 : w42.cell? ⟨gb713, 1, none⟩ = some (.int .i64 a1_1) := (zJ BK713.out 1).trans rfl; have hfz47_0 := zK BK713.out 0; have hfz47_1 := zK BK713.out 1) | ((with_reducible refine zT (f := 18) rfl ?_); refine goesL_ (some 21) rfl rfl Try.func18 (by kernel_rfl) rfl #[.agg #[.int .i64 a1_0, .int .i64 a1_1], .agg #[.int .i64 t715, .int .i64 t716]] rfl (by (try simp only [zW, yA, yB]); first | done | rfl | (simp only [zX, zZ]; rfl)) ?_; (with_reducible refine (impl_DecMul.calls k a1_0 a1_1 t715 t716 t719 t720 false _ A5.out).mono ?_); rintro e w48 ⟨rfl, hb⟩; refine ⟨_, rfl, ?_⟩; have n0_ := zA (zP (g := gb712) (o := .cells #[.int .i64 a0_0, .int .i64 a0_1] 26 (0, 0)) (by (with_reducible repeat (first | refine zB ?_ _ | refine zD ?_ | refine zC ?_ _)); refine blk_far ?_ NB712_718.out _; (with_reducible repeat (first | refine zB ?_ _ | refine zD ?_ | refine zC ?_ _)); refine blk_far ?_ NB712_718.out _; (with_reducible repeat (first | refine zB ?_ _ | refine zD ?_ | refine zC ?_ _)); exact BK712.out) hb); have n1_ := zA (zP (g := gb713) (o := .cells #[.int .i64 a1_0, .int .i64 a1_1] 26 (0, 0)) (by (with_reducible repeat (first | refine zB ?_ _ | refine zD ?_ | refine zC ?_ _)); refine blk_far ?_ NB713_718.out _; (with_reducible repeat (first | refine zB ?_ _ | refine zD ?_ | refine zC ?_ _)); refine blk_far ?_ NB713_718.out _; (with_reducible repeat (first | refine zB ?_ _ | refine zD ?_ | refine zC ?_ _)); exact BK713.out) hb); have n2_ := zA (zP (g := gb714) (o := .cells #[.int .i64 0, .int .i64 0] 26 (0, 0)) (by (with_reducible repeat (first | refine zB ?_ _ | refine zD ?_ | refine zC ?_ _)); refine blk_far ?_ NB714_718.out _; (with_reducible repeat (first | refine zB ?_ _ | refine zD ?_ | refine zC ?_ _)); refine blk_far ?_ NB714_718.out _; (with_reducible repeat (first | refine zB ?_ _ | refine zD ?_ | refine zC ?_ _)); exact BK714.out) hb); have n3_ := zA (zP (g := gb718) (o := .cells #[.int .i64 t715, .int .i64 t716] 26 (0, 0)) (by (with_reducible repeat (first | refine zB ?_ _ | refine zD ?_ | refine zC ?_ _)); refine blk_put (cs := #[.int .i64 t715, .int .i64 0]) ?_ 1 _ rfl; (with_reducible repeat (first | refine zB ?_ _ | refine zD ?_ | refine zC ?_ _)); refine blk_put (cs := #[.int .i64 0, .int .i64 0]) ?_ 0 _ rfl; (with_reducible repeat (first | refine zB ?_ _ | refine zD ?_ | refine zC ?_ _)); exact BK718.out) hb); have n4_ := zA (zQ (by repeat (first | (with_reducible first | exact HB.out | apply zG | apply zE | apply zF | refine zH ?_ GE712.out | refine zH ?_ GE713.out | refine zH ?_ GE714.out | refine zH ?_ GE718.out) | exact HB.out)) hb); clear BK712; clear BK713; clear BK714; clear BK718; clear HB; have BK712 := n0_; have BK713 := n1_; have BK714 := n2_; have BK718 := n3_; have HB := n4_; clear n0_ n1_ n2_ n3_ n4_; (try clear hb); (try clear hb2); (try clear hk); (try clear hi)) | ((with_reducible refine zS (N := 8) rfl ?_); refine zV ?hg (N := 8) ?hd (cs := #[.int .i64 0, .int .i64 0]) (t := 26) ?hr ?_; (case hd => rfl); (case hg => rfl); (case hr => first | (go_simp; done) | (go_simp; rfl)); intro gb722 hg w49 hbox hb; have n0_ := zA (zP (g := gb712) (o := .cells #[.int .i64 a0_0, .int .i64 a0_1] 26 (0, 0)) (by (with_reducible repeat (first | refine zB ?_ _ | refine zD ?_ | refine zC ?_ _)); exact BK712.out) hb); have n1_ := zA (zP (g := gb713) (o := .cells #[.int .i64 a1_0, .int .i64 a1_1] 26 (0, 0)) (by (with_reducible repeat (first | refine zB ?_ _ | refine zD ?_ | refine zC ?_ _)); exact BK713.out) hb); have n2_ := zA (zP (g := gb714) (o := .cells #[.int .i64 0, .int .i64 0] 26 (0, 0)) (by (with_reducible repeat (first | refine zB ?_ _ | refine zD ?_ | refine zC ?_ _)); exact BK714.out) hb); have n3_ := zA (zP (g := gb718) (o := .cells #[.int .i64 t715, .int .i64 t716] 26 (0, 0)) (by (with_reducible repeat (first | refine zB ?_ _ | refine zD ?_ | refine zC ?_ _)); exact BK718.out) hb); have n4_ := zA (zQ (by repeat (first | (with_reducible first | exact HB.out | apply zG | apply zE | apply zF | refine zH ?_ GE712.out | refine zH ?_ GE713.out | refine zH ?_ GE714.out | refine zH ?_ GE718.out) | exact HB.out)) hb); have n5_ := zA (hbox); have n6_ := zA ((by rw [hg]; exact (zR (by repeat (first | (with_reducible first | exact HB.out | apply zG | apply zE | apply zF | refine zH ?_ GE712.out | refine zH ?_ GE713.out | refine zH ?_ GE714.out | refine zH ?_ GE718.out) | exact HB.out))) : w.heap.size ≤ gb722)); have n7_ := zA ((by rw [hg]; exact (zR (by repeat (first | (with_reducible first | exact HB.out | apply zG | apply zE | apply zF | refine zH ?_ GE712.out | refine zH ?_ GE713.out | refine zH ?_ GE714.out | refine zH ?_ GE718.out) | exact HB.out))) : w.heap.size ≤ gb722)); have n8_ := zA ((by rw [hg]; exact Nat.ne_of_lt (blk_lt (g := gb712) (o := .cells #[.int .i64 a0_0, .int .i64 a0_1] 26 (0, 0)) (by (with_reducible repeat (first | refine zB ?_ _ | refine zD ?_ | refine zC ?_ _)); exact BK712.out)) : gb712 ≠ gb722)); have n9_ := zA ((by rw [hg]; exact Nat.ne_of_gt (blk_lt (g := gb712) (o := .cells #[.int .i64 a0_0, .int .i64 a0_1] 26 (0, 0)) (by (with_reducible repeat (first | refine zB ?_ _ | refine zD ?_ | refine zC ?_ _)); exact BK712.out)) : gb722 ≠ gb712)); have n10_ := zA ((by rw [hg]; exact Nat.ne_of_lt (blk_lt (g := gb713) (o := .cells #[.int .i64 a1_0, .int .i64 a1_1] 26 (0, 0)) (by (with_reducible repeat (first | refine zB ?_ _ | refine zD ?_ | refine zC ?_ _)); exact BK713.out)) : gb713 ≠ gb722)); have n11_ := zA ((by rw [hg]; exact Nat.ne_of_gt (blk_lt (g := gb713) (o := .cells #[.int .i64 a1_0, .int .i64 a1_1] 26 (0, 0)) (by (with_reducible repeat (first | refine zB ?_ _ | refine zD ?_ | refine zC ?_ _)); exact BK713.out)) : gb722 ≠ gb713)); have n12_ := zA ((by rw [hg]; exact Nat.ne_of_lt (blk_lt (g := gb714) (o := .cells #[.int .i64 0, .int .i64 0] 26 (0, 0)) (by (with_reducible repeat (first | refine zB ?_ _ | refine zD ?_ | refine zC ?_ _)); exact BK714.out)) : gb714 ≠ gb722)); have n13_ := zA ((by rw [hg]; exact Nat.ne_of_gt (blk_lt (g := gb714) (o := .cells #[.int .i64 0, .int .i64 0] 26 (0, 0)) (by (with_reducible repeat (first | refine zB ?_ _ | refine zD ?_ | refine zC ?_ _)); exact BK714.out)) : gb722 ≠ gb714)); have n14_ := zA ((by rw [hg]; exact Nat.ne_of_lt (blk_lt (g := gb718) (o := .cells #[.int .i64 t715, .int .i64 t716] 26 (0, 0)) (by (with_reducible repeat (first | refine zB ?_ _ | refine zD ?_ | refine zC ?_ _)); exact BK718.out)) : gb718 ≠ gb722)); have n15_ := zA ((by rw [hg]; exact Nat.ne_of_gt (blk_lt (g := gb718) (o := .cells #[.int .i64 t715, .int .i64 t716] 26 (0, 0)) (by (with_reducible repeat (first | refine zB ?_ _ | refine zD ?_ | refine zC ?_ _)); exact BK718.out)) : gb722 ≠ gb718)); clear BK712; clear BK713; clear BK714; clear BK718; clear HB; have BK712 := n0_; have BK713 := n1_; have BK714 := n2_; have BK718 := n3_; have HB := n4_; have BK722 := n5_; have GW722 := n6_; have GE722 := n7_; have NB712_722 := n8_; have NB722_712 := n9_; have NB713_722 := n10_; have NB722_713 := n11_; have NB714_722 := n12_; have NB722_714 := n13_; have NB718_722 := n14_; have NB722_718 := n15_; clear n0_ n1_ n2_ n3_ n4_ n5_ n6_ n7_ n8_ n9_ n10_ n11_ n12_ n13_ n14_ n15_; clear hb hbox hg; have hnb50 := NB722_712.out; have hnc50 := NB712_722.out; have hnb51 := NB722_713.out; have hnc51 := NB713_722.out; have hnb52 := NB722_714.out; have hnc52 := NB714_722.out; have hnb53 := NB722_718.out; have hnc53 := NB718_722.out; have hcz54_0 : w49.cell? ⟨gb722, 0, none⟩ = some (.int .i64 0) := (zJ BK722.out 0).trans rfl; have hcz54_1 : w49.cell? ⟨gb722, 1, none⟩ = some (.int .i64 0) := (zJ BK722.out 1).trans rfl; have hfz54_0 := zK BK722.out 0; have hfz54_1 := zK BK722.out 1; have hcz55_0 : w49.cell? ⟨gb714, 0, none⟩ = some (.int .i64 0) := (zJ BK714.out 0).trans rfl; have hcz55_1 : w49.cell? ⟨gb714, 1, none⟩ = some (.int .i64 0) := (zJ BK714.out 1).trans rfl; have hfz55_0 := zK BK714.out 0; have hfz55_1 := zK BK714.out 1))
   refine bodyPost_ret (results_ct rfl _ _ gb714 26 #[.int .i64 0, .int .i64 0] (0, 0) _ rfl (by (with_reducible repeat (first | refine zB ?_ _ | refine zD ?_ | refine zC ?_ _)); refine blk_put (cs := #[.int .i64 0, .int .i64 0]) ?_ 1 _ rfl; (with_reducible repeat (first | refine zB ?_ _ | refine zD ?_ | refine zC ?_ _)); refine blk_put (cs := #[.int .i64 0, .int .i64 0]) ?_ 0 _ rfl; (with_reducible repeat (first | refine zB ?_ _ | refine zD ?_ | refine zC ?_ _)); refine blk_far ?_ NB714_722.out _; (with_reducible repeat (first | refine zB ?_ _ | refine zD ?_ | refine zC ?_ _)); refine blk_far ?_ NB714_722.out _; (with_reducible repeat (first | refine zB ?_ _ | refine zD ?_ | refine zC ?_ _)); exact BK714.out) Try.underlying26 rfl (by kernel_rfl)) rfl ?_
   exact ⟨by first | rfl | (simp [errW_none, errW_some] <;> rfl) | (simp [*, errW_none, errW_some] <;> rfl), by repeat (first | (with_reducible first | exact HB.out | apply zG | apply zE | apply zF | refine zH ?_ GE712.out | refine zH ?_ GE713.out | refine zH ?_ GE714.out | refine zH ?_ GE718.out | refine zH ?_ GE722.out) | exact HB.out)⟩
 ·replace c4 := Bool.eq_false_iff.mpr c4
  subst c4
  have H1 : (some (0, 0, false)) = some (r1, r2, r3) := by rw [if_neg (show ¬ (false = true) by decide)] at H; exact H
  clear H
  have H := H1
  clear H1
  simp only [Option.some.injEq, Prod.mk.injEq] at H
  obtain ⟨rfl, rfl, rfl⟩ := H
  go_enter Try.func41, Try.ntmps41
  go_wp2_with (first | ((with_reducible refine zS (N := 2) rfl ?_); refine zV ?hg (N := 2) ?hd (cs := #[.int .i64 a0_0, .int .i64 a0_1]) (t := 26) ?hr ?_; (case hd => rfl); (case hg => rfl); (case hr => first | (go_simp; done) | (go_simp; rfl)); intro gb712 hg w56 hbox hb; have n0_ := zA (zQ (by repeat (first | (with_reducible first | exact HB.out | apply zG | apply zE | apply zF) | exact HB.out)) hb); have n1_ := zA (hbox); have n2_ := zA ((by rw [hg]; exact (zR (by repeat (first | (with_reducible first | exact HB.out | apply zG | apply zE | apply zF) | exact HB.out))) : w.heap.size ≤ gb712)); have n3_ := zA ((by rw [hg]; exact (zR (by repeat (first | (with_reducible first | exact HB.out | apply zG | apply zE | apply zF) | exact HB.out))) : w.heap.size ≤ gb712)); clear HB; have HB := n0_; have BK712 := n1_; have GW712 := n2_; have GE712 := n3_; clear n0_ n1_ n2_ n3_; clear hb hbox hg) | ((with_reducible refine zS (N := 3) rfl ?_); refine zV ?hg (N := 3) ?hd (cs := #[.int .i64 a1_0, .int .i64 a1_1]) (t := 26) ?hr ?_; (case hd => rfl); (case hg => rfl); (case hr => first | (go_simp; done) | (go_simp; rfl)); intro gb713 hg w57 hbox hb; have n0_ := zA (zP (g := gb712) (o := .cells #[.int .i64 a0_0, .int .i64 a0_1] 26 (0, 0)) (by (with_reducible repeat (first | refine zB ?_ _ | refine zD ?_ | refine zC ?_ _)); exact BK712.out) hb); have n1_ := zA (zQ (by repeat (first | (with_reducible first | exact HB.out | apply zG | apply zE | apply zF | refine zH ?_ GE712.out) | exact HB.out)) hb); have n2_ := zA (hbox); have n3_ := zA ((by rw [hg]; exact (zR (by repeat (first | (with_reducible first | exact HB.out | apply zG | apply zE | apply zF | refine zH ?_ GE712.out) | exact HB.out))) : w.heap.size ≤ gb713)); have n4_ := zA ((by rw [hg]; exact (zR (by repeat (first | (with_reducible first | exact HB.out | apply zG | apply zE | apply zF | refine zH ?_ GE712.out) | exact HB.out))) : w.heap.size ≤ gb713)); have n5_ := zA ((by rw [hg]; exact Nat.ne_of_lt (blk_lt (g := gb712) (o := .cells #[.int .i64 a0_0, .int .i64 a0_1] 26 (0, 0)) (by (with_reducible repeat (first | refine zB ?_ _ | refine zD ?_ | refine zC ?_ _)); exact BK712.out)) : gb712 ≠ gb713)); have n6_ := zA ((by rw [hg]; exact Nat.ne_of_gt (blk_lt (g := gb712) (o := .cells #[.int .i64 a0_0, .int .i64 a0_1] 26 (0, 0)) (by (with_reducible repeat (first | refine zB ?_ _ | refine zD ?_ | refine zC ?_ _)); exact BK712.out)) : gb713 ≠ gb712)); clear BK712; clear HB; have BK712 := n0_; have HB := n1_; have BK713 := n2_; have GW713 := n3_; have GE713 := n4_; have NB712_713 := n5_; have NB713_712 := n6_; clear n0_ n1_ n2_ n3_ n4_ n5_ n6_; clear hb hbox hg) | ((with_reducible refine zS (N := 4) rfl ?_); refine zV ?hg (N := 4) ?hd (cs := #[.int .i64 0, .int .i64 0]) (t := 26) ?hr ?_; (case hd => rfl); (case hg => rfl); (case hr => first | (go_simp; done) | (go_simp; rfl)); intro gb714 hg w58 hbox hb; have n0_ := zA (zP (g := gb712) (o := .cells #[.int .i64 a0_0, .int .i64 a0_1] 26 (0, 0)) (by (with_reducible repeat (first | refine zB ?_ _ | refine zD ?_ | refine zC ?_ _)); exact BK712.out) hb); have n1_ := zA (zP (g := gb713) (o := .cells #[.int .i64 a1_0, .int .i64 a1_1] 26 (0, 0)) (by (with_reducible repeat (first | refine zB ?_ _ | refine zD ?_ | refine zC ?_ _)); exact BK713.out) hb); have n2_ := zA (zQ (by repeat (first | (with_reducible first | exact HB.out | apply zG | apply zE | apply zF | refine zH ?_ GE712.out | refine zH ?_ GE713.out) | exact HB.out)) hb); have n3_ := zA (hbox); have n4_ := zA ((by rw [hg]; exact (zR (by repeat (first | (with_reducible first | exact HB.out | apply zG | apply zE | apply zF | refine zH ?_ GE712.out | refine zH ?_ GE713.out) | exact HB.out))) : w.heap.size ≤ gb714)); have n5_ := zA ((by rw [hg]; exact (zR (by repeat (first | (with_reducible first | exact HB.out | apply zG | apply zE | apply zF | refine zH ?_ GE712.out | refine zH ?_ GE713.out) | exact HB.out))) : w.heap.size ≤ gb714)); have n6_ := zA ((by rw [hg]; exact Nat.ne_of_lt (blk_lt (g := gb712) (o := .cells #[.int .i64 a0_0, .int .i64 a0_1] 26 (0, 0)) (by (with_reducible repeat (first | refine zB ?_ _ | refine zD ?_ | refine zC ?_ _)); exact BK712.out)) : gb712 ≠ gb714)); have n7_ := zA ((by rw [hg]; exact Nat.ne_of_gt (blk_lt (g := gb712) (o := .cells #[.int .i64 a0_0, .int .i64 a0_1] 26 (0, 0)) (by (with_reducible repeat (first | refine zB ?_ _ | refine zD ?_ | refine zC ?_ _)); exact BK712.out)) : gb714 ≠ gb712)); have n8_ := zA ((by rw [hg]; exact Nat.ne_of_lt (blk_lt (g := gb713) (o := .cells #[.int .i64 a1_0, .int .i64 a1_1] 26 (0, 0)) (by (with_reducible repeat (first | refine zB ?_ _ | refine zD ?_ | refine zC ?_ _)); exact BK713.out)) : gb713 ≠ gb714)); have n9_ := zA ((by rw [hg]; exact Nat.ne_of_gt (blk_lt (g := gb713) (o := .cells #[.int .i64 a1_0, .int .i64 a1_1] 26 (0, 0)) (by (with_reducible repeat (first | refine zB ?_ _ | refine zD ?_ | refine zC ?_ _)); exact BK713.out)) : gb714 ≠ gb713)); clear BK712; clear BK713; clear HB; have BK712 := n0_; have BK713 := n1_; have HB := n2_; have BK714 := n3_; have GW714 := n4_; have GE714 := n5_; have NB712_714 := n6_; have NB714_712 := n7_; have NB713_714 := n8_; have NB714_713 := n9_; clear n0_ n1_ n2_ n3_ n4_ n5_ n6_ n7_ n8_ n9_; clear hb hbox hg; have hnb59 := NB712_713.out; have hnc59 := NB713_712.out; have hnb60 := NB712_714.out; have hnc60 := NB714_712.out; have hcz61_0 : w58.cell? ⟨gb712, 0, none⟩ = some (.int .i64 a0_0) := (zJ BK712.out 0).trans rfl; have hcz61_1 : w58.cell? ⟨gb712, 1, none⟩ = some (.int .i64 a0_1) := (zJ BK712.out 1).trans rfl; have hfz61_0 := zK BK712.out 0; have hfz61_1 := zK BK712.out 1; have hnb62 := NB713_714.out; have hnc62 := NB714_713.out; have hcz63_0 : w58.cell? ⟨gb713, 0, none⟩ = some (.int .i64 a1_0) := (zJ BK713.out 0).trans rfl; have hcz63_1 : w58.cell? ⟨gb713, 1, none⟩ = some (.int .i64 a1_1) := (zJ BK713.out 1).trans rfl; have hfz63_0 := zK BK713.out 0; have hfz63_1 := zK BK713.out 1) | ((with_reducible refine zT (f := 37) rfl ?_); refine goesL_ (some 12) rfl rfl Try.func37 (by kernel_rfl) rfl #[.agg #[.int .i64 a0_0, .int .i64 a0_1], .agg #[.int .i64 a1_0, .int .i64 a1_1], .int .i64 0] rfl (by (try simp only [zW, yA, yB]); first | done | rfl | (simp only [zX, zZ]; rfl)) ?_; (with_reducible refine (impl_DecDiv.calls k a0_0 a0_1 a1_0 a1_1 0 t715 t716 false _ A3.out).mono ?_); rintro e w64 ⟨rfl, hb⟩; refine ⟨_, rfl, ?_⟩; have n0_ := zA (zP (g := gb712) (o := .cells #[.int .i64 a0_0, .int .i64 a0_1] 26 (0, 0)) (by (with_reducible repeat (first | refine zB ?_ _ | refine zD ?_ | refine zC ?_ _)); exact BK712.out) hb); have n1_ := zA (zP (g := gb713) (o := .cells #[.int .i64 a1_0, .int .i64 a1_1] 26 (0, 0)) (by (with_reducible repeat (first | refine zB ?_ _ | refine zD ?_ | refine zC ?_ _)); exact BK713.out) hb); have n2_ := zA (zP (g := gb714) (o := .cells #[.int .i64 0, .int .i64 0] 26 (0, 0)) (by (with_reducible repeat (first | refine zB ?_ _ | refine zD ?_ | refine zC ?_ _)); exact BK714.out) hb); have n3_ := zA (zQ (by repeat (first | (with_reducible first | exact HB.out | apply zG | apply zE | apply zF | refine zH ?_ GE712.out | refine zH ?_ GE713.out | refine zH ?_ GE714.out) | exact HB.out)) hb); clear BK712; clear BK713; clear BK714; clear HB; have BK712 := n0_; have BK713 := n1_; have BK714 := n2_; have HB := n3_; clear n0_ n1_ n2_ n3_; (try clear hb); (try clear hb2); (try clear hk); (try clear hi)) | ((with_reducible refine zS (N := 6) rfl ?_); refine zV ?hg (N := 6) ?hd (cs := #[.int .i64 0, .int .i64 0]) (t := 26) ?hr ?_; (case hd => rfl); (case hg => rfl); (case hr => first | (go_simp; done) | (go_simp; rfl)); intro gb718 hg w65 hbox hb; have n0_ := zA (zP (g := gb712) (o := .cells #[.int .i64 a0_0, .int .i64 a0_1] 26 (0, 0)) (by (with_reducible repeat (first | refine zB ?_ _ | refine zD ?_ | refine zC ?_ _)); exact BK712.out) hb); have n1_ := zA (zP (g := gb713) (o := .cells #[.int .i64 a1_0, .int .i64 a1_1] 26 (0, 0)) (by (with_reducible repeat (first | refine zB ?_ _ | refine zD ?_ | refine zC ?_ _)); exact BK713.out) hb); have n2_ := zA (zP (g := gb714) (o := .cells #[.int .i64 0, .int .i64 0] 26 (0, 0)) (by (with_reducible repeat (first | refine zB ?_ _ | refine zD ?_ | refine zC ?_ _)); exact BK714.out) hb); have n3_ := zA (zQ (by repeat (first | (with_reducible first | exact HB.out | apply zG | apply zE | apply zF | refine zH ?_ GE712.out | refine zH ?_ GE713.out | refine zH ?_ GE714.out) | exact HB.out)) hb); have n4_ := zA (hbox); have n5_ := zA ((by rw [hg]; exact (zR (by repeat (first | (with_reducible first | exact HB.out | apply zG | apply zE | apply zF | refine zH ?_ GE712.out | refine zH ?_ GE713.out | refine zH ?_ GE714.out) | exact HB.out))) : w.heap.size ≤ gb718)); have n6_ := zA ((by rw [hg]; exact (zR (by repeat (first | (with_reducible first | exact HB.out | apply zG | apply zE | apply zF | refine zH ?_ GE712.out | refine zH ?_ GE713.out | refine zH ?_ GE714.out) | exact HB.out))) : w.heap.size ≤ gb718)); have n7_ := zA ((by rw [hg]; exact Nat.ne_of_lt (blk_lt (g := gb712) (o := .cells #[.int .i64 a0_0, .int .i64 a0_1] 26 (0, 0)) (by (with_reducible repeat (first | refine zB ?_ _ | refine zD ?_ | refine zC ?_ _)); exact BK712.out)) : gb712 ≠ gb718)); have n8_ := zA ((by rw [hg]; exact Nat.ne_of_gt (blk_lt (g := gb712) (o := .cells #[.int .i64 a0_0, .int .i64 a0_1] 26 (0, 0)) (by (with_reducible repeat (first | refine zB ?_ _ | refine zD ?_ | refine zC ?_ _)); exact BK712.out)) : gb718 ≠ gb712)); have n9_ := zA ((by rw [hg]; exact Nat.ne_of_lt (blk_lt (g := gb713) (o := .cells #[.int .i64 a1_0, .int .i64 a1_1] 26 (0, 0)) (by (with_reducible repeat (first | refine zB ?_ _ | refine zD ?_ | refine zC ?_ _)); exact BK713.out)) : gb713 ≠ gb718)); have n10_ := zA ((by rw [hg]; exact Nat.ne_of_gt (blk_lt (g := gb713) (o := .cells #[.int .i64 a1_0, .int .i64 a1_1] 26 (0, 0)) (by (with_reducible repeat (first | refine zB ?_ _ | refine zD ?_ | refine zC ?_ _)); exact BK713.out)) : gb718 ≠ gb713)); have n11_ := zA ((by rw [hg]; exact Nat.ne_of_lt (blk_lt (g := gb714) (o := .cells #[.int .i64 0, .int .i64 0] 26 (0, 0)) (by (with_reducible repeat (first | refine zB ?_ _ | refine zD ?_ | refine zC ?_ _)); exact BK714.out)) : gb714 ≠ gb718)); have n12_ := zA ((by rw [hg]; exact Nat.ne_of_gt (blk_lt (g := gb714) (o := .cells #[.int .i64 0, .int .i64 0] 26 (0, 0)) (by (with_reducible repeat (first | refine zB ?_ _ | refine zD ?_ | refine zC ?_ _)); exact BK714.out)) : gb718 ≠ gb714)); clear BK712; clear BK713; clear BK714; clear HB; have BK712 := n0_; have BK713 := n1_; have BK714 := n2_; have HB := n3_; have BK718 := n4_; have GW718 := n5_; have GE718 := n6_; have NB712_718 := n7_; have NB718_712 := n8_; have NB713_718 := n9_; have NB718_713 := n10_; have NB714_718 := n11_; have NB718_714 := n12_; clear n0_ n1_ n2_ n3_ n4_ n5_ n6_ n7_ n8_ n9_ n10_ n11_ n12_; clear hb hbox hg; have hnb66 := NB718_712.out; have hnc66 := NB712_718.out; have hnb67 := NB718_713.out; have hnc67 := NB713_718.out; have hnb68 := NB718_714.out; have hnc68 := NB714_718.out; have hcz69_0 : w65.cell? ⟨gb718, 0, none⟩ = some (.int .i64 0) := (zJ BK718.out 0).trans rfl; have hcz69_1 : w65.cell? ⟨gb718, 1, none⟩ = some (.int .i64 0) := (zJ BK718.out 1).trans rfl; have hfz69_0 := zK BK718.out 0; have hfz69_1 := zK BK718.out 1; have hcz70_0 : w65.cell? ⟨gb714, 0, none⟩ = some (.int .i64 0) := (zJ BK714.out 0).trans rfl; have hcz70_1 : w65.cell? ⟨gb714, 1, none⟩ = some (.int .i64 0) := (zJ BK714.out 1).trans rfl; have hfz70_0 := zK BK714.out 0; have hfz70_1 := zK BK714.out 1))
  refine bodyPost_ret (results_ct rfl _ _ gb714 26 #[.int .i64 0, .int .i64 0] (0, 0) _ rfl (by (with_reducible repeat (first | refine zB ?_ _ | refine zD ?_ | refine zC ?_ _)); refine blk_put (cs := #[.int .i64 0, .int .i64 0]) ?_ 1 _ rfl; (with_reducible repeat (first | refine zB ?_ _ | refine zD ?_ | refine zC ?_ _)); refine blk_put (cs := #[.int .i64 0, .int .i64 0]) ?_ 0 _ rfl; (with_reducible repeat (first | refine zB ?_ _ | refine zD ?_ | refine zC ?_ _)); refine blk_far ?_ NB714_718.out _; (with_reducible repeat (first | refine zB ?_ _ | refine zD ?_ | refine zC ?_ _)); refine blk_far ?_ NB714_718.out _; (with_reducible repeat (first | refine zB ?_ _ | refine zD ?_ | refine zC ?_ _)); exact BK714.out) Try.underlying26 rfl (by kernel_rfl)) rfl ?_
  exact ⟨by first | rfl | (simp [errW_none, errW_some] <;> rfl) | (simp [*, errW_none, errW_some] <;> rfl), by repeat (first | (with_reducible first | exact HB.out | apply zG | apply zE | apply zF | refine zH ?_ GE712.out | refine zH ?_ GE713.out | refine zH ?_ GE714.out | refine zH ?_ GE718.out) | exact HB.out)⟩

end Go.Proofs.Ytmoaolcioihjnaa.Q

namespace Go.Proofs.Ytmoaolcioihjnaa.Q
open Go.RowKit Go.Proofs.YtmoaolcioihjnaaW.PrintWords Go.Proofs.YtmoaolcioihjnaaW.PrintLast Go.Proofs.YtmoaolcioihjnaaW.PrintMore Go.Proofs.YtmoaolcioihjnaaX
attribute [local go_sem] max2_int min2_int max_two min_two max_three min_three max_four min_four   -- for this text's walks alone
set_option linter.unusedVariables false
set_option linter.unusedSimpArgs false

def spec_l1Least.f (a0 : Int) (a1 : Int) : Option (Int) := if a0 < a1 then (some a0) else (some a1)
set_option maxHeartbeats 8000000 in
set_option maxRecDepth 100000 in
theorem spec_l1Least.calls (a0 : Int) (a1 : Int) (r : Int) (w : World) (h : spec_l1Least.f a0 a1 = some r) :
  Calls Try.prog 66 #[.int .i64 a0, .int .i64 a1] w fun e w' => e = .returned (.int .i64 r) ∧ Drawn0 w w' := by
 have H : (if a0 < a1 then (some a0) else (some a1)) = some r := h
 clear h
 by_cases c3 : a0 < a1
 ·rw [if_pos c3] at H
  have c3b0 : decide (a0 < a1) = true := decide_eq_true c3
  clear c3
  obtain rfl := Option.some.inj H
  go_enter Try.func66, Try.ntmps66
  go_wp2
  go_ret
  exact ⟨by first | rfl | (simp; done) | (simp [*]; done), by repeat (first | exact Drawn0.refl _ | apply Drawn0.step)⟩
 ·rw [if_neg c3] at H
  have c3b0 : decide (a0 < a1) = false := decide_eq_false c3
  clear c3
  obtain rfl := Option.some.inj H
  go_enter Try.func66, Try.ntmps66
  go_wp2
  go_ret
  exact ⟨by first | rfl | (simp; done) | (simp [*]; done), by repeat (first | exact Drawn0.refl _ | apply Drawn0.step)⟩

end Go.Proofs.Ytmoaolcioihjnaa.Q

namespace Go.Proofs.Ytmoaolcioihjnaa.Q
open Go.RowKit Go.Proofs.YtmoaolcioihjnaaW.PrintWords Go.Proofs.YtmoaolcioihjnaaW.PrintLast Go.Proofs.YtmoaolcioihjnaaW.PrintMore Go.Proofs.YtmoaolcioihjnaaX
attribute [local go_sem] max2_int min2_int max_two min_two max_three min_three max_four min_four   -- for this text's walks alone
set_option linter.unusedVariables false
set_option linter.unusedSimpArgs false

def spec_l1Up.l0 : Nat → Int → Int → Option (Int × Bool)
 | 0, _, _ => none
 | k + 1, x0, x1 => if x1 > 0 then (if (wrap64 (x0 * 10)) > 1000000000 then (some (0, false)) else (if (wrap64 (x0 * 10)) < (-1000000000) then (some (0, false)) else (spec_l1Up.l0 k (wrap64 (x0 * 10)) (wrap64 (x1 - 1))))) else (some (x0, true))
def spec_l1Up.f (k : Nat) (a0 : Int) (a1 : Int) : Option (Int × Bool) := spec_l1Up.l0 k a0 a1
theorem spec_l1Up.mono_l : ∀ k, (∀ y0 y1, LeO (spec_l1Up.l0 k y0 y1) (spec_l1Up.l0 (k + 1) y0 y1))
 | 0 => fun _ _ r h => by simp [spec_l1Up.l0] at h
 | k + 1 => by
  have ih0 := spec_l1Up.mono_l k
  ·intro y0 y1
   unfold spec_l1Up.l0
   repeat' first
   | (with_reducible exact ih0 _ _)
   | (with_reducible exact LeO.refl _)
   | (with_reducible exact LeO.none _)
   | (with_reducible refine LeO.ite ?_ ?_)
   | (with_reducible refine LeO.bind ?_ (fun _ => ?_))
   | exact ih0 _ _
   | exact LeO.none _
   | refine LeO.ite ?_ ?_
   | refine LeO.bind ?_ (fun _ => ?_)
theorem spec_l1Up.mono : ∀ a0 a1 k, LeO (spec_l1Up.f k a0 a1) (spec_l1Up.f (k + 1) a0 a1) := by
 intro a0 a1 k
 have ih0 := spec_l1Up.mono_l k
 unfold spec_l1Up.f
 repeat' first
   | (with_reducible exact ih0 _ _)
   | (with_reducible exact LeO.refl _)
   | (with_reducible exact LeO.none _)
   | (with_reducible refine LeO.ite ?_ ?_)
   | (with_reducible refine LeO.bind ?_ (fun _ => ?_))
   | exact ih0 _ _
   | exact LeO.none _
   | refine LeO.ite ?_ ?_
   | refine LeO.bind ?_ (fun _ => ?_)
set_option maxHeartbeats 8000000 in
set_option maxRecDepth 100000 in
theorem spec_l1Up.calls (k : Nat) (a0 : Int) (a1 : Int) (r1 : Int) (r2 : Bool) (w : World) (h : spec_l1Up.f k a0 a1 = some (r1, r2)) :
  Calls Try.prog 67 #[.int .i64 a0, .int .i64 a1] w fun e w' => e = .returned (.tuple #[.int .i64 r1, .bool r2]) ∧ Drawn0 w w' := by
 have H : (spec_l1Up.l0 k a0 a1) = some (r1, r2) := h
 clear h
 have H' := zA H
 clear H
 go_enter Try.func67, Try.ntmps67
 go_wp2
 go_loopg [0, 1] k (fun kq v0 v1 w' => ∃ (x0_1 : Int) (x1_1 : Int), v0 = .int .i64 x0_1 ∧ v1 = .int .i64 x1_1 ∧ Aside0 (spec_l1Up.l0 kq x0_1 x1_1 = some (r1, r2)) ∧ Aside0 (kq ≤ k) ∧ Drawn0 w w')
 case atStart => exact ⟨(a0), (a1), (by first | rfl | (simp; done) | (simp [*]; done)), (by first | rfl | (simp; done) | (simp [*]; done)), H', ⟨Nat.le_refl _⟩, by repeat (first | exact Drawn0.refl _ | apply Drawn0.step)⟩
 case round =>
  clear H'
  try clear p2
  obtain ⟨x0_1, x1_1, rfl, rfl, HA, HK1, ⟨m1, rfl⟩⟩ := hrel
  cases gk with
  | zero => exact absurd HA.out (by simp [spec_l1Up.l0])
  | succ k1 =>
   have H := HA.out
   clear HA
   simp only [spec_l1Up.l0] at H
   by_cases c3 : x1_1 > 0
   ·rw [if_pos c3] at H
    have c3b0 : decide (0 < x1_1) = true := decide_eq_true c3
    clear c3
    by_cases c4 : (wrap64 (x0_1 * 10)) > 1000000000
    ·rw [if_pos c4] at H
     have c4b0 : decide (1000000000 < (wrap64 (x0_1 * 10))) = true := decide_eq_true c4
     clear c4
     simp only [Option.some.injEq, Prod.mk.injEq] at H
     obtain ⟨rfl, rfl⟩ := H
     go_wp2
     go_ret2
     exact ⟨by first | rfl | (simp; done) | (simp [*]; done), by repeat (first | exact Drawn0.refl _ | apply Drawn0.step)⟩
    ·rw [if_neg c4] at H
     have c4b0 : decide (1000000000 < (wrap64 (x0_1 * 10))) = false := decide_eq_false c4
     clear c4
     by_cases c5 : (wrap64 (x0_1 * 10)) < (-1000000000)
     ·rw [if_pos c5] at H
      have c5b0 : decide ((wrap64 (x0_1 * 10)) < (-1000000000)) = true := decide_eq_true c5
      clear c5
      simp only [Option.some.injEq, Prod.mk.injEq] at H
      obtain ⟨rfl, rfl⟩ := H
      go_wp2
      go_ret2
      exact ⟨by first | rfl | (simp; done) | (simp [*]; done), by repeat (first | exact Drawn0.refl _ | apply Drawn0.step)⟩
     ·rw [if_neg c5] at H
      have c5b0 : decide ((wrap64 (x0_1 * 10)) < (-1000000000)) = false := decide_eq_false c5
      clear c5
      have H' := zA H
      clear H
      go_wp2
      go_roundg k1
      case measure => have := HK1.out; omega
      case rel => exact ⟨(wrap64 (x0_1 * 10)), (wrap64 (x1_1 - 1)), (by first | rfl | (simp; done) | (simp [*]; done)), (by first | rfl | (simp; done) | (simp [*]; done)), H', ⟨by have := HK1.out; omega⟩, by repeat (first | exact Drawn0.refl _ | apply Drawn0.step)⟩
   ·rw [if_neg c3] at H
    have c3b0 : decide (0 < x1_1) = false := decide_eq_false c3
    clear c3
    simp only [Option.some.injEq, Prod.mk.injEq] at H
    obtain ⟨rfl, rfl⟩ := H
    go_wp2
    go_ret2
    exact ⟨by first | rfl | (simp; done) | (simp [*]; done), by repeat (first | exact Drawn0.refl _ | apply Drawn0.step)⟩

end Go.Proofs.Ytmoaolcioihjnaa.Q

namespace Go.Proofs.Ytmoaolcioihjnaa.Q
open Go.RowKit Go.Proofs.YtmoaolcioihjnaaW.PrintWords Go.Proofs.YtmoaolcioihjnaaW.PrintLast Go.Proofs.YtmoaolcioihjnaaW.PrintMore Go.Proofs.YtmoaolcioihjnaaX
attribute [local go_sem] max2_int min2_int max_two min_two max_three min_three max_four min_four   -- for this text's walks alone
set_option linter.unusedVariables false
set_option linter.unusedSimpArgs false

def spec_l1Add.f (k : Nat) (a0_0 : Int) (a0_1 : Int) (a1_0 : Int) (a1_1 : Int) : Option (Int × Int × Bool) := if a0_0 = 0 then (some (a1_0, a1_1, true)) else (if a1_0 = 0 then (some (a0_0, a0_1, true)) else ((spec_l1Least.f a0_1 a1_1).bind fun t269 => ((spec_l1Up.f k a0_0 (wrap64 (a0_1 - t269))).bind fun bt270 => ((spec_l1Up.f k a1_0 (wrap64 (a1_1 - t269))).bind fun bt272 => (if bt270.2 = true then (if bt272.2 = true then ((spec_l1New.f k (wrap64 (bt270.1 + bt272.1)) t269).bind fun bt274 => (some (bt274.1, bt274.2.1, bt274.2.2))) else (some (0, 0, false))) else (some (0, 0, false)))))))
theorem spec_l1Add.mono : ∀ a0 a1 a2 a3 k, LeO (spec_l1Add.f k a0 a1 a2 a3) (spec_l1Add.f (k + 1) a0 a1 a2 a3) := by
 intro a0 a1 a2 a3 k
 unfold spec_l1Add.f
 repeat' first
   | (with_reducible exact spec_l1New.mono _ _ _)
   | (with_reducible exact spec_l1Up.mono _ _ _)
   | (with_reducible exact LeO.refl _)
   | (with_reducible exact LeO.none _)
   | (with_reducible refine LeO.ite ?_ ?_)
   | (with_reducible refine LeO.bind ?_ (fun _ => ?_))
   | exact spec_l1New.mono _ _ _
   | exact spec_l1Up.mono _ _ _
   | exact LeO.none _
   | refine LeO.ite ?_ ?_
   | refine LeO.bind ?_ (fun _ => ?_)
set_option maxHeartbeats 8000000 in
set_option maxRecDepth 100000 in
theorem spec_l1Add.calls (k : Nat) (a0_0 : Int) (a0_1 : Int) (a1_0 : Int) (a1_1 : Int) (r1 : Int) (r2 : Int) (r3 : Bool) (w : World) (h : spec_l1Add.f k a0_0 a0_1 a1_0 a1_1 = some (r1, r2, r3)) :
  Calls Try.prog 52 #[.agg #[.int .i64 a0_0, .int .i64 a0_1], .agg #[.int .i64 a1_0, .int .i64 a1_1]] w fun e w' => e = .returned (.tuple #[.agg #[.int .i64 r1, .int .i64 r2], .bool r3]) ∧ Below w.heap.size w w' := by
 have hu26 := Try.underlying26
 have HB := zA (Below.refl w.heap.size w)
 have H : (if a0_0 = 0 then (some (a1_0, a1_1, true)) else (if a1_0 = 0 then (some (a0_0, a0_1, true)) else ((spec_l1Least.f a0_1 a1_1).bind fun t269 => ((spec_l1Up.f k a0_0 (wrap64 (a0_1 - t269))).bind fun bt270 => ((spec_l1Up.f k a1_0 (wrap64 (a1_1 - t269))).bind fun bt272 => (if bt270.2 = true then (if bt272.2 = true then ((spec_l1New.f k (wrap64 (bt270.1 + bt272.1)) t269).bind fun bt274 => (some (bt274.1, bt274.2.1, bt274.2.2))) else (some (0, 0, false))) else (some (0, 0, false)))))))) = some (r1, r2, r3) := h
 clear h
 by_cases c3 : a0_0 = 0
 ·rw [if_pos c3] at H
  have c3b0 : (a0_0 == 0) = true := beq_iff_eq.mpr c3
  have c3b1 : (a0_0 != 0) = false := bne_eq_false_iff_eq.mpr c3
  clear c3
  simp only [Option.some.injEq, Prod.mk.injEq] at H
  obtain ⟨rfl, rfl, rfl⟩ := H
  go_enter Try.func52, Try.ntmps52
  go_wp2_with (first | ((with_reducible refine zS (N := 2) rfl ?_); refine zV ?hg (N := 2) ?hd (cs := #[.int .i64 a0_0, .int .i64 a0_1]) (t := 26) ?hr ?_; (case hd => rfl); (case hg => rfl); (case hr => first | (go_simp; done) | (go_simp; rfl)); intro gb266 hg w4 hbox hb; have n0_ := zA (zQ (by repeat (first | (with_reducible first | exact HB.out | apply zG | apply zE | apply zF) | exact HB.out)) hb); have n1_ := zA (hbox); have n2_ := zA ((by rw [hg]; exact (zR (by repeat (first | (with_reducible first | exact HB.out | apply zG | apply zE | apply zF) | exact HB.out))) : w.heap.size ≤ gb266)); have n3_ := zA ((by rw [hg]; exact (zR (by repeat (first | (with_reducible first | exact HB.out | apply zG | apply zE | apply zF) | exact HB.out))) : w.heap.size ≤ gb266)); clear HB; have HB := n0_; have BK266 := n1_; have GW266 := n2_; have GE266 := n3_; clear n0_ n1_ n2_ n3_; clear hb hbox hg) | ((with_reducible refine zS (N := 3) rfl ?_); refine zV ?hg (N := 3) ?hd (cs := #[.int .i64 a1_0, .int .i64 a1_1]) (t := 26) ?hr ?_; (case hd => rfl); (case hg => rfl); (case hr => first | (go_simp; done) | (go_simp; rfl)); intro gb267 hg w5 hbox hb; have n0_ := zA (zP (g := gb266) (o := .cells #[.int .i64 a0_0, .int .i64 a0_1] 26 (0, 0)) (by (with_reducible repeat (first | refine zB ?_ _ | refine zD ?_ | refine zC ?_ _)); exact BK266.out) hb); have n1_ := zA (zQ (by repeat (first | (with_reducible first | exact HB.out | apply zG | apply zE | apply zF | refine zH ?_ GE266.out) | exact HB.out)) hb); have n2_ := zA (hbox); have n3_ := zA ((by rw [hg]; exact (zR (by repeat (first | (with_reducible first | exact HB.out | apply zG | apply zE | apply zF | refine zH ?_ GE266.out) | exact HB.out))) : w.heap.size ≤ gb267)); have n4_ := zA ((by rw [hg]; exact (zR (by repeat (first | (with_reducible first | exact HB.out | apply zG | apply zE | apply zF | refine zH ?_ GE266.out) | exact HB.out))) : w.heap.size ≤ gb267)); have n5_ := zA ((by rw [hg]; exact Nat.ne_of_lt (blk_lt (g := gb266) (o := .cells #[.int .i64 a0_0, .int .i64 a0_1] 26 (0, 0)) (by (with_reducible repeat (first | refine zB ?_ _ | refine zD ?_ | refine zC ?_ _)); exact BK266.out)) : gb266 ≠ gb267)); have n6_ := zA ((by rw [hg]; exact Nat.ne_of_gt (blk_lt (g := gb266) (o := .cells #[.int .i64 a0_0, .int .i64 a0_1] 26 (0, 0)) (by (with_reducible repeat (first | refine zB ?_ _ | refine zD ?_ | refine zC ?_ _)); exact BK266.out)) : gb267 ≠ gb266)); clear BK266; clear HB; have BK266 := n0_; have HB := n1_; have BK267 := n2_; have GW267 := n3_; have GE267 := n4_; have NB266_267 := n5_; have NB267_266 := n6_; clear n0_ n1_ n2_ n3_ n4_ n5_ n6_; clear hb hbox hg) | ((with_reducible refine zS (N := 4) rfl ?_); refine zV ?hg (N := 4) ?hd (cs := #[.int .i64 0, .int .i64 0]) (t := 26) ?hr ?_; (case hd => rfl); (case hg => rfl); (case hr => first | (go_simp; done) | (go_simp; rfl)); intro gb268 hg w6 hbox hb; have n0_ := zA (zP (g := gb266) (o := .cells #[.int .i64 a0_0, .int .i64 a0_1] 26 (0, 0)) (by (with_reducible repeat (first | refine zB ?_ _ | refine zD ?_ | refine zC ?_ _)); exact BK266.out) hb); have n1_ := zA (zP (g := gb267) (o := .cells #[.int .i64 a1_0, .int .i64 a1_1] 26 (0, 0)) (by (with_reducible repeat (first | refine zB ?_ _ | refine zD ?_ | refine zC ?_ _)); exact BK267.out) hb); have n2_ := zA (zQ (by repeat (first | (with_reducible first | exact HB.out | apply zG | apply zE | apply zF | refine zH ?_ GE266.out | refine zH ?_ GE267.out) | exact HB.out)) hb); have n3_ := zA (hbox); have n4_ := zA ((by rw [hg]; exact (zR (by repeat (first | (with_reducible first | exact HB.out | apply zG | apply zE | apply zF | refine zH ?_ GE266.out | refine zH ?_ GE267.out) | exact HB.out))) : w.heap.size ≤ gb268)); have n5_ := zA ((by rw [hg]; exact (zR (by repeat (first | (with_reducible first | exact HB.out | apply zG | apply zE | apply zF | refine zH ?_ GE266.out | refine zH ?_ GE267.out) | exact HB.out))) : w.heap.size ≤ gb268)); have n6_ := zA ((by rw [hg]; exact Nat.ne_of_lt (blk_lt (g := gb266) (o := .cells #[.int .i64 a0_0, .int .i64 a0_1] 26 (0, 0)) (by (with_reducible repeat (first | refine zB ?_ _ | refine zD ?_ | refine zC ?_ _)); exact BK266.out)) : gb266 ≠ gb268)); have n7_ := zA ((by rw [hg]; exact Nat.ne_of_gt (blk_lt (g := gb266) (o := .cells #[.int .i64 a0_0, .int .i64 a0_1] 26 (0, 0)) (by (with_reducible repeat (first | refine zB ?_ _ | refine zD ?_ | refine zC ?_ _)); exact BK266.out)) : gb268 ≠ gb266)); have n8_ := zA ((by rw [hg]; exact Nat.ne_of_lt (blk_lt (g := gb267) (o := .cells #[.int .i64 a1_0, .int .i64 a1_1] 26 (0, 0)) (by (with_reducible repeat (first | refine zB ?_ _ | refine zD ?_ | refine zC ?_ _)); exact BK267.out)) : gb267 ≠ gb268)); have n9_ := zA ((by rw [hg]; exact Nat.ne_of_gt (blk_lt (g := gb267) (o := .cells #[.int .i64 a1_0, .int .i64 a1_1] 26 (0, 0)) (by (with_reducible repeat (first | refine zB ?_ _ | refine zD ?_ | refine zC ?_ _)); exact BK267.out)) : gb268 ≠ gb267)); clear BK266; clear BK267; clear HB; have BK266 := n0_; have BK267 := n1_; have HB := n2_; have BK268 := n3_; have GW268 := n4_; have GE268 := n5_; have NB266_268 := n6_; have NB268_266 := n7_; have NB267_268 := n8_; have NB268_267 := n9_; clear n0_ n1_ n2_ n3_ n4_ n5_ n6_ n7_ n8_ n9_; clear hb hbox hg; have hnb7 := NB266_267.out; have hnc7 := NB267_266.out; have hnb8 := NB266_268.out; have hnc8 := NB268_266.out; have hcz9_0 : w6.cell? ⟨gb266, 0, none⟩ = some (.int .i64 a0_0) := (zJ BK266.out 0).trans rfl; have hcz9_1 : w6.cell? ⟨gb266, 1, none⟩ = some (.int .i64 a0_1) := (zJ BK266.out 1).trans rfl; have hfz9_0 := zK BK266.out 0; have hfz9_1 := zK BK266.out 1; have hnb10 := NB267_268.out; have hnc10 := NB268_267.out; have hcz11_0 : w6.cell? ⟨gb267, 0, none⟩ = some (.int .i64 a1_0) := (zJ BK267.out 0).trans rfl; have hcz11_1 : w6.cell? ⟨gb267, 1, none⟩ = some (.int .i64 a1_1) := (zJ BK267.out 1).trans rfl; have hfz11_0 := zK BK267.out 0; have hfz11_1 := zK BK267.out 1; have hcz12_0 : w6.cell? ⟨gb268, 0, none⟩ = some (.int .i64 0) := (zJ BK268.out 0).trans rfl; have hcz12_1 : w6.cell? ⟨gb268, 1, none⟩ = some (.int .i64 0) := (zJ BK268.out 1).trans rfl; have hfz12_0 := zK BK268.out 0; have hfz12_1 := zK BK268.out 1))
  refine bodyPost_ret (results_ct rfl _ _ gb268 26 #[.int .i64 a1_0, .int .i64 a1_1] (0, 0) _ rfl (by (with_reducible repeat (first | refine zB ?_ _ | refine zD ?_ | refine zC ?_ _)); refine blk_put (cs := #[.int .i64 a1_0, .int .i64 0]) ?_ 1 _ rfl; (with_reducible repeat (first | refine zB ?_ _ | refine zD ?_ | refine zC ?_ _)); refine blk_put (cs := #[.int .i64 0, .int .i64 0]) ?_ 0 _ rfl; (with_reducible repeat (first | refine zB ?_ _ | refine zD ?_ | refine zC ?_ _)); exact BK268.out) Try.underlying26 rfl (by kernel_rfl)) rfl ?_
  exact ⟨by first | rfl | (simp [errW_none, errW_some] <;> rfl) | (simp [*, errW_none, errW_some] <;> rfl), by repeat (first | (with_reducible first | exact HB.out | apply zG | apply zE | apply zF | refine zH ?_ GE266.out | refine zH ?_ GE267.out | refine zH ?_ GE268.out) | exact HB.out)⟩
 ·rw [if_neg c3] at H
  have c3b0 : (a0_0 == 0) = false := beq_eq_false_iff_ne.mpr c3
  have c3b1 : (a0_0 != 0) = true := bne_iff_ne.mpr c3
  by_cases c13 : a1_0 = 0
  ·rw [if_pos c13] at H
   have c13b0 : (a1_0 == 0) = true := beq_iff_eq.mpr c13
   have c13b1 : (a1_0 != 0) = false := bne_eq_false_iff_eq.mpr c13
   clear c13
   simp only [Option.some.injEq, Prod.mk.injEq] at H
   obtain ⟨rfl, rfl, rfl⟩ := H
   go_enter Try.func52, Try.ntmps52
   go_wp2_with (first | ((with_reducible refine zS (N := 2) rfl ?_); refine zV ?hg (N := 2) ?hd (cs := #[.int .i64 a0_0, .int .i64 a0_1]) (t := 26) ?hr ?_; (case hd => rfl); (case hg => rfl); (case hr => first | (go_simp; done) | (go_simp; rfl)); intro gb266 hg w14 hbox hb; have n0_ := zA (zQ (by repeat (first | (with_reducible first | exact HB.out | apply zG | apply zE | apply zF) | exact HB.out)) hb); have n1_ := zA (hbox); have n2_ := zA ((by rw [hg]; exact (zR (by repeat (first | (with_reducible first | exact HB.out | apply zG | apply zE | apply zF) | exact HB.out))) : w.heap.size ≤ gb266)); have n3_ := zA ((by rw [hg]; exact (zR (by repeat (first | (with_reducible first | exact HB.out | apply zG | apply zE | apply zF) | exact HB.out))) : w.heap.size ≤ gb266)); clear HB; have HB := n0_; have BK266 := n1_; have GW266 := n2_; have GE266 := n3_; clear n0_ n1_ n2_ n3_; clear hb hbox hg) | ((with_reducible refine zS (N := 3) rfl ?_); refine zV ?hg (N := 3) ?hd (cs := #[.int .i64 a1_0, .int .i64 a1_1]) (t := 26) ?hr ?_; (case hd => rfl); (case hg => rfl); (case hr => first | (go_simp; done) | (go_simp; rfl)); intro gb267 hg w15 hbox hb; have n0_ := zA (zP (g := gb266) (o := .cells #[.int .i64 a0_0, .int .i64 a0_1] 26 (0, 0)) (by (with_reducible repeat (first | refine zB ?_ _ | refine zD ?_ | refine zC ?_ _)); exact BK266.out) hb); have n1_ := zA (zQ (by repeat (first | (with_reducible first | exact HB.out | apply zG | apply zE | apply zF | refine zH ?_ GE266.out) | exact HB.out)) hb); have n2_ := zA (hbox); have n3_ := zA ((by rw [hg]; exact (zR (by repeat (first | (with_reducible first | exact HB.out | apply zG | apply zE | apply zF | refine zH ?_ GE266.out) | exact HB.out))) : w.heap.size ≤ gb267)); have n4_ := zA ((by rw [hg]; exact (zR (by repeat (first | (with_reducible first | exact HB.out | apply zG | apply zE | apply zF | refine zH ?_ GE266.out) | exact HB.out))) : w.heap.size ≤ gb267)); have n5_ := zA ((by rw [hg]; exact Nat.ne_of_lt (blk_lt (g := gb266) (o := .cells #[.int .i64 a0_0, .int .i64 a0_1] 26 (0, 0)) (by (with_reducible repeat (first | refine zB ?_ _ | refine zD ?_ | refine zC ?_ _)); exact BK266.out)) : gb266 ≠ gb267)); have n6_ := zA ((by rw [hg]; exact Nat.ne_of_gt (blk_lt (g := gb266) (o := .cells #[.int .i64 a0_0, .int .i64 a0_1] 26 (0, 0)) (by (with_reducible repeat (first | refine zB ?_ _ | refine zD ?_ | refine zC ?_ _)); exact BK266.out)) : gb267 ≠ gb266)); clear BK266; clear HB; have BK266 := n0_; have HB := n1_; have BK267 := n2_; have GW267 := n3_; have GE267 := n4_; have NB266_267 := n5_; have NB267_266 := n6_; clear n0_ n1_ n2_ n3_ n4_ n5_ n6_; clear hb hbox hg) | ((with_reducible refine zS (N := 4) rfl ?_); refine zV ?hg (N := 4) ?hd (cs := #[.int .i64 0, .int .i64 0]) (t := 26) ?hr ?_; (case hd => rfl); (case hg => rfl); (case hr => first | (go_simp; done) | (go_simp; rfl)); intro gb268 hg w16 hbox hb; have n0_ := zA (zP (g := gb266) (o := .cells #[.int .i64 a0_0, .int .i64 a0_1] 26 (0, 0)) (by (with_reducible repeat (first | refine zB ?_ _ | refine zD ?_ | refine zC ?_ _)); exact BK266.out) hb); have n1_ := zA (zP (g := gb267) (o := .cells #[.int .i64 a1_0, .int .i64 a1_1] 26 (0, 0)) (by (with_reducible repeat (first | refine zB ?_ _ | refine zD ?_ | refine zC ?_ _)); exact BK267.out) hb); have n2_ := zA (zQ (by repeat (first | (with_reducible first | exact HB.out | apply zG | apply zE | apply zF | refine zH ?_ GE266.out | refine zH ?_ GE267.out) | exact HB.out)) hb); have n3_ := zA (hbox); have n4_ := zA ((by rw [hg]; exact (zR (by repeat (first | (with_reducible first | exact HB.out | apply zG | apply zE | apply zF | refine zH ?_ GE266.out | refine zH ?_ GE267.out) | exact HB.out))) : w.heap.size ≤ gb268)); have n5_ := zA ((by rw [hg]; exact (zR (by repeat (first | (with_reducible first | exact HB.out | apply zG | apply zE | apply zF | refine zH ?_ GE266.out | refine zH ?_ GE267.out) | exact HB.out))) : w.heap.size ≤ gb268)); have n6_ := zA ((by rw [hg]; exact Nat.ne_of_lt (blk_lt (g := gb266) (o := .cells #[.int .i64 a0_0, .int .i64 a0_1] 26 (0, 0)) (by (with_reducible repeat (first | refine zB ?_ _ | refine zD ?_ | refine zC ?_ _)); exact BK266.out)) : gb266 ≠ gb268)); have n7_ := zA ((by rw [hg]; exact Nat.ne_of_gt (blk_lt (g := gb266) (o := .cells #[.int .i64 a0_0, .int .i64 a0_1] 26 (0, 0)) (by (with_reducible repeat (first | refine zB ?_ _ | refine zD ?_ | refine zC ?_ _)); exact BK266.out)) : gb268 ≠ gb266)); have n8_ := zA ((by rw [hg]; exact Nat.ne_of_lt (blk_lt (g := gb267) (o := .cells #[.int .i64 a1_0, .int .i64 a1_1] 26 (0, 0)) (by (with_reducible repeat (first | refine zB ?_ _ | refine zD ?_ | refine zC ?_ _)); exact BK267.out)) : gb267 ≠ gb268)); have n9_ := zA ((by rw [hg]; exact Nat.ne_of_gt (blk_lt (g := gb267) (o := .cells #[.int .i64 a1_0, .int .i64 a1_1] 26 (0, 0)) (by (with_reducible repeat (first | refine zB ?_ _ | refine zD ?_ | refine zC ?_ _)); exact BK267.out)) : gb268 ≠ gb267)); clear BK266; clear BK267; clear HB; have BK266 := n0_; have BK267 := n1_; have HB := n2_; have BK268 := n3_; have GW268 := n4_; have GE268 := n5_; have NB266_268 := n6_; have NB268_266 := n7_; have NB267_268 := n8_; have NB268_267 := n9_; clear n0_ n1_ n2_ n3_ n4_ n5_ n6_ n7_ n8_ n9_; clear hb hbox hg; have hnb17 := NB266_267.out; have hnc17 := NB267_266.out; have hnb18 := NB266_268.out; have hnc18 := NB268_266.out; have hcz19_0 : w16.cell? ⟨gb266, 0, none⟩ = some (.int .i64 a0_0) := (zJ BK266.out 0).trans rfl; have hcz19_1 : w16.cell? ⟨gb266, 1, none⟩ = some (.int .i64 a0_1) := (zJ BK266.out 1).trans rfl; have hfz19_0 := zK BK266.out 0; have hfz19_1 := zK BK266.out 1; have hnb20 := NB267_268.out; have hnc20 := NB268_267.out; have hcz21_0 : w16.cell? ⟨gb267, 0, none⟩ = some (.int .i64 a1_0) := (zJ BK267.out 0).trans rfl; have hcz21_1 : w16.cell? ⟨gb267, 1, none⟩ = some (.int .i64 a1_1) := (zJ BK267.out 1).trans rfl; have hfz21_0 := zK BK267.out 0; have hfz21_1 := zK BK267.out 1; have hcz22_0 : w16.cell? ⟨gb268, 0, none⟩ = some (.int .i64 0) := (zJ BK268.out 0).trans rfl; have hcz22_1 : w16.cell? ⟨gb268, 1, none⟩ = some (.int .i64 0) := (zJ BK268.out 1).trans rfl; have hfz22_0 := zK BK268.out 0; have hfz22_1 := zK BK268.out 1))
   refine bodyPost_ret (results_ct rfl _ _ gb268 26 #[.int .i64 a0_0, .int .i64 a0_1] (0, 0) _ rfl (by (with_reducible repeat (first | refine zB ?_ _ | refine zD ?_ | refine zC ?_ _)); refine blk_put (cs := #[.int .i64 a0_0, .int .i64 0]) ?_ 1 _ rfl; (with_reducible repeat (first | refine zB ?_ _ | refine zD ?_ | refine zC ?_ _)); refine blk_put (cs := #[.int .i64 0, .int .i64 0]) ?_ 0 _ rfl; (with_reducible repeat (first | refine zB ?_ _ | refine zD ?_ | refine zC ?_ _)); exact BK268.out) Try.underlying26 rfl (by kernel_rfl)) rfl ?_
   exact ⟨by first | rfl | (simp [errW_none, errW_some] <;> rfl) | (simp [*, errW_none, errW_some] <;> rfl), by repeat (first | (with_reducible first | exact HB.out | apply zG | apply zE | apply zF | refine zH ?_ GE266.out | refine zH ?_ GE267.out | refine zH ?_ GE268.out) | exact HB.out)⟩
  ·rw [if_neg c13] at H
   have c13b0 : (a1_0 == 0) = false := beq_eq_false_iff_ne.mpr c13
   have c13b1 : (a1_0 != 0) = true := bne_iff_ne.mpr c13
   replace H := Option.bind_eq_some_iff.mp H
   obtain ⟨t269, A230, H⟩ := H
   replace H : ((spec_l1Up.f k a0_0 (wrap64 (a0_1 - t269))).bind fun bt270 => ((spec_l1Up.f k a1_0 (wrap64 (a1_1 - t269))).bind fun bt272 => (if bt270.2 = true then (if bt272.2 = true then ((spec_l1New.f k (wrap64 (bt270.1 + bt272.1)) t269).bind fun bt274 => (some (bt274.1, bt274.2.1, bt274.2.2))) else (some (0, 0, false))) else (some (0, 0, false))))) = some (r1, r2, r3) := H
   have A23 := zA A230
   clear A230
   replace H := Option.bind_eq_some_iff.mp H
   obtain ⟨⟨t270, t271⟩, A240, H⟩ := H
   replace H : ((spec_l1Up.f k a1_0 (wrap64 (a1_1 - t269))).bind fun bt272 => (if t271 = true then (if bt272.2 = true then ((spec_l1New.f k (wrap64 (t270 + bt272.1)) t269).bind fun bt274 => (some (bt274.1, bt274.2.1, bt274.2.2))) else (some (0, 0, false))) else (some (0, 0, false)))) = some (r1, r2, r3) := H
   have A24 := zA A240
   clear A240
   replace H := Option.bind_eq_some_iff.mp H
   obtain ⟨⟨t272, t273⟩, A250, H⟩ := H
   replace H : (if t271 = true then (if t273 = true then ((spec_l1New.f k (wrap64 (t270 + t272)) t269).bind fun bt274 => (some (bt274.1, bt274.2.1, bt274.2.2))) else (some (0, 0, false))) else (some (0, 0, false))) = some (r1, r2, r3) := H
   have A25 := zA A250
   clear A250
   by_cases c26 : t271 = true
   ·subst c26
    have H1 : (if t273 = true then ((spec_l1New.f k (wrap64 (t270 + t272)) t269).bind fun bt274 => (some (bt274.1, bt274.2.1, bt274.2.2))) else (some (0, 0, false))) = some (r1, r2, r3) := by rw [if_pos rfl] at H; exact H
    clear H
    have H := H1
    clear H1
    by_cases c27 : t273 = true
    ·subst c27
     have H1 : ((spec_l1New.f k (wrap64 (t270 + t272)) t269).bind fun bt274 => (some (bt274.1, bt274.2.1, bt274.2.2))) = some (r1, r2, r3) := by rw [if_pos rfl] at H; exact H
     clear H
     have H := H1
     clear H1
     replace H := Option.bind_eq_some_iff.mp H
     obtain ⟨⟨t274, t275, t276⟩, A280, H⟩ := H
     replace H : (some (t274, t275, t276)) = some (r1, r2, r3) := H
     have A28 := zA A280
     clear A280
     simp only [Option.some.injEq, Prod.mk.injEq] at H
     obtain ⟨rfl, rfl, rfl⟩ := H
     go_enter Try.func52, Try.ntmps52
     go_wp2_with (first | ((with_reducible refine zS (N := 2) rfl ?_); refine zV ?hg (N := 2) ?hd (cs := #[.int .i64 a0_0, .int .i64 a0_1]) (t := 26) ?hr ?_; (case hd => rfl); (case hg => rfl); (case hr => first | (go_simp; done) | (go_simp; rfl)); intro gb266 hg w29 hbox hb; have n0_ := zA (zQ (by repeat (first | (with_reducible first | exact HB.out | apply zG | apply zE | apply zF) | exact HB.out)) hb); have n1_ := zA (hbox); have n2_ := zA ((by rw [hg]; exact (zR (by repeat (first | (with_reducible first | exact HB.out | apply zG | apply zE | apply zF) | exact HB.out))) : w.heap.size ≤ gb266)); have n3_ := zA ((by rw [hg]; exact (zR (by repeat (first | (with_reducible first | exact HB.out | apply zG | apply zE | apply zF) | exact HB.out))) : w.heap.size ≤ gb266)); clear HB; have HB := n0_; have BK266 := n1_; have GW266 := n2_; have GE266 := n3_; clear n0_ n1_ n2_ n3_; clear hb hbox hg) | ((with_reducible refine zS (N := 3) rfl ?_); refine zV ?hg (N := 3) ?hd (cs := #[.int .i64 a1_0, .int .i64 a1_1]) (t := 26) ?hr ?_; (case hd => rfl); (case hg => rfl); (case hr => first | (go_simp; done) | (go_simp; rfl)); intro gb267 hg w30 hbox hb; have n0_ := zA (zP (g := gb266) (o := .cells #[.int .i64 a0_0, .int .i64 a0_1] 26 (0, 0)) (by (with_reducible repeat (first | refine zB ?_ _ | refine zD ?_ | refine zC ?_ _)); exact BK266.out) hb); have n1_ := zA (zQ (by repeat (first | (with_reducible first | exact HB.out | apply zG | apply zE | apply zF | refine zH ?_ GE266.out) | exact HB.out)) hb); have n2_ := zA (hbox); have n3_ := zA ((by rw [hg]; exact (zR (by repeat (first | (with_reducible first | exact HB.out | apply zG | apply zE | apply zF | refine zH ?_ GE266.out) | exact HB.out))) : w.heap.size ≤ gb267)); have n4_ := zA ((by rw [hg]; exact (zR (by repeat (first | (with_reducible first | exact HB.out | apply zG | apply zE | apply zF | refine zH ?_ GE266.out) | exact HB.out))) : w.heap.size ≤ gb267)); have n5_ := zA ((by rw [hg]; exact Nat.ne_of_lt (blk_lt (g := gb266) (o := .cells #[.int .i64 a0_0, .int .i64 a0_1] 26 (0, 0)) (by (with_reducible repeat (first | refine zB ?_ _ | refine zD ?_ | refine zC ?_ _)); exact BK266.out)) : gb266 ≠ gb267)); have n6_ := zA ((by rw [hg]; exact Nat.ne_of_gt (blk_lt (g := gb266) (o := .cells #[.int .i64 a0_0, .int .i64 a0_1] 26 (0, 0)) (by (with_reducible repeat (first | refine zB ?_ _ | refine zD ?_ | refine zC ?_ _)); exact BK266.out)) : gb267 ≠ gb266)); clear BK266; clear HB; have BK266 := n0_; have HB := n1_; have BK267 := n2_; have GW267 := n3_; have GE267 := n4_; have NB266_267 := n5_; have NB267_266 := n6_; clear n0_ n1_ n2_ n3_ n4_ n5_ n6_; clear hb hbox hg) | ((with_reducible refine zS (N := 4) rfl ?_); refine zV ?hg (N := 4) ?hd (cs := #[.int .i64 0, .int .i64 0]) (t := 26) ?hr ?_; (case hd => rfl); (case hg => rfl); (case hr => first | (go_simp; done) | (go_simp; rfl)); intro gb268 hg w31 hbox hb; have n0_ := zA (zP (g := gb266) (o := .cells #[.int .i64 a0_0, .int .i64 a0_1] 26 (0, 0)) (by (with_reducible repeat (first | refine zB ?_ _ | refine zD ?_ | refine zC ?_ _)); exact BK266.out) hb); have n1_ := zA (zP (g := gb267) (o := .cells #[.int .i64 a1_0, .int .i64 a1_1] 26 (0, 0)) (by (with_reducible repeat (first | refine zB ?_ _ | refine zD ?_ | refine zC ?_ _)); exact BK267.out) hb); have n2_ := zA (zQ (by repeat (first | (with_reducible first | exact HB.out | apply zG | apply zE | apply zF | refine zH ?_ GE266.out | refine zH ?_ GE267.out) | exact HB.out)) hb); have n3_ := zA (hbox); have n4_ := zA ((by rw [hg]; exact (zR (by repeat (first | (with_reducible first | exact HB.out | apply zG | apply zE | apply zF | refine zH ?_ GE266.out | refine zH ?_ GE267.out) | exact HB.out))) : w.heap.size ≤ gb268)); have n5_ := zA ((by rw [hg]; exact (zR (by repeat (first | (with_reducible first | exact HB.out | apply zG | apply zE | apply zF | refine zH ?_ GE266.out | refine zH ?_ GE267.out) | exact HB.out))) : w.heap.size ≤ gb268)); have n6_ := zA ((by rw [hg]; exact Nat.ne_of_lt (blk_lt (g := gb266) (o := .cells #[.int .i64 a0_0, .int .i64 a0_1] 26 (0, 0)) (by (with_reducible repeat (first | refine zB ?_ _ | refine zD ?_ | refine zC ?_ _)); exact BK266.out)) : gb266 ≠ gb268)); have n7_ := zA ((by rw [hg]; exact Nat.ne_of_gt (blk_lt (g := gb266) (o := .cells #[.int .i64 a0_0, .int .i64 a0_1] 26 (0, 0)) (by (with_reducible repeat (first | refine zB ?_ _ | refine zD ?_ | refine zC ?_ _)); exact BK266.out)) : gb268 ≠ gb266)); have n8_ := zA ((by rw [hg]; exact Nat.ne_of_lt (blk_lt (g := gb267) (o := .cells #[.int .i64 a1_0, .int .i64 a1_1] 26 (0, 0)) (by (with_reducible repeat (first | refine zB ?_ _ | refine zD ?_ | refine zC ?_ _)); exact BK267.out)) : gb267 ≠ gb268)); have n9_ := zA ((by rw [hg]; exact Nat.ne_of_gt (blk_lt (g := gb267) (o := .cells #[.int .i64 a1_0, .int .i64 a1_1] 26 (0, 0)) (by (with_reducible repeat (first | refine zB ?_ _ | refine zD ?_ | refine zC ?_ _)); exact BK267.out)) : gb268 ≠ gb267)); clear BK266; clear BK267; clear HB; have BK266 := n0_; have BK267 := n1_; have HB := n2_; have BK268 := n3_; have GW268 := n4_; have GE268 := n5_; have NB266_268 := n6_; have NB268_266 := n7_; have NB267_268 := n8_; have NB268_267 := n9_; clear n0_ n1_ n2_ n3_ n4_ n5_ n6_ n7_ n8_ n9_; clear hb hbox hg; have hnb32 := NB266_267.out; have hnc32 := NB267_266.out; have hnb33 := NB266_268.out; have hnc33 := NB268_266.out; have hcz34_0 : w31.cell? ⟨gb266, 0, none⟩ = some (.int .i64 a0_0) := (zJ BK266.out 0).trans rfl; have hcz34_1 : w31.cell? ⟨gb266, 1, none⟩ = some (.int .i64 a0_1) := (zJ BK266.out 1).trans rfl; have hfz34_0 := zK BK266.out 0; have hfz34_1 := zK BK266.out 1; have hnb35 := NB267_268.out; have hnc35 := NB268_267.out; have hcz36_0 : w31.cell? ⟨gb267, 0, none⟩ = some (.int .i64 a1_0) := (zJ BK267.out 0).trans rfl; have hcz36_1 : w31.cell? ⟨gb267, 1, none⟩ = some (.int .i64 a1_1) := (zJ BK267.out 1).trans rfl; have hfz36_0 := zK BK267.out 0; have hfz36_1 := zK BK267.out 1) | ((with_reducible refine zT (f := 66) rfl ?_); refine goesL_ (some 23) rfl rfl Try.func66 (by kernel_rfl) rfl #[.int .i64 a0_1, .int .i64 a1_1] rfl (by (try simp only [zW, yA, yB]); first | done | rfl | (simp only [zX, zZ]; rfl)) ?_; (with_reducible refine (spec_l1Least.calls a0_1 a1_1 t269 _ A23.out).mono ?_); rintro e w' ⟨rfl, ⟨nd, rfl⟩⟩; refine ⟨_, rfl, ?_⟩; (try ((repeat rw [World.drewN_drewN]); rw [drewN_self w31]; generalize hq_ : World.drewN w31 _ = w31; have n0_ : Aside0 (w31.heap[gb266]? = some (.cells #[.int .i64 a0_0, .int .i64 a0_1] 26 (0, 0))) := ⟨by rw [← hq_]; exact (by (with_reducible repeat (first | refine zB ?_ _ | refine zD ?_ | refine zC ?_ _)); exact BK266.out)⟩; have n1_ : Aside0 (w31.heap[gb267]? = some (.cells #[.int .i64 a1_0, .int .i64 a1_1] 26 (0, 0))) := ⟨by rw [← hq_]; exact (by (with_reducible repeat (first | refine zB ?_ _ | refine zD ?_ | refine zC ?_ _)); exact BK267.out)⟩; have n2_ : Aside0 (w31.heap[gb268]? = some (.cells #[.int .i64 0, .int .i64 0] 26 (0, 0))) := ⟨by rw [← hq_]; exact (by (with_reducible repeat (first | refine zB ?_ _ | refine zD ?_ | refine zC ?_ _)); exact BK268.out)⟩; have n3_ : Aside0 (Below w.heap.size w w31) := ⟨by rw [← hq_]; exact (by repeat (first | (with_reducible first | exact HB.out | apply zG | apply zE | apply zF | refine zH ?_ GE266.out | refine zH ?_ GE267.out | refine zH ?_ GE268.out) | exact HB.out))⟩; clear BK266 BK267 BK268 HB hq_; have BK266 := n0_; have BK267 := n1_; have BK268 := n2_; have HB := n3_; clear n0_ n1_ n2_ n3_)); (try (have hcu37_0 : w31.cell? ⟨gb266, 0, none⟩ = some (.int .i64 a0_0) := (zJ BK266.out 0).trans rfl; have hfu37_0 := zK BK266.out 0)); (try (have hcu37_1 : w31.cell? ⟨gb266, 1, none⟩ = some (.int .i64 a0_1) := (zJ BK266.out 1).trans rfl; have hfu37_1 := zK BK266.out 1)); (try (have hcu38_0 : w31.cell? ⟨gb267, 0, none⟩ = some (.int .i64 a1_0) := (zJ BK267.out 0).trans rfl; have hfu38_0 := zK BK267.out 0)); (try (have hcu38_1 : w31.cell? ⟨gb267, 1, none⟩ = some (.int .i64 a1_1) := (zJ BK267.out 1).trans rfl; have hfu38_1 := zK BK267.out 1)); (try (have hcu39_0 : w31.cell? ⟨gb268, 0, none⟩ = some (.int .i64 0) := (zJ BK268.out 0).trans rfl; have hfu39_0 := zK BK268.out 0)); (try (have hcu39_1 : w31.cell? ⟨gb268, 1, none⟩ = some (.int .i64 0) := (zJ BK268.out 1).trans rfl; have hfu39_1 := zK BK268.out 1))) | ((with_reducible refine zT (f := 67) rfl ?_); refine goesL_ (some 31) rfl rfl Try.func67 (by kernel_rfl) rfl #[.int .i64 a0_0, .int .i64 (wrap64 (a0_1 - t269))] rfl (by (try simp only [zW, yA, yB]); first | done | rfl | (simp only [zX, zZ]; rfl)) ?_; (with_reducible refine (spec_l1Up.calls k a0_0 (wrap64 (a0_1 - t269)) t270 true _ A24.out).mono ?_); rintro e w' ⟨rfl, ⟨nd, rfl⟩⟩; refine ⟨_, rfl, ?_⟩; (try ((repeat rw [World.drewN_drewN]); rw [drewN_self w31]; generalize hq_ : World.drewN w31 _ = w31; have n0_ : Aside0 (w31.heap[gb266]? = some (.cells #[.int .i64 a0_0, .int .i64 a0_1] 26 (0, 0))) := ⟨by rw [← hq_]; exact (by (with_reducible repeat (first | refine zB ?_ _ | refine zD ?_ | refine zC ?_ _)); exact BK266.out)⟩; have n1_ : Aside0 (w31.heap[gb267]? = some (.cells #[.int .i64 a1_0, .int .i64 a1_1] 26 (0, 0))) := ⟨by rw [← hq_]; exact (by (with_reducible repeat (first | refine zB ?_ _ | refine zD ?_ | refine zC ?_ _)); exact BK267.out)⟩; have n2_ : Aside0 (w31.heap[gb268]? = some (.cells #[.int .i64 0, .int .i64 0] 26 (0, 0))) := ⟨by rw [← hq_]; exact (by (with_reducible repeat (first | refine zB ?_ _ | refine zD ?_ | refine zC ?_ _)); exact BK268.out)⟩; have n3_ : Aside0 (Below w.heap.size w w31) := ⟨by rw [← hq_]; exact (by repeat (first | (with_reducible first | exact HB.out | apply zG | apply zE | apply zF | refine zH ?_ GE266.out | refine zH ?_ GE267.out | refine zH ?_ GE268.out) | exact HB.out))⟩; clear BK266 BK267 BK268 HB hq_; have BK266 := n0_; have BK267 := n1_; have BK268 := n2_; have HB := n3_; clear n0_ n1_ n2_ n3_)); (try (have hcu40_0 : w31.cell? ⟨gb266, 0, none⟩ = some (.int .i64 a0_0) := (zJ BK266.out 0).trans rfl; have hfu40_0 := zK BK266.out 0)); (try (have hcu40_1 : w31.cell? ⟨gb266, 1, none⟩ = some (.int .i64 a0_1) := (zJ BK266.out 1).trans rfl; have hfu40_1 := zK BK266.out 1)); (try (have hcu41_0 : w31.cell? ⟨gb267, 0, none⟩ = some (.int .i64 a1_0) := (zJ BK267.out 0).trans rfl; have hfu41_0 := zK BK267.out 0)); (try (have hcu41_1 : w31.cell? ⟨gb267, 1, none⟩ = some (.int .i64 a1_1) := (zJ BK267.out 1).trans rfl; have hfu41_1 := zK BK267.out 1)); (try (have hcu42_0 : w31.cell? ⟨gb268, 0, none⟩ = some (.int .i64 0) := (zJ BK268.out 0).trans rfl; have hfu42_0 := zK BK268.out 0)); (try (have hcu42_1 : w31.cell? ⟨gb268, 1, none⟩ = some (.int .i64 0) := (zJ BK268.out 1).trans rfl; have hfu42_1 := zK BK268.out 1))) | ((with_reducible refine zT (f := 67) rfl ?_); refine goesL_ (some 41) rfl rfl Try.func67 (by kernel_rfl) rfl #[.int .i64 a1_0, .int .i64 (wrap64 (a1_1 - t269))] rfl (by (try simp only [zW, yA, yB]); first | done | rfl | (simp only [zX, zZ]; rfl)) ?_; (with_reducible refine (spec_l1Up.calls k a1_0 (wrap64 (a1_1 - t269)) t272 true _ A25.out).mono ?_); rintro e w' ⟨rfl, ⟨nd, rfl⟩⟩; refine ⟨_, rfl, ?_⟩; (try ((repeat rw [World.drewN_drewN]); rw [drewN_self w31]; generalize hq_ : World.drewN w31 _ = w31; have n0_ : Aside0 (w31.heap[gb266]? = some (.cells #[.int .i64 a0_0, .int .i64 a0_1] 26 (0, 0))) := ⟨by rw [← hq_]; exact (by (with_reducible repeat (first | refine zB ?_ _ | refine zD ?_ | refine zC ?_ _)); exact BK266.out)⟩; have n1_ : Aside0 (w31.heap[gb267]? = some (.cells #[.int .i64 a1_0, .int .i64 a1_1] 26 (0, 0))) := ⟨by rw [← hq_]; exact (by (with_reducible repeat (first | refine zB ?_ _ | refine zD ?_ | refine zC ?_ _)); exact BK267.out)⟩; have n2_ : Aside0 (w31.heap[gb268]? = some (.cells #[.int .i64 0, .int .i64 0] 26 (0, 0))) := ⟨by rw [← hq_]; exact (by (with_reducible repeat (first | refine zB ?_ _ | refine zD ?_ | refine zC ?_ _)); exact BK268.out)⟩; have n3_ : Aside0 (Below w.heap.size w w31) := ⟨by rw [← hq_]; exact (by repeat (first | (with_reducible first | exact HB.out | apply zG | apply zE | apply zF | refine zH ?_ GE266.out | refine zH ?_ GE267.out | refine zH ?_ GE268.out) | exact HB.out))⟩; clear BK266 BK267 BK268 HB hq_; have BK266 := n0_; have BK267 := n1_; have BK268 := n2_; have HB := n3_; clear n0_ n1_ n2_ n3_)); (try (have hcu43_0 : w31.cell? ⟨gb266, 0, none⟩ = some (.int .i64 a0_0) := (zJ BK266.out 0).trans rfl; have hfu43_0 := zK BK266.out 0)); (try (have hcu43_1 : w31.cell? ⟨gb266, 1, none⟩ = some (.int .i64 a0_1) := (zJ BK266.out 1).trans rfl; have hfu43_1 := zK BK266.out 1)); (try (have hcu44_0 : w31.cell? ⟨gb267, 0, none⟩ = some (.int .i64 a1_0) := (zJ BK267.out 0).trans rfl; have hfu44_0 := zK BK267.out 0)); (try (have hcu44_1 : w31.cell? ⟨gb267, 1, none⟩ = some (.int .i64 a1_1) := (zJ BK267.out 1).trans rfl; have hfu44_1 := zK BK267.out 1)); (try (have hcu45_0 : w31.cell? ⟨gb268, 0, none⟩ = some (.int .i64 0) := (zJ BK268.out 0).trans rfl; have hfu45_0 := zK BK268.out 0)); (try (have hcu45_1 : w31.cell? ⟨gb268, 1, none⟩ = some (.int .i64 0) := (zJ BK268.out 1).trans rfl; have hfu45_1 := zK BK268.out 1))) | ((with_reducible refine zT (f := 49) rfl ?_); refine goesL_ (some 55) rfl rfl Try.func49 (by kernel_rfl) rfl #[.int .i64 (wrap64 (t270 + t272)), .int .i64 t269] rfl (by (try simp only [zW, yA, yB]); first | done | rfl | (simp only [zX, zZ]; rfl)) ?_; (with_reducible refine (spec_l1New.calls k (wrap64 (t270 + t272)) t269 t274 t275 t276 _ A28.out).mono ?_); rintro e w46 ⟨rfl, hb⟩; refine ⟨_, rfl, ?_⟩; have n0_ := zA (zP (g := gb266) (o := .cells #[.int .i64 a0_0, .int .i64 a0_1] 26 (0, 0)) (by (with_reducible repeat (first | refine zB ?_ _ | refine zD ?_ | refine zC ?_ _)); exact BK266.out) hb); have n1_ := zA (zP (g := gb267) (o := .cells #[.int .i64 a1_0, .int .i64 a1_1] 26 (0, 0)) (by (with_reducible repeat (first | refine zB ?_ _ | refine zD ?_ | refine zC ?_ _)); exact BK267.out) hb); have n2_ := zA (zP (g := gb268) (o := .cells #[.int .i64 0, .int .i64 0] 26 (0, 0)) (by (with_reducible repeat (first | refine zB ?_ _ | refine zD ?_ | refine zC ?_ _)); exact BK268.out) hb); have n3_ := zA (zQ (by repeat (first | (with_reducible first | exact HB.out | apply zG | apply zE | apply zF | refine zH ?_ GE266.out | refine zH ?_ GE267.out | refine zH ?_ GE268.out) | exact HB.out)) hb); clear BK266; clear BK267; clear BK268; clear HB; have BK266 := n0_; have BK267 := n1_; have BK268 := n2_; have HB := n3_; clear n0_ n1_ n2_ n3_; (try clear hb); (try clear hb2); (try clear hk); (try clear hi); have hcz47_0 : w46.cell? ⟨gb268, 0, none⟩ = some (.int .i64 0) := (zJ BK268.out 0).trans rfl; have hcz47_1 : w46.cell? ⟨gb268, 1, none⟩ = some (.int .i64 0) := (zJ BK268.out 1).trans rfl; have hfz47_0 := zK BK268.out 0; have hfz47_1 := zK BK268.out 1))
     refine bodyPost_ret (results_ct rfl _ _ gb268 26 #[.int .i64 t274, .int .i64 t275] (0, 0) _ rfl (by (with_reducible repeat (first | refine zB ?_ _ | refine zD ?_ | refine zC ?_ _)); refine blk_put (cs := #[.int .i64 t274, .int .i64 0]) ?_ 1 _ rfl; (with_reducible repeat (first | refine zB ?_ _ | refine zD ?_ | refine zC ?_ _)); refine blk_put (cs := #[.int .i64 0, .int .i64 0]) ?_ 0 _ rfl; (with_reducible repeat (first | refine zB ?_ _ | refine zD ?_ | refine zC ?_ _)); exact BK268.out) Try.underlying26 rfl (by kernel_rfl)) rfl ?_
     exact ⟨by first | rfl | (simp [errW_none, errW_some] <;> rfl) | (simp [*, errW_none, errW_some] <;> rfl), by repeat (first | (with_reducible first | exact HB.out | apply zG | apply zE | apply zF | refine zH ?_ GE266.out | refine zH ?_ GE267.out | refine zH ?_ GE268.out) | exact HB.out)⟩
    ·replace c27 := Bool.eq_false_iff.mpr c27
     subst c27
     have H1 : (some (0, 0, false)) = some (r1, r2, r3) := by rw [if_neg (show ¬ (false = true) by decide)] at H; exact H
     clear H
     have H := H1
     clear H1
     simp only [Option.some.injEq, Prod.mk.injEq] at H
     obtain ⟨rfl, rfl, rfl⟩ := H
     go_enter Try.func52, Try.ntmps52
     go_wp2_with (first | ((with_reducible refine zS (N := 2) rfl ?_); refine zV ?hg (N := 2) ?hd (cs := #[.int .i64 a0_0, .int .i64 a0_1]) (t := 26) ?hr ?_; (case hd => rfl); (case hg => rfl); (case hr => first | (go_simp; done) | (go_simp; rfl)); intro gb266 hg w48 hbox hb; have n0_ := zA (zQ (by repeat (first | (with_reducible first | exact HB.out | apply zG | apply zE | apply zF) | exact HB.out)) hb); have n1_ := zA (hbox); have n2_ := zA ((by rw [hg]; exact (zR (by repeat (first | (with_reducible first | exact HB.out | apply zG | apply zE | apply zF) | exact HB.out))) : w.heap.size ≤ gb266)); have n3_ := zA ((by rw [hg]; exact (zR (by repeat (first | (with_reducible first | exact HB.out | apply zG | apply zE | apply zF) | exact HB.out))) : w.heap.size ≤ gb266)); clear HB; have HB := n0_; have BK266 := n1_; have GW266 := n2_; have GE266 := n3_; clear n0_ n1_ n2_ n3_; clear hb hbox hg) | ((with_reducible refine zS (N := 3) rfl ?_); refine zV ?hg (N := 3) ?hd (cs := #[.int .i64 a1_0, .int .i64 a1_1]) (t := 26) ?hr ?_; (case hd => rfl); (case hg => rfl); (case hr => first | (go_simp; done) | (go_simp; rfl)); intro gb267 hg w49 hbox hb; have n0_ := zA (zP (g := gb266) (o := .cells #[.int .i64 a0_0, .int .i64 a0_1] 26 (0, 0)) (by (with_reducible repeat (first | refine zB ?_ _ | refine zD ?_ | refine zC ?_ _)); exact BK266.out) hb); have n1_ := zA (zQ (by repeat (first | (with_reducible first | exact HB.out | apply zG | apply zE | apply zF | refine zH ?_ GE266.out) | exact HB.out)) hb); have n2_ := zA (hbox); have n3_ := zA ((by rw [hg]; exact (zR (by repeat (first | (with_reducible first | exact HB.out | apply zG | apply zE | apply zF | refine zH ?_ GE266.out) | exact HB.out))) : w.heap.size ≤ gb267)); have n4_ := zA ((by rw [hg]; exact (zR (by repeat (first | (with_reducible first | exact HB.out | apply zG | apply zE | apply zF | refine zH ?_ GE266.out) | exact HB.out))) : w.heap.size ≤ gb267)); have n5_ := zA ((by rw [hg]; exact Nat.ne_of_lt (blk_lt (g := gb266) (o := .cells #[.int .i64 a0_0, .int .i64 a0_1] 26 (0, 0)) (by (with_reducible repeat (first | refine zB ?_ _ | refine zD ?_ | refine zC ?_ _)); exact BK266.out)) : gb266 ≠ gb267)); have n6_ := zA ((by rw [hg]; exact Nat.ne_of_gt (blk_lt (g := gb266) (o := .cells #[.int .i64 a0_0, .int .i64 a0_1] 26 (0, 0)) (by (with_reducible repeat (first | refine zB ?_ _ | refine zD ?_ | refine zC ?_ _)); exact BK266.out)) : gb267 ≠ gb266)); clear BK266; clear HB; have BK266 := n0_; have HB := n1_; have BK267 := n2_; have GW267 := n3_; have GE267 := n4_; have NB266_267 := n5_; have NB267_266 := n6_; clear n0_ n1_ n2_ n3_ n4_ n5_ n6_; clear hb hbox hg) | ((with_reducible refine zS (N := 4) rfl ?_); refine zV ?hg (N := 4) ?hd (cs := #[.int .i64 0, .int .i64 0]) (t := 26) ?hr ?_; (case hd => rfl); (case hg => rfl); (case hr => first | (go_simp; done) | (go_simp; rfl)); intro gb268 hg w50 hbox hb; have n0_ := zA (zP (g := gb266) (o := .cells #[.int .i64 a0_0, .int .i64 a0_1] 26 (0, 0)) (by (with_reducible repeat (first | refine zB ?_ _ | refine zD ?_ | refine zC ?_ _)); exact BK266.out) hb); have n1_ := zA (zP (g := gb267) (o := .cells #[.int .i64 a1_0, .int .i64 a1_1] 26 (0, 0)) (by (with_reducible repeat (first | refine zB ?_ _ | refine zD ?_ | refine zC ?_ _)); exact BK267.out) hb); have n2_ := zA (zQ (by repeat (first | (with_reducible first | exact HB.out | apply zG | apply zE | apply zF | refine zH ?_ GE266.out | refine zH ?_ GE267.out) | exact HB.out)) hb); have n3_ := zA (hbox); have n4_ := zA ((by rw [hg]; exact (zR (by repeat (first | (with_reducible first | exact HB.out | apply zG | apply zE | apply zF | refine zH ?_ GE266.out | refine zH ?_ GE267.out) | exact HB.out))) : w.heap.size ≤ gb268)); have n5_ := zA ((by rw [hg]; exact (zR (by repeat (first | (with_reducible first | exact HB.out | apply zG | apply zE | apply zF | refine zH ?_ GE266.out | refine zH ?_ GE267.out) | exact HB.out))) : w.heap.size ≤ gb268)); have n6_ := zA ((by rw [hg]; exact Nat.ne_of_lt (blk_lt (g := gb266) (o := .cells #[.int .i64 a0_0, .int .i64 a0_1] 26 (0, 0)) (by (with_reducible repeat (first | refine zB ?_ _ | refine zD ?_ | refine zC ?_ _)); exact BK266.out)) : gb266 ≠ gb268)); have n7_ := zA ((by rw [hg]; exact Nat.ne_of_gt (blk_lt (g := gb266) (o := .cells #[.int .i64 a0_0, .int .i64 a0_1] 26 (0, 0)) (by (with_reducible repeat (first | refine zB ?_ _ | refine zD ?_ | refine zC ?_ _)); exact BK266.out)) : gb268 ≠ gb266)); have n8_ := zA ((by rw [hg]; exact Nat.ne_of_lt (blk_lt (g := gb267) (o := .cells #[.int .i64 a1_0, .int .i64 a1_1] 26 (0, 0)) (by (with_reducible repeat (first | refine zB ?_ _ | refine zD ?_ | refine zC ?_ _)); exact BK267.out)) : gb267 ≠ gb268)); have n9_ := zA ((by rw [hg]; exact Nat.ne_of_gt (blk_lt (g := gb267) (o := .cells #[.int .i64 a1_0, .int .i64 a1_1] 26 (0, 0)) (by (with_reducible repeat (first | refine zB ?_ _ | refine zD ?_ | refine zC ?_ _)); exact BK267.out)) : gb268 ≠ gb267)); clear BK266; clear BK267; clear HB; have BK266 := n0_; have BK267 := n1_; have HB := n2_; have BK268 := n3_; have GW268 := n4_; have GE268 := n5_; have NB266_268 := n6_; have NB268_266 := n7_; have NB267_268 := n8_; have NB268_267 := n9_; clear n0_ n1_ n2_ n3_ n4_ n5_ n6_ n7_ n8_ n9_; clear hb hbox hg; have hnb51 := NB266_267.out; have hnc51 := NB267_266.out; have hnb52 := NB266_268.out; have hnc52 := NB268_266.out; have hcz53_0 : w50.cell? ⟨gb266, 0, none⟩ = some (.int .i64 a0_0) := (zJ BK266.out 0).trans rfl; have hcz53_1 : w50.cell? ⟨gb266, 1, none⟩ = some (.int .i64 a0_1) := (zJ BK266.out 1).trans rfl; have hfz53_0 := zK BK266.out 0; have hfz53_1 := zK BK266.out 1; have hnb54 := NB267_268.out; have hnc54 := NB268_267.out; have hcz55_0 : w50.cell? ⟨gb267, 0, none⟩ = some (.int .i64 a1_0) := (zJ BK267.out 0).trans rfl; have hcz55_1 : w50.cell? ⟨gb267, 1, none⟩ = some (.int .i64 a1_1) := (zJ BK267.out 1).trans rfl; have hfz55_0 := zK BK267.out 0; have hfz55_1 := zK BK267.out 1) | ((with_reducible refine zT (f := 66) rfl ?_); refine goesL_ (some 23) rfl rfl Try.func66 (by kernel_rfl) rfl #[.int .i64 a0_1, .int .i64 a1_1] rfl (by (try simp only [zW, yA, yB]); first | done | rfl | (simp only [zX, zZ]; rfl)) ?_; (with_reducible refine (spec_l1Least.calls a0_1 a1_1 t269 _ A23.out).mono ?_); rintro e w' ⟨rfl, ⟨nd, rfl⟩⟩; refine ⟨_, rfl, ?_⟩; (try ((repeat rw [World.drewN_drewN]); rw [drewN_self w50]; generalize hq_ : World.drewN w50 _ = w50; have n0_ : Aside0 (w50.heap[gb266]? = some (.cells #[.int .i64 a0_0, .int .i64 a0_1] 26 (0, 0))) := ⟨by rw [← hq_]; exact (by (with_reducible repeat (first | refine zB ?_ _ | refine zD ?_ | refine zC ?_ _)); exact BK266.out)⟩; have n1_ : Aside0 (w50.heap[gb267]? = some (.cells #[.int .i64 a1_0, .int .i64 a1_1] 26 (0, 0))) := ⟨by rw [← hq_]; exact (by (with_reducible repeat (first | refine zB ?_ _ | refine zD ?_ | refine zC ?_ _)); exact BK267.out)⟩; have n2_ : Aside0 (w50.heap[gb268]? = some (.cells #[.int .i64 0, .int .i64 0] 26 (0, 0))) := ⟨by rw [← hq_]; exact (by (with_reducible repeat (first | refine zB ?_ _ | refine zD ?_ | refine zC ?_ _)); exact BK268.out)⟩; have n3_ : Aside0 (Below w.heap.size w w50) := ⟨by rw [← hq_]; exact (by repeat (first | (with_reducible first | exact HB.out | apply zG | apply zE | apply zF | refine zH ?_ GE266.out | refine zH ?_ GE267.out | refine zH ?_ GE268.out) | exact HB.out))⟩; clear BK266 BK267 BK268 HB hq_; have BK266 := n0_; have BK267 := n1_; have BK268 := n2_; have HB := n3_; clear n0_ n1_ n2_ n3_)); (try (have hcu56_0 : w50.cell? ⟨gb266, 0, none⟩ = some (.int .i64 a0_0) := (zJ BK266.out 0).trans rfl; have hfu56_0 := zK BK266.out 0)); (try (have hcu56_1 : w50.cell? ⟨gb266, 1, none⟩ = some (.int .i64 a0_1) := (zJ BK266.out 1).trans rfl; have hfu56_1 := zK BK266.out 1)); (try (have hcu57_0 : w50.cell? ⟨gb267, 0, none⟩ = some (.int .i64 a1_0) := (zJ BK267.out 0).trans rfl; have hfu57_0 := zK BK267.out 0)); (try (have hcu57_1 : w50.cell? ⟨gb267, 1, none⟩ = some (.int .i64 a1_1) := (zJ BK267.out 1).trans rfl; have hfu57_1 := zK BK267.out 1)); (try (have hcu58_0 : w50.cell? ⟨gb268, 0, none⟩ = some (.int .i64 0) := (zJ BK268.out 0).trans rfl; have hfu58_0 := zK BK268.out 0)); (try (have hcu58_1 : w50.cell? ⟨gb268, 1, none⟩ = some (.int .i64 0) := (zJ BK268.out 1).trans rfl; have hfu58_1 := zK BK268.out 1))) | ((with_reducible refine zT (f := 67) rfl ?_); refine goesL_ (some 31) rfl rfl Try.func67 (by kernel_rfl) rfl #[.int .i64 a0_0, .int .i64 (wrap64 (a0_1 - t269))] rfl (by (try simp only [zW, yA, yB]); first | done | rfl | (simp only [zX, zZ]; rfl)) ?_; (with_reducible refine (spec_l1Up.calls k a0_0 (wrap64 (a0_1 - t269)) t270 true _ A24.out).mono ?_); rintro e w' ⟨rfl, ⟨nd, rfl⟩⟩; refine ⟨_, rfl, ?_⟩; (try ((repeat rw [World.drewN_drewN]); rw [drewN_self w50]; generalize hq_ : World.drewN w50 _ = w50; have n0_ : Aside0 (w50.heap[gb266]? = some (.cells #[.int .i64 a0_0, .int .i64 a0_1] 26 (0, 0))) := ⟨by rw [← hq_]; exact (by (with_reducible repeat (first | refine zB ?_ _ | refine zD ?_ | refine zC ?_ _)); exact BK266.out)⟩; have n1_ : Aside0 (w50.heap[gb267]? = some (.cells #[.int .i64 a1_0, .int .i64 a1_1] 26 (0, 0))) := ⟨by rw [← hq_]; exact (by (with_reducible repeat (first | refine zB ?_ _ | refine zD ?_ | refine zC ?_ _)); exact BK267.out)⟩; have n2_ : Aside0 (w50.heap[gb268]? = some (.cells #[.int .i64 0, .int .i64 0] 26 (0, 0))) := ⟨by rw [← hq_]; exact (by (with_reducible repeat (first | refine zB ?_ _ | refine zD ?_ | refine zC ?_ _)); exact BK268.out)⟩; have n3_ : Aside0 (Below w.heap.size w w50) := ⟨by rw [← hq_]; exact (by repeat (first | (with_reducible first | exact HB.out | apply zG | apply zE | apply zF | refine zH ?_ GE266.out | refine zH ?_ GE267.out | refine zH ?_ GE268.out) | exact HB.out))⟩; clear BK266 BK267 BK268 HB hq_; have BK266 := n0_; have BK267 := n1_; have BK268 := n2_; have HB := n3_; clear n0_ n1_ n2_ n3_)); (try (have hcu59_0 : w50.cell? ⟨gb266, 0, none⟩ = some (.int .i64 a0_0) := (zJ BK266.out 0).trans rfl; have hfu59_0 := zK BK266.out 0)); (try (have hcu59_1 : w50.cell? ⟨gb266, 1, none⟩ = some (.int .i64 a0_1) := (zJ BK266.out 1).trans rfl; have hfu59_1 := zK BK266.out 1)); (try (have hcu60_0 : w50.cell? ⟨gb267, 0, none⟩ = some (.int .i64 a1_0) := (zJ BK267.out 0).trans rfl; have hfu60_0 := zK BK267.out 0)); (try (have hcu60_1 : w50.cell? ⟨gb267, 1, none⟩ = some (.int .i64 a1_1) := (zJ BK267.out 1).trans rfl; have hfu60_1 := zK BK267.out 1)); (try (have hcu61_0 : w50.cell? ⟨gb268, 0, none⟩ = some (.int .i64 0) := (zJ BK268.out 0).trans rfl; have hfu61_0 := zK BK268.out 0)); (try (have hcu61_1 : w50.cell? ⟨gb268, 1, none⟩ = some (.int .i64 0) := (zJ BK268.out 1).trans rfl; have hfu61_1 := zK BK268.out 1))) | ((with_reducible refine zT (f := 67) rfl ?_); refine goesL_ (some 41) rfl rfl Try.func67 (by kernel_rfl) rfl #[.int .i64 a1_0, .int .i64 (wrap64 (a1_1 - t269))] rfl (by (try simp only [zW, yA, yB]); first | done | rfl | (simp only [zX, zZ]; rfl)) ?_; (with_reducible refine (spec_l1Up.calls k a1_0 (wrap64 (a1_1 - t269)) t272 false _ A25.out).mono ?_); rintro e w' ⟨rfl, ⟨nd, rfl⟩⟩; refine ⟨_, rfl, ?_⟩; (try ((repeat rw [World.drewN_drewN]); rw [drewN_self w50]; generalize hq_ : World.drewN w50 _ = w50; have n0_ : Aside0 (w50.heap[gb266]? = some (.cells #[.int .i64 a0_0, .int .i64 a0_1] 26 (0, 0))) := ⟨by rw [← hq_]; exact (by (with_reducible repeat (first | refine zB ?_ _ | refine zD ?_ | refine zC ?_ _)); exact BK266.out)⟩; have n1_ : Aside0 (w50.heap[gb267]? = some (.cells #[.int .i64 a1_0, .int .i64 a1_1] 26 (0, 0))) := ⟨by rw [← hq_]; exact (by (with_reducible repeat (first | refine zB ?_ _ | refine zD ?_ | refine zC ?_ _)); exact BK267.out)⟩; have n2_ : Aside0 (w50.heap[gb268]? = some (.cells #[.int .i64 0, .int .i64 0] 26 (0, 0))) := ⟨by rw [← hq_]; exact (by (with_reducible repeat (first | refine zB ?_ _ | refine zD ?_ | refine zC ?_ _)); exact BK268.out)⟩; have n3_ : Aside0 (Below w.heap.size w w50) := ⟨by rw [← hq_]; exact (by repeat (first | (with_reducible first | exact HB.out | apply zG | apply zE | apply zF | refine zH ?_ GE266.out | refine zH ?_ GE267.out | refine zH ?_ GE268.out) | exact HB.out))⟩; clear BK266 BK267 BK268 HB hq_; have BK266 := n0_; have BK267 := n1_; have BK268 := n2_; have HB := n3_; clear n0_ n1_ n2_ n3_)); (try (have hcu62_0 : w50.cell? ⟨gb266, 0, none⟩ = some (.int .i64 a0_0) := (zJ BK266.out 0).trans rfl; have hfu62_0 := zK BK266.out 0)); (try (have hcu62_1 : w50.cell? ⟨gb266, 1, none⟩ = some (.int .i64 a0_1) := (zJ BK266.out 1).trans rfl; have hfu62_1 := zK BK266.out 1)); (try (have hcu63_0 : w50.cell? ⟨gb267, 0, none⟩ = some (.int .i64 a1_0) := (zJ BK267.out 0).trans rfl; have hfu63_0 := zK BK267.out 0)); (try (have hcu63_1 : w50.cell? ⟨gb267, 1, none⟩ = some (.int .i64 a1_1) := (zJ BK267.out 1).trans rfl; have hfu63_1 := zK BK267.out 1)); (try (have hcu64_0 : w50.cell? ⟨gb268, 0, none⟩ = some (.int .i64 0) := (zJ BK268.out 0).trans rfl; have hfu64_0 := zK BK268.out 0)); (try (have hcu64_1 : w50.cell? ⟨gb268, 1, none⟩ = some (.int .i64 0) := (zJ BK268.out 1).trans rfl; have hfu64_1 := zK BK268.out 1)); have hcz65_0 : w50.cell? ⟨gb268, 0, none⟩ = some (.int .i64 0) := (zJ BK268.out 0).trans rfl; have hcz65_1 : w50.cell? ⟨gb268, 1, none⟩ = some (.int .i64 0) := (zJ BK268.out 1).trans rfl; have hfz65_0 := zK BK268.out 0; have hfz65_1 := zK BK268.out 1))
     refine bodyPost_ret (results_ct rfl _ _ gb268 26 #[.int .i64 0, .int .i64 0] (0, 0) _ rfl (by (with_reducible repeat (first | refine zB ?_ _ | refine zD ?_ | refine zC ?_ _)); refine blk_put (cs := #[.int .i64 0, .int .i64 0]) ?_ 1 _ rfl; (with_reducible repeat (first | refine zB ?_ _ | refine zD ?_ | refine zC ?_ _)); refine blk_put (cs := #[.int .i64 0, .int .i64 0]) ?_ 0 _ rfl; (with_reducible repeat (first | refine zB ?_ _ | refine zD ?_ | refine zC ?_ _)); exact BK268.out) Try.underlying26 rfl (by kernel_rfl)) rfl ?_
     exact ⟨by first | rfl | (simp [errW_none, errW_some] <;> rfl) | (simp [*, errW_none, errW_some] <;> rfl), by repeat (first | (with_reducible first | exact HB.out | apply zG | apply zE | apply zF | refine zH ?_ GE266.out | refine zH ?_ GE267.out | refine zH ?_ GE268.out) | exact HB.out)⟩
   ·replace c26 := Bool.eq_false_iff.mpr c26
    subst c26
    have H1 : (some (0, 0, false)) = some (r1, r2, r3) := by rw [if_neg (show ¬ (false = true) by decide)] at H; exact H
    clear H
    have H := H1
    clear H1
    simp only [Option.some.injEq, Prod.mk.injEq] at H
    obtain ⟨rfl, rfl, rfl⟩ := H
    go_enter Try.func52, Try.ntmps52
    go_wp2_with (first | ((with_reducible refine zS (N := 2) rfl ?_); refine zV ?hg (N := 2) ?hd (cs := #[.int .i64 a0_0, .int .i64 a0_1]) (t := 26) ?hr ?_; (case hd => rfl); (case hg => rfl); (case hr => first | (go_simp; done) | (go_simp; rfl)); intro gb266 hg w66 hbox hb; have n0_ := zA (zQ (by repeat (first | (with_reducible first | exact HB.out | apply zG | apply zE | apply zF) | exact HB.out)) hb); have n1_ := zA (hbox); have n2_ := zA ((by rw [hg]; exact (zR (by repeat (first | (with_reducible first | exact HB.out | apply zG | apply zE | apply zF) | exact HB.out))) : w.heap.size ≤ gb266)); have n3_ := zA ((by rw [hg]; exact (zR (by repeat (first | (with_reducible first | exact HB.out | apply zG | apply zE | apply zF) | exact HB.out))) : w.heap.size ≤ gb266)); clear HB; have HB := n0_; have BK266 := n1_; have GW266 := n2_; have GE266 := n3_; clear n0_ n1_ n2_ n3_; clear hb hbox hg) | ((with_reducible refine zS (N := 3) rfl ?_); refine zV ?hg (N := 3) ?hd (cs := #[.int .i64 a1_0, .int .i64 a1_1]) (t := 26) ?hr ?_; (case hd => rfl); (case hg => rfl); (case hr => first | (go_simp; done) | (go_simp; rfl)); intro gb267 hg w67 hbox hb; have n0_ := zA (zP (g := gb266) (o := .cells #[.int .i64 a0_0, .int .i64 a0_1] 26 (0, 0)) (by (with_reducible repeat (first | refine zB ?_ _ | refine zD ?_ | refine zC ?_ _)); exact BK266.out) hb); have n1_ := zA (zQ (by repeat (first | (with_reducible first | exact HB.out | apply zG | apply zE | apply zF | refine zH ?_ GE266.out) | exact HB.out)) hb); have n2_ := zA (hbox); have n3_ := zA ((by rw [hg]; exact (zR (by repeat (first | (with_reducible first | exact HB.out | apply zG | apply zE | apply zF | refine zH ?_ GE266.out) | exact HB.out))) : w.heap.size ≤ gb267)); have n4_ := zA ((by rw [hg]; exact (zR (by repeat (first | (with_reducible first | exact HB.out | apply zG | apply zE | apply zF | refine zH ?_ GE266.out) | exact HB.out))) : w.heap.size ≤ gb267)); have n5_ := zA ((by rw [hg]; exact Nat.ne_of_lt (blk_lt (g := gb266) (o := .cells #[.int .i64 a0_0, .int .i64 a0_1] 26 (0, 0)) (by (with_reducible repeat (first | refine zB ?_ _ | refine zD ?_ | refine zC ?_ _)); exact BK266.out)) : gb266 ≠ gb267)); have n6_ := zA ((by rw [hg]; exact Nat.ne_of_gt (blk_lt (g := gb266) (o := .cells #[.int .i64 a0_0, .int .i64 a0_1] 26 (0, 0)) (by (with_reducible repeat (first | refine zB ?_ _ | refine zD ?_ | refine zC ?_ _)); exact BK266.out)) : gb267 ≠ gb266)); clear BK266; clear HB; have BK266 := n0_; have HB := n1_; have BK267 := n2_; have GW267 := n3_; have GE267 := n4_; have NB266_267 := n5_; have NB267_266 := n6_; clear n0_ n1_ n2_ n3_ n4_ n5_ n6_; clear hb hbox hg) | ((with_reducible refine zS (N := 4) rfl ?_); refine zV ?hg (N := 4) ?hd (cs := #[.int .i64 0, .int .i64 0]) (t := 26) ?hr ?_; (case hd => rfl); (case hg => rfl); (case hr => first | (go_simp; done) | (go_simp; rfl)); intro gb268 hg w68 hbox hb; have n0_ := zA (zP (g := gb266) (o := .cells #[.int .i64 a0_0, .int .i64 a0_1] 26 (0, 0)) (by (with_reducible repeat (first | refine zB ?_ _ | refine zD ?_ | refine zC ?_ _)); exact BK266.out) hb); have n1_ := zA (zP (g := gb267) (o := .cells #[.int .i64 a1_0, .int .i64 a1_1] 26 (0, 0)) (by (with_reducible repeat (first | refine zB ?_ _ | refine zD ?_ | refine zC ?_ _)); exact BK267.out) hb); have n2_ := zA (zQ (by repeat (first | (with_reducible first | exact HB.out | apply zG | apply zE | apply zF | refine zH ?_ GE266.out | refine zH ?_ GE267.out) | exact HB.out)) hb); have n3_ := zA (hbox); have n4_ := zA ((by rw [hg]; exact (zR (by repeat (first | (with_reducible first | exact HB.out | apply zG | apply zE | apply zF | refine zH ?_ GE266.out | refine zH ?_ GE267.out) | exact HB.out))) : w.heap.size ≤ gb268)); have n5_ := zA ((by rw [hg]; exact (zR (by repeat (first | (with_reducible first | exact HB.out | apply zG | apply zE | apply zF | refine zH ?_ GE266.out | refine zH ?_ GE267.out) | exact HB.out))) : w.heap.size ≤ gb268)); have n6_ := zA ((by rw [hg]; exact Nat.ne_of_lt (blk_lt (g := gb266) (o := .cells #[.int .i64 a0_0, .int .i64 a0_1] 26 (0, 0)) (by (with_reducible repeat (first | refine zB ?_ _ | refine zD ?_ | refine zC ?_ _)); exact BK266.out)) : gb266 ≠ gb268)); have n7_ := zA ((by rw [hg]; exact Nat.ne_of_gt (blk_lt (g := gb266) (o := .cells #[.int .i64 a0_0, .int .i64 a0_1] 26 (0, 0)) (by (with_reducible repeat (first | refine zB ?_ _ | refine zD ?_ | refine zC ?_ _)); exact BK266.out)) : gb268 ≠ gb266)); have n8_ := zA ((by rw [hg]; exact Nat.ne_of_lt (blk_lt (g := gb267) (o := .cells #[.int .i64 a1_0, .int .i64 a1_1] 26 (0, 0)) (by (with_reducible repeat (first | refine zB ?_ _ | refine zD ?_ | refine zC ?_ _)); exact BK267.out)) : gb267 ≠ gb268)); have n9_ := zA ((by rw [hg]; exact Nat.ne_of_gt (blk_lt (g := gb267) (o := .cells #[.int .i64 a1_0, .int .i64 a1_1] 26 (0, 0)) (by (with_reducible repeat (first | refine zB ?_ _ | refine zD ?_ | refine zC ?_ _)); exact BK267.out)) : gb268 ≠ gb267)); clear BK266; clear BK267; clear HB; have BK266 := n0_; have BK267 := n1_; have HB := n2_; have BK268 := n3_; have GW268 := n4_; have GE268 := n5_; have NB266_268 := n6_; have NB268_266 := n7_; have NB267_268 := n8_; have NB268_267 := n9_; clear n0_ n1_ n2_ n3_ n4_ n5_ n6_ n7_ n8_ n9_; clear hb hbox hg; have hnb69 := NB266_267.out; have hnc69 := NB267_266.out; have hnb70 := NB266_268.out; have hnc70 := NB268_266.out; have hcz71_0 : w68.cell? ⟨gb266, 0, none⟩ = some (.int .i64 a0_0) := (zJ BK266.out 0).trans rfl; have hcz71_1 : w68.cell? ⟨gb266, 1, none⟩ = some (.int .i64 a0_1) := (zJ BK266.out 1).trans rfl; have hfz71_0 := zK BK266.out 0; have hfz71_1 := zK BK266.out 1; have hnb72 := NB267_268.out; have hnc72 := NB268_267.out; have hcz73_0 : w68.cell? ⟨gb267, 0, none⟩ = some (.int .i64 a1_0) := (zJ BK267.out 0).trans rfl; have hcz73_1 : w68.cell? ⟨gb267, 1, none⟩ = some (.int .i64 a1_1) := (zJ BK267.out 1).trans rfl; have hfz73_0 := zK BK267.out 0; have hfz73_1 := zK BK267.out 1) | ((with_reducible refine zT (f := 66) rfl ?_); refine goesL_ (some 23) rfl rfl Try.func66 (by kernel_rfl) rfl #[.int .i64 a0_1, .int .i64 a1_1] rfl (by (try simp only [zW, yA, yB]); first | done | rfl | (simp only [zX, zZ]; rfl)) ?_; (with_reducible refine (spec_l1Least.calls a0_1 a1_1 t269 _ A23.out).mono ?_); rintro e w' ⟨rfl, ⟨nd, rfl⟩⟩; refine ⟨_, rfl, ?_⟩; (try ((repeat rw [World.drewN_drewN]); rw [drewN_self w68]; generalize hq_ : World.drewN w68 _ = w68; have n0_ : Aside0 (w68.heap[gb266]? = some (.cells #[.int .i64 a0_0, .int .i64 a0_1] 26 (0, 0))) := ⟨by rw [← hq_]; exact (by (with_reducible repeat (first | refine zB ?_ _ | refine zD ?_ | refine zC ?_ _)); exact BK266.out)⟩; have n1_ : Aside0 (w68.heap[gb267]? = some (.cells #[.int .i64 a1_0, .int .i64 a1_1] 26 (0, 0))) := ⟨by rw [← hq_]; exact (by (with_reducible repeat (first | refine zB ?_ _ | refine zD ?_ | refine zC ?_ _)); exact BK267.out)⟩; have n2_ : Aside0 (w68.heap[gb268]? = some (.cells #[.int .i64 0, .int .i64 0] 26 (0, 0))) := ⟨by rw [← hq_]; exact (by (with_reducible repeat (first | refine zB ?_ _ | refine zD ?_ | refine zC ?_ _)); exact BK268.out)⟩; have n3_ : Aside0 (Below w.heap.size w w68) := ⟨by rw [← hq_]; exact (by repeat (first | (with_reducible first | exact HB.out | apply zG | apply zE | apply zF | refine zH ?_ GE266.out | refine zH ?_ GE267.out | refine zH ?_ GE268.out) | exact HB.out))⟩; clear BK266 BK267 BK268 HB hq_; have BK266 := n0_; have BK267 := n1_; have BK268 := n2_; have HB := n3_; clear n0_ n1_ n2_ n3_)); (try (have hcu74_0 : w68.cell? ⟨gb266, 0, none⟩ = some (.int .i64 a0_0) := (zJ BK266.out 0).trans rfl; have hfu74_0 := zK BK266.out 0)); (try (have hcu74_1 : w68.cell? ⟨gb266, 1, none⟩ = some (.int .i64 a0_1) := (zJ BK266.out 1).trans rfl; have hfu74_1 := zK BK266.out 1)); (try (have hcu75_0 : w68.cell? ⟨gb267, 0, none⟩ = some (.int .i64 a1_0) := (zJ BK267.out 0).trans rfl; have hfu75_0 := zK BK267.out 0)); (try (have hcu75_1 : w68.cell? ⟨gb267, 1, none⟩ = some (.int .i64 a1_1) := (zJ BK267.out 1).trans rfl; have hfu75_1 := zK BK267.out 1)); (try (have hcu76_0 : w68.cell? ⟨gb268, 0, none⟩ = some (.int .i64 0) := (zJ BK268.out 0).trans rfl; have hfu76_0 := zK BK268.out 0)); (try (have hcu76_1 : w68.cell? ⟨gb268, 1, none⟩ = some (.int .i64 0) := (zJ BK268.out 1).trans rfl; have hfu76_1 := zK BK268.out 1))) | ((with_reducible refine zT (f := 67) rfl ?_); refine goesL_ (some 31) rfl rfl Try.func67 (by kernel_rfl) rfl #[.int .i64 a0_0, .int .i64 (wrap64 (a0_1 - t269))] rfl (by (try simp only [zW, yA, yB]); first | done | rfl | (simp only [zX, zZ]; rfl)) ?_; (with_reducible refine (spec_l1Up.calls k a0_0 (wrap64 (a0_1 - t269)) t270 false _ A24.out).mono ?_); rintro e w' ⟨rfl, ⟨nd, rfl⟩⟩; refine ⟨_, rfl, ?_⟩; (try ((repeat rw [World.drewN_drewN]); rw [drewN_self w68]; generalize hq_ : World.drewN w68 _ = w68; have n0_ : Aside0 (w68.heap[gb266]? = some (.cells #[.int .i64 a0_0, .int .i64 a0_1] 26 (0, 0))) := ⟨by rw [← hq_]; exact (by (with_reducible repeat (first | refine zB ?_ _ | refine zD ?_ | refine zC ?_ _)); exact BK266.out)⟩; have n1_ : Aside0 (w68.heap[gb267]? = some (.cells #[.int .i64 a1_0, .int .i64 a1_1] 26 (0, 0))) := ⟨by rw [← hq_]; exact (by (with_reducible repeat (first | refine zB ?_ _ | refine zD ?_ | refine zC ?_ _)); exact BK267.out)⟩; have n2_ : Aside0 (w68.heap[gb268]? = some (.cells #[.int .i64 0, .int .i64 0] 26 (0, 0))) := ⟨by rw [← hq_]; exact (by (with_reducible repeat (first | refine zB ?_ _ | refine zD ?_ | refine zC ?_ _)); exact BK268.out)⟩; have n3_ : Aside0 (Below w.heap.size w w68) := ⟨by rw [← hq_]; exact (by repeat (first | (with_reducible first | exact HB.out | apply zG | apply zE | apply zF | refine zH ?_ GE266.out | refine zH ?_ GE267.out | refine zH ?_ GE268.out) | exact HB.out))⟩; clear BK266 BK267 BK268 HB hq_; have BK266 := n0_; have BK267 := n1_; have BK268 := n2_; have HB := n3_; clear n0_ n1_ n2_ n3_)); (try (have hcu77_0 : w68.cell? ⟨gb266, 0, none⟩ = some (.int .i64 a0_0) := (zJ BK266.out 0).trans rfl; have hfu77_0 := zK BK266.out 0)); (try (have hcu77_1 : w68.cell? ⟨gb266, 1, none⟩ = some (.int .i64 a0_1) := (zJ BK266.out 1).trans rfl; have hfu77_1 := zK BK266.out 1)); (try (have hcu78_0 : w68.cell? ⟨gb267, 0, none⟩ = some (.int .i64 a1_0) := (zJ BK267.out 0).trans rfl; have hfu78_0 := zK BK267.out 0)); (try (have hcu78_1 : w68.cell? ⟨gb267, 1, none⟩ = some (.int .i64 a1_1) := (zJ BK267.out 1).trans rfl; have hfu78_1 := zK BK267.out 1)); (try (have hcu79_0 : w68.cell? ⟨gb268, 0, none⟩ = some (.int .i64 0) := (zJ BK268.out 0).trans rfl; have hfu79_0 := zK BK268.out 0)); (try (have hcu79_1 : w68.cell? ⟨gb268, 1, none⟩ = some (.int .i64 0) := (zJ BK268.out 1).trans rfl; have hfu79_1 := zK BK268.out 1))) | ((with_reducible refine zT (f := 67) rfl ?_); refine goesL_ (some 41) rfl rfl Try.func67 (by kernel_rfl) rfl #[.int .i64 a1_0, .int .i64 (wrap64 (a1_1 - t269))] rfl (by (try simp only [zW, yA, yB]); first | done | rfl | (simp only [zX, zZ]; rfl)) ?_; (with_reducible refine (spec_l1Up.calls k a1_0 (wrap64 (a1_1 - t269)) t272 t273 _ A25.out).mono ?_); rintro e w' ⟨rfl, ⟨nd, rfl⟩⟩; refine ⟨_, rfl, ?_⟩; (try ((repeat rw [World.drewN_drewN]); rw [drewN_self w68]; generalize hq_ : World.drewN w68 _ = w68; have n0_ : Aside0 (w68.heap[gb266]? = some (.cells #[.int .i64 a0_0, .int .i64 a0_1] 26 (0, 0))) := ⟨by rw [← hq_]; exact (by (with_reducible repeat (first | refine zB ?_ _ | refine zD ?_ | refine zC ?_ _)); exact BK266.out)⟩; have n1_ : Aside0 (w68.heap[gb267]? = some (.cells #[.int .i64 a1_0, .int .i64 a1_1] 26 (0, 0))) := ⟨by rw [← hq_]; exact (by (with_reducible repeat (first | refine zB ?_ _ | refine zD ?_ | refine zC ?_ _)); exact BK267.out)⟩; have n2_ : Aside0 (w68.heap[gb268]? = some (.cells #[.int .i64 0, .int .i64 0] 26 (0, 0))) := ⟨by rw [← hq_]; exact (by (with_reducible repeat (first | refine zB ?_ _ | refine zD ?_ | refine zC ?_ _)); exact BK268.out)⟩; have n3_ : Aside0 (Below w.heap.size w w68) := ⟨by rw [← hq_]; exact (by repeat (first | (with_reducible first | exact HB.out | apply zG | apply zE | apply zF | refine zH ?_ GE266.out | refine zH ?_ GE267.out | refine zH ?_ GE268.out) | exact HB.out))⟩; clear BK266 BK267 BK268 HB hq_; have BK266 := n0_; have BK267 := n1_; have BK268 := n2_; have HB := n3_; clear n0_ n1_ n2_ n3_)); (try (have hcu80_0 : w68.cell? ⟨gb266, 0, none⟩ = some (.int .i64 a0_0) := (zJ BK266.out 0).trans rfl; have hfu80_0 := zK BK266.out 0)); (try (have hcu80_1 : w68.cell? ⟨gb266, 1, none⟩ = some (.int .i64 a0_1) := (zJ BK266.out 1).trans rfl; have hfu80_1 := zK BK266.out 1)); (try (have hcu81_0 : w68.cell? ⟨gb267, 0, none⟩ = some (.int .i64 a1_0) := (zJ BK267.out 0).trans rfl; have hfu81_0 := zK BK267.out 0)); (try (have hcu81_1 : w68.cell? ⟨gb267, 1, none⟩ = some (.int .i64 a1_1) := (zJ BK267.out 1).trans rfl; have hfu81_1 := zK BK267.out 1)); (try (have hcu82_0 : w68.cell? ⟨gb268, 0, none⟩ = some (.int .i64 0) := (zJ BK268.out 0).trans rfl; have hfu82_0 := zK BK268.out 0)); (try (have hcu82_1 : w68.cell? ⟨gb268, 1, none⟩ = some (.int .i64 0) := (zJ BK268.out 1).trans rfl; have hfu82_1 := zK BK268.out 1)); have hcz83_0 : w68.cell? ⟨gb268, 0, none⟩ = some (.int .i64 0) := (zJ BK268.out 0).trans rfl; have hcz83_1 : w68.cell? ⟨gb268, 1, none⟩ = some (.int .i64 0) := (zJ BK268.out 1).trans rfl; have hfz83_0 := zK BK268.out 0; have hfz83_1 := zK BK268.out 1))
    refine bodyPost_ret (results_ct rfl _ _ gb268 26 #[.int .i64 0, .int .i64 0] (0, 0) _ rfl (by (with_reducible repeat (first | refine zB ?_ _ | refine zD ?_ | refine zC ?_ _)); refine blk_put (cs := #[.int .i64 0, .int .i64 0]) ?_ 1 _ rfl; (with_reducible repeat (first | refine zB ?_ _ | refine zD ?_ | refine zC ?_ _)); refine blk_put (cs := #[.int .i64 0, .int .i64 0]) ?_ 0 _ rfl; (with_reducible repeat (first | refine zB ?_ _ | refine zD ?_ | refine zC ?_ _)); exact BK268.out) Try.underlying26 rfl (by kernel_rfl)) rfl ?_
    exact ⟨by first | rfl | (simp [errW_none, errW_some] <;> rfl) | (simp [*, errW_none, errW_some] <;> rfl), by repeat (first | (with_reducible first | exact HB.out | apply zG | apply zE | apply zF | refine zH ?_ GE266.out | refine zH ?_ GE267.out | refine zH ?_ GE268.out) | exact HB.out)⟩

end Go.Proofs.Ytmoaolcioihjnaa.Q

namespace Go.Proofs.Ytmoaolcioihjnaa.Q
open Go.RowKit Go.Proofs.YtmoaolcioihjnaaW.PrintWords Go.Proofs.YtmoaolcioihjnaaW.PrintLast Go.Proofs.YtmoaolcioihjnaaW.PrintMore Go.Proofs.YtmoaolcioihjnaaX
attribute [local go_sem] max2_int min2_int max_two min_two max_three min_three max_four min_four   -- for this text's walks alone
set_option linter.unusedVariables false
set_option linter.unusedSimpArgs false

def spec_l1Neg.f (a0_0 : Int) (a0_1 : Int) : Option (Int × Int) := some (wrap64 (-a0_0), a0_1)
set_option maxHeartbeats 8000000 in
set_option maxRecDepth 100000 in
theorem spec_l1Neg.calls (a0_0 : Int) (a0_1 : Int) (r1 : Int) (r2 : Int) (w : World) (h : spec_l1Neg.f a0_0 a0_1 = some (r1, r2)) :
  Calls Try.prog 53 #[.agg #[.int .i64 a0_0, .int .i64 a0_1]] w fun e w' => e = .returned (.agg #[.int .i64 r1, .int .i64 r2]) ∧ Below w.heap.size w w' := by
 have hu26 := Try.underlying26
 have HB := zA (Below.refl w.heap.size w)
 have H : (some (wrap64 (-a0_0), a0_1)) = some (r1, r2) := h
 clear h
 simp only [Option.some.injEq, Prod.mk.injEq] at H
 obtain ⟨rfl, rfl⟩ := H
 go_enter Try.func53, Try.ntmps53
 go_wp2_with (first | ((with_reducible refine zS (N := 1) rfl ?_); refine zV ?hg (N := 1) ?hd (cs := #[.int .i64 a0_0, .int .i64 a0_1]) (t := 26) ?hr ?_; (case hd => rfl); (case hg => rfl); (case hr => first | (go_simp; done) | (go_simp; rfl)); intro gb374 hg w2 hbox hb; have n0_ := zA (zQ (by repeat (first | (with_reducible first | exact HB.out | apply zG | apply zE | apply zF) | exact HB.out)) hb); have n1_ := zA (hbox); have n2_ := zA ((by rw [hg]; exact (zR (by repeat (first | (with_reducible first | exact HB.out | apply zG | apply zE | apply zF) | exact HB.out))) : w.heap.size ≤ gb374)); have n3_ := zA ((by rw [hg]; exact (zR (by repeat (first | (with_reducible first | exact HB.out | apply zG | apply zE | apply zF) | exact HB.out))) : w.heap.size ≤ gb374)); clear HB; have HB := n0_; have BK374 := n1_; have GW374 := n2_; have GE374 := n3_; clear n0_ n1_ n2_ n3_; clear hb hbox hg) | ((with_reducible refine zS (N := 2) rfl ?_); refine zV ?hg (N := 2) ?hd (cs := #[.int .i64 0, .int .i64 0]) (t := 26) ?hr ?_; (case hd => rfl); (case hg => rfl); (case hr => first | (go_simp; done) | (go_simp; rfl)); intro gb375 hg w3 hbox hb; have n0_ := zA (zP (g := gb374) (o := .cells #[.int .i64 a0_0, .int .i64 a0_1] 26 (0, 0)) (by (with_reducible repeat (first | refine zB ?_ _ | refine zD ?_ | refine zC ?_ _)); exact BK374.out) hb); have n1_ := zA (zQ (by repeat (first | (with_reducible first | exact HB.out | apply zG | apply zE | apply zF | refine zH ?_ GE374.out) | exact HB.out)) hb); have n2_ := zA (hbox); have n3_ := zA ((by rw [hg]; exact (zR (by repeat (first | (with_reducible first | exact HB.out | apply zG | apply zE | apply zF | refine zH ?_ GE374.out) | exact HB.out))) : w.heap.size ≤ gb375)); have n4_ := zA ((by rw [hg]; exact (zR (by repeat (first | (with_reducible first | exact HB.out | apply zG | apply zE | apply zF | refine zH ?_ GE374.out) | exact HB.out))) : w.heap.size ≤ gb375)); have n5_ := zA ((by rw [hg]; exact Nat.ne_of_lt (blk_lt (g := gb374) (o := .cells #[.int .i64 a0_0, .int .i64 a0_1] 26 (0, 0)) (by (with_reducible repeat (first | refine zB ?_ _ | refine zD ?_ | refine zC ?_ _)); exact BK374.out)) : gb374 ≠ gb375)); have n6_ := zA ((by rw [hg]; exact Nat.ne_of_gt (blk_lt (g := gb374) (o := .cells #[.int .i64 a0_0, .int .i64 a0_1] 26 (0, 0)) (by (with_reducible repeat (first | refine zB ?_ _ | refine zD ?_ | refine zC ?_ _)); exact BK374.out)) : gb375 ≠ gb374)); clear BK374; clear HB; have BK374 := n0_; have HB := n1_; have BK375 := n2_; have GW375 := n3_; have GE375 := n4_; have NB374_375 := n5_; have NB375_374 := n6_; clear n0_ n1_ n2_ n3_ n4_ n5_ n6_; clear hb hbox hg; have hnb4 := NB374_375.out; have hnc4 := NB375_374.out; have hcz5_0 : w3.cell? ⟨gb374, 0, none⟩ = some (.int .i64 a0_0) := (zJ BK374.out 0).trans rfl; have hcz5_1 : w3.cell? ⟨gb374, 1, none⟩ = some (.int .i64 a0_1) := (zJ BK374.out 1).trans rfl; have hfz5_0 := zK BK374.out 0; have hfz5_1 := zK BK374.out 1; have hcz6_0 : w3.cell? ⟨gb375, 0, none⟩ = some (.int .i64 0) := (zJ BK375.out 0).trans rfl; have hcz6_1 : w3.cell? ⟨gb375, 1, none⟩ = some (.int .i64 0) := (zJ BK375.out 1).trans rfl; have hfz6_0 := zK BK375.out 0; have hfz6_1 := zK BK375.out 1))
 refine bodyPost_ret (results_cell_row rfl _ _ gb375 26 #[.int .i64 (wrap64 (-a0_0)), .int .i64 a0_1] (0, 0) _ rfl (by (with_reducible repeat (first | refine zB ?_ _ | refine zD ?_ | refine zC ?_ _)); refine blk_put (cs := #[.int .i64 (wrap64 (-a0_0)), .int .i64 0]) ?_ 1 _ rfl; (with_reducible repeat (first | refine zB ?_ _ | refine zD ?_ | refine zC ?_ _)); refine blk_put (cs := #[.int .i64 0, .int .i64 0]) ?_ 0 _ rfl; (with_reducible repeat (first | refine zB ?_ _ | refine zD ?_ | refine zC ?_ _)); exact BK375.out) Try.underlying26 rfl (by kernel_rfl)) rfl ?_
 exact ⟨by first | rfl | (simp [errW_none, errW_some] <;> rfl) | (simp [*, errW_none, errW_some] <;> rfl), by repeat (first | (with_reducible first | exact HB.out | apply zG | apply zE | apply zF | refine zH ?_ GE374.out | refine zH ?_ GE375.out) | exact HB.out)⟩

end Go.Proofs.Ytmoaolcioihjnaa.Q

namespace Go.Proofs.Ytmoaolcioihjnaa.Q
open Go.RowKit Go.Proofs.YtmoaolcioihjnaaW.PrintWords Go.Proofs.YtmoaolcioihjnaaW.PrintLast Go.Proofs.YtmoaolcioihjnaaW.PrintMore Go.Proofs.YtmoaolcioihjnaaX
attribute [local go_sem] max2_int min2_int max_two min_two max_three min_three max_four min_four   -- for this text's walks alone
set_option linter.unusedVariables false
set_option linter.unusedSimpArgs false

def spec_l1Abs.f (a0 : Int) : Option (Int) := if a0 < 0 then (some (wrap64 (-a0))) else (some a0)
set_option maxHeartbeats 8000000 in
set_option maxRecDepth 100000 in
theorem spec_l1Abs.calls (a0 : Int) (r : Int) (w : World) (h : spec_l1Abs.f a0 = some r) :
  Calls Try.prog 73 #[.int .i64 a0] w fun e w' => e = .returned (.int .i64 r) ∧ Drawn0 w w' := by
 have H : (if a0 < 0 then (some (wrap64 (-a0))) else (some a0)) = some r := h
 clear h
 by_cases c2 : a0 < 0
 ·rw [if_pos c2] at H
  have c2b0 : decide (a0 < 0) = true := decide_eq_true c2
  clear c2
  obtain rfl := Option.some.inj H
  go_enter Try.func73, Try.ntmps73
  go_wp2
  go_ret
  exact ⟨by first | rfl | (simp; done) | (simp [*]; done), by repeat (first | exact Drawn0.refl _ | apply Drawn0.step)⟩
 ·rw [if_neg c2] at H
  have c2b0 : decide (a0 < 0) = false := decide_eq_false c2
  clear c2
  obtain rfl := Option.some.inj H
  go_enter Try.func73, Try.ntmps73
  go_wp2
  go_ret
  exact ⟨by first | rfl | (simp; done) | (simp [*]; done), by repeat (first | exact Drawn0.refl _ | apply Drawn0.step)⟩

end Go.Proofs.Ytmoaolcioihjnaa.Q

namespace Go.Proofs.Ytmoaolcioihjnaa.Q
open Go.RowKit Go.Proofs.YtmoaolcioihjnaaW.PrintWords Go.Proofs.YtmoaolcioihjnaaW.PrintLast Go.Proofs.YtmoaolcioihjnaaW.PrintMore Go.Proofs.YtmoaolcioihjnaaX
attribute [local go_sem] max2_int min2_int max_two min_two max_three min_three max_four min_four   -- for this text's walks alone
set_option linter.unusedVariables false
set_option linter.unusedSimpArgs false

def spec_l1Big.f (a0 : Int) : Option (Bool) := if a0 > 100000000000000000 then (some true) else (some (decide (a0 < (-100000000000000000))))
set_option maxHeartbeats 8000000 in
set_option maxRecDepth 100000 in
theorem spec_l1Big.calls (a0 : Int) (r : Bool) (w : World) (h : spec_l1Big.f a0 = some r) :
  Calls Try.prog 47 #[.int .i64 a0] w fun e w' => e = .returned (.bool r) ∧ Drawn0 w w' := by
 have H : (if a0 > 100000000000000000 then (some true) else (some (decide (a0 < (-100000000000000000))))) = some r := h
 clear h
 by_cases c2 : a0 > 100000000000000000
 ·rw [if_pos c2] at H
  have c2b0 : decide (100000000000000000 < a0) = true := decide_eq_true c2
  clear c2
  obtain rfl := Option.some.inj H
  go_enter Try.func47, Try.ntmps47
  go_wp2
  go_ret
  exact ⟨by first | rfl | (simp; done) | (simp [*]; done), by repeat (first | exact Drawn0.refl _ | apply Drawn0.step)⟩
 ·rw [if_neg c2] at H
  have c2b0 : decide (100000000000000000 < a0) = false := decide_eq_false c2
  clear c2
  obtain rfl := Option.some.inj H
  go_enter Try.func47, Try.ntmps47
  go_wp2
  go_ret
  exact ⟨by first | rfl | (simp; done) | (simp [*]; done), by repeat (first | exact Drawn0.refl _ | apply Drawn0.step)⟩

end Go.Proofs.Ytmoaolcioihjnaa.Q

namespace Go.Proofs.Ytmoaolcioihjnaa.Q
open Go.RowKit Go.Proofs.YtmoaolcioihjnaaW.PrintWords Go.Proofs.YtmoaolcioihjnaaW.PrintLast Go.Proofs.YtmoaolcioihjnaaW.PrintMore Go.Proofs.YtmoaolcioihjnaaX
attribute [local go_sem] max2_int min2_int max_two min_two max_three min_three max_four min_four   -- for this text's walks alone
set_option linter.unusedVariables false
set_option linter.unusedSimpArgs false

mutual
def spec_l1Quot.l0 : Nat → Int → Int → Int → Int → Option (Int × Bool)
 | 0, _, _, _, _ => none
 | k + 1, x1, x2, x8, x9 => if x2 > 0 then (if x1 = 0 then (none) else ((spec_l1Big.f (wrap64 ((wrap64 (x8 * 10)) + (wrap64 (Int.tdiv (wrap64 (x9 * 10)) x1))))).bind fun t644 => (if t644 = true then (some (0, false)) else (spec_l1Quot.l0 k x1 (wrap64 (x2 - 1)) (wrap64 ((wrap64 (x8 * 10)) + (wrap64 (Int.tdiv (wrap64 (x9 * 10)) x1)))) (Int.tmod (wrap64 (x9 * 10)) x1))))) else (spec_l1Quot.l1 k x2 x8)
def spec_l1Quot.l1 : Nat → Int → Int → Option (Int × Bool)
 | 0, _, _ => none
 | k + 1, x2, x8 => if x2 < 0 then (spec_l1Quot.l1 k (wrap64 (x2 + 1)) (wrap64 (Int.tdiv x8 10))) else (some (x8, true))
end
def spec_l1Quot.f (k : Nat) (a0 : Int) (a1 : Int) (a2 : Int) : Option (Int × Bool) := if a1 = 0 then (none) else (spec_l1Quot.l0 k a1 a2 (wrap64 (Int.tdiv a0 a1)) (Int.tmod a0 a1))
theorem spec_l1Quot.mono_l : ∀ k, (∀ y0 y1 y2 y3, LeO (spec_l1Quot.l0 k y0 y1 y2 y3) (spec_l1Quot.l0 (k + 1) y0 y1 y2 y3)) ∧ (∀ y0 y1, LeO (spec_l1Quot.l1 k y0 y1) (spec_l1Quot.l1 (k + 1) y0 y1))
 | 0 => ⟨fun _ _ _ _ r h => by simp [spec_l1Quot.l0] at h, fun _ _ r h => by simp [spec_l1Quot.l1] at h⟩
 | k + 1 => by
  obtain ⟨ih0, ih1⟩ := spec_l1Quot.mono_l k
  refine ⟨?_, ?_⟩
  ·intro y0 y1 y2 y3
   unfold spec_l1Quot.l0
   repeat' first
   | (with_reducible exact ih0 _ _ _ _)
   | (with_reducible exact ih1 _ _)
   | (with_reducible exact LeO.refl _)
   | (with_reducible exact LeO.none _)
   | (with_reducible refine LeO.ite ?_ ?_)
   | (with_reducible refine LeO.bind ?_ (fun _ => ?_))
   | exact ih0 _ _ _ _
   | exact ih1 _ _
   | exact LeO.none _
   | refine LeO.ite ?_ ?_
   | refine LeO.bind ?_ (fun _ => ?_)
  ·intro y0 y1
   unfold spec_l1Quot.l1
   repeat' first
   | (with_reducible exact ih0 _ _ _ _)
   | (with_reducible exact ih1 _ _)
   | (with_reducible exact LeO.refl _)
   | (with_reducible exact LeO.none _)
   | (with_reducible refine LeO.ite ?_ ?_)
   | (with_reducible refine LeO.bind ?_ (fun _ => ?_))
   | exact ih0 _ _ _ _
   | exact ih1 _ _
   | exact LeO.none _
   | refine LeO.ite ?_ ?_
   | refine LeO.bind ?_ (fun _ => ?_)
theorem spec_l1Quot.mono : ∀ a0 a1 a2 k, LeO (spec_l1Quot.f k a0 a1 a2) (spec_l1Quot.f (k + 1) a0 a1 a2) := by
 intro a0 a1 a2 k
 obtain ⟨ih0, ih1⟩ := spec_l1Quot.mono_l k
 unfold spec_l1Quot.f
 repeat' first
   | (with_reducible exact ih0 _ _ _ _)
   | (with_reducible exact ih1 _ _)
   | (with_reducible exact LeO.refl _)
   | (with_reducible exact LeO.none _)
   | (with_reducible refine LeO.ite ?_ ?_)
   | (with_reducible refine LeO.bind ?_ (fun _ => ?_))
   | exact ih0 _ _ _ _
   | exact ih1 _ _
   | exact LeO.none _
   | refine LeO.ite ?_ ?_
   | refine LeO.bind ?_ (fun _ => ?_)
set_option maxHeartbeats 8000000 in
set_option maxRecDepth 100000 in
theorem spec_l1Quot.calls (k : Nat) (a0 : Int) (a1 : Int) (a2 : Int) (r1 : Int) (r2 : Bool) (w : World) (h : spec_l1Quot.f k a0 a1 a2 = some (r1, r2)) :
  Calls Try.prog 74 #[.int .i64 a0, .int .i64 a1, .int .i64 a2] w fun e w' => e = .returned (.tuple #[.int .i64 r1, .bool r2]) ∧ Drawn0 w w' := by
 have H : (if a1 = 0 then (none) else (spec_l1Quot.l0 k a1 a2 (wrap64 (Int.tdiv a0 a1)) (Int.tmod a0 a1))) = some (r1, r2) := h
 clear h
 by_cases c4 : a1 = 0
 ·rw [if_pos c4] at H
  exact absurd H (by simp)
 ·rw [if_neg c4] at H
  have c4b0 : (a1 == 0) = false := beq_eq_false_iff_ne.mpr c4
  have c4b1 : (a1 != 0) = true := bne_iff_ne.mpr c4
  have H' := zA H
  clear H
  go_enter Try.func74, Try.ntmps74
  go_wp2
  go_loopg [2, 8, 9] k (fun kq v2 v8 v9 w' => ∃ (x2_1 : Int) (x8_1 : Int) (x9_1 : Int), v2 = .int .i64 x2_1 ∧ v8 = .int .i64 x8_1 ∧ v9 = .int .i64 x9_1 ∧ Aside0 (spec_l1Quot.l0 kq a1 x2_1 x8_1 x9_1 = some (r1, r2)) ∧ Aside0 (kq ≤ k) ∧ Drawn0 w w')
  case atStart => exact ⟨(a2), (wrap64 (Int.tdiv a0 a1)), (Int.tmod a0 a1), (by first | rfl | (simp; done) | (simp [*]; done)), (by first | rfl | (simp; done) | (simp [*]; done)), (by first | rfl | (simp; done) | (simp [*]; done)), H', ⟨Nat.le_refl _⟩, by repeat (first | exact Drawn0.refl _ | apply Drawn0.step)⟩
  case round =>
   clear H'
   try clear p2
   try clear c4
   try clear c4b0
   try clear c4b1
   obtain ⟨x2_1, x8_1, x9_1, rfl, rfl, rfl, HA, HK1, ⟨m1, rfl⟩⟩ := hrel
   cases gk with
   | zero => exact absurd HA.out (by simp [spec_l1Quot.l0])
   | succ k1 =>
    have H := HA.out
    clear HA
    simp only [spec_l1Quot.l0] at H
    by_cases c5 : x2_1 > 0
    ·rw [if_pos c5] at H
     have c5b0 : decide (0 < x2_1) = true := decide_eq_true c5
     clear c5
     by_cases c6 : a1 = 0
     ·rw [if_pos c6] at H
      exact absurd H (by simp)
     ·rw [if_neg c6] at H
      have c6b0 : (a1 == 0) = false := beq_eq_false_iff_ne.mpr c6
      have c6b1 : (a1 != 0) = true := bne_iff_ne.mpr c6
      replace H := Option.bind_eq_some_iff.mp H
      obtain ⟨t644, A70, H⟩ := H
      replace H : (if t644 = true then (some (0, false)) else (spec_l1Quot.l0 k1 a1 (wrap64 (x2_1 - 1)) (wrap64 ((wrap64 (x8_1 * 10)) + (wrap64 (Int.tdiv (wrap64 (x9_1 * 10)) a1)))) (Int.tmod (wrap64 (x9_1 * 10)) a1))) = some (r1, r2) := H
      have A7 := zA A70
      clear A70
      by_cases c8 : t644 = true
      ·subst c8
       have H1 : (some (0, false)) = some (r1, r2) := by rw [if_pos rfl] at H; exact H
       clear H
       have H := H1
       clear H1
       simp only [Option.some.injEq, Prod.mk.injEq] at H
       obtain ⟨rfl, rfl⟩ := H
       go_wp2_with (first | ((with_reducible refine zT (f := 47) rfl ?_); refine goesL_ (some 32) rfl rfl Try.func47 (by kernel_rfl) rfl #[.int .i64 (wrap64 ((wrap64 (x8_1 * 10)) + (wrap64 (Int.tdiv (wrap64 (x9_1 * 10)) a1))))] rfl (by (try simp only [zW, yA, yB]); first | done | rfl | (simp only [zX, zZ]; rfl)) ?_; (with_reducible refine (spec_l1Big.calls (wrap64 ((wrap64 (x8_1 * 10)) + (wrap64 (Int.tdiv (wrap64 (x9_1 * 10)) a1)))) true _ A7.out).mono ?_); rintro e w' ⟨rfl, ⟨nd, rfl⟩⟩; refine ⟨_, rfl, ?_⟩))
       go_ret2
       exact ⟨by first | rfl | (simp; done) | (simp [*]; done), by repeat (first | exact Drawn0.refl _ | apply Drawn0.step)⟩
      ·replace c8 := Bool.eq_false_iff.mpr c8
       subst c8
       have H1 : (spec_l1Quot.l0 k1 a1 (wrap64 (x2_1 - 1)) (wrap64 ((wrap64 (x8_1 * 10)) + (wrap64 (Int.tdiv (wrap64 (x9_1 * 10)) a1)))) (Int.tmod (wrap64 (x9_1 * 10)) a1)) = some (r1, r2) := by rw [if_neg (show ¬ (false = true) by decide)] at H; exact H
       clear H
       have H := H1
       clear H1
       have H' := zA H
       clear H
       go_wp2_with (first | ((with_reducible refine zT (f := 47) rfl ?_); refine goesL_ (some 32) rfl rfl Try.func47 (by kernel_rfl) rfl #[.int .i64 (wrap64 ((wrap64 (x8_1 * 10)) + (wrap64 (Int.tdiv (wrap64 (x9_1 * 10)) a1))))] rfl (by (try simp only [zW, yA, yB]); first | done | rfl | (simp only [zX, zZ]; rfl)) ?_; (with_reducible refine (spec_l1Big.calls (wrap64 ((wrap64 (x8_1 * 10)) + (wrap64 (Int.tdiv (wrap64 (x9_1 * 10)) a1)))) false _ A7.out).mono ?_); rintro e w' ⟨rfl, ⟨nd, rfl⟩⟩; refine ⟨_, rfl, ?_⟩))
       go_roundg k1
       case measure => have := HK1.out; omega
       case rel => exact ⟨(wrap64 (x2_1 - 1)), (wrap64 ((wrap64 (x8_1 * 10)) + (wrap64 (Int.tdiv (wrap64 (x9_1 * 10)) a1)))), (Int.tmod (wrap64 (x9_1 * 10)) a1), (by first | rfl | (simp; done) | (simp [*]; done)), (by first | rfl | (simp; done) | (simp [*]; done)), (by first | rfl | (simp; done) | (simp [*]; done)), H', ⟨by have := HK1.out; omega⟩, by repeat (first | exact Drawn0.refl _ | apply Drawn0.step)⟩
    ·rw [if_neg c5] at H
     have c5b0 : decide (0 < x2_1) = false := decide_eq_false c5
     clear c5
     have H' := zA H
     clear H
     go_wp2
     go_loopg [2, 8] k1 (fun kq v2 v8 w' => ∃ (x2_2 : Int) (x8_2 : Int), v2 = .int .i64 x2_2 ∧ v8 = .int .i64 x8_2 ∧ Aside0 (spec_l1Quot.l1 kq x2_2 x8_2 = some (r1, r2)) ∧ Aside0 (kq ≤ k1) ∧ Drawn0 w w')
     case atStart => exact ⟨(x2_1), (x8_1), (by first | rfl | (simp; done) | (simp [*]; done)), (by first | rfl | (simp; done) | (simp [*]; done)), H', ⟨Nat.le_refl _⟩, by repeat (first | exact Drawn0.refl _ | apply Drawn0.step)⟩
     case round =>
      clear H'
      try clear p2
      try clear c4
      try clear c4b0
      try clear c4b1
      try clear c5
      try clear c5b0
      try clear c6
      try clear c6b0
      try clear c6b1
      try clear p6
      try clear c7
      try clear c8
      try clear p2
      obtain ⟨x2_2, x8_2, rfl, rfl, HA, HK2, ⟨m2, rfl⟩⟩ := hrel
      cases gk with
      | zero => exact absurd HA.out (by simp [spec_l1Quot.l1])
      | succ k2 =>
       have H := HA.out
       clear HA
       simp only [spec_l1Quot.l1] at H
       by_cases c9 : x2_2 < 0
       ·rw [if_pos c9] at H
        have c9b0 : decide (x2_2 < 0) = true := decide_eq_true c9
        clear c9
        have H' := zA H
        clear H
        go_wp2
        go_roundg k2
        case measure => have := HK1.out; have := HK2.out; omega
        case rel => exact ⟨(wrap64 (x2_2 + 1)), (wrap64 (Int.tdiv x8_2 10)), (by first | rfl | (simp; done) | (simp [*]; done)), (by first | rfl | (simp; done) | (simp [*]; done)), H', ⟨by have := HK1.out; have := HK2.out; omega⟩, by repeat (first | exact Drawn0.refl _ | apply Drawn0.step)⟩
       ·rw [if_neg c9] at H
        have c9b0 : decide (x2_2 < 0) = false := decide_eq_false c9
        clear c9
        simp only [Option.some.injEq, Prod.mk.injEq] at H
        obtain ⟨rfl, rfl⟩ := H
        go_wp2
        go_ret2
        exact ⟨by first | rfl | (simp; done) | (simp [*]; done), by repeat (first | exact Drawn0.refl _ | apply Drawn0.step)⟩

end Go.Proofs.Ytmoaolcioihjnaa.Q
