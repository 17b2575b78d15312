-- laid by a program of this session (wip/tools) out of the translation; Lean checks it
import Derived.Test.YtmoaolcioihjnaaQ0
import Derived.Test.YtmoaolcioihjnaaQ24
import Derived.Test.YtmoaolcioihjnaaQ25
import Derived.Test.YtmoaolcioihjnaaQ26
import Derived.Test.YtmoaolcioihjnaaQE26
namespace Go.Proofs.Ytmoaolcioihjnaa.Q
open Go.RowKit Go.Proofs.YtmoaolcioihjnaaW.PrintWords Go.Proofs.YtmoaolcioihjnaaW.PrintLast Go.Proofs.YtmoaolcioihjnaaW.PrintMore Go.Proofs.YtmoaolcioihjnaaX
attribute [local go_sem] max2_int min2_int max_two min_two max_three min_three max_four min_four   -- for this text's walks alone
set_option linter.unusedVariables false
set_option linter.unusedSimpArgs false

attribute [local go_sem high] eqA26
/-! ### laws_FnDecSub: function 7 -/
def laws_FnDecSub.j0 : Nat → Bool → Bool → Bool → Int → Int → Int → Int → Int → Int → Int → Int → Option (Bool)
  | 0, _, _, _, _, _, _, _, _, _, _, _ => none
  | k + 1, x6, x8, x44, x391000, x391001, x392000, x392001, x396000, x396001, x400000, x400001 => if x44 = true then (if (x396000 == x400000 && (x396001 == x400001)) = true then (some (x6 == x8)) else (none)) else ((impl_DecSub.f k x392000 x392001 x391000 x391001).bind fun bt400 => ((impl_DecSub.f k x391000 x391001 x391000 x391001).bind fun bt404 => (if bt400.2.2 = true then (if bt400.1 = (wrap64 (-x396000)) then (if bt400.2.1 = x396001 then (if bt404.2.2 = true then (some (bt404.1 == 0 && (bt404.2.1 == 0))) else (none)) else (none)) else (none)) else (none))))
def laws_FnDecSub.f (k : Nat) (l0 : List Int) : Option (Bool) := if (l0.length : Int) > 1048576 then (some true) else ((spec_DrawDecSub.f k l0).bind fun bt386 => ((impl_DecSub.f k bt386.1 bt386.2.1 bt386.2.2.1 bt386.2.2.2).bind fun bt392 => ((spec_DecSub.f k bt386.1 bt386.2.1 bt386.2.2.1 bt386.2.2.2).bind fun bt396 => (if (!(bt392.1 == bt396.1) || (!(bt392.2.1 == bt396.2.1))) = true then (laws_FnDecSub.j0 k bt392.2.2 bt396.2.2 true bt386.1 bt386.2.1 bt386.2.2.1 bt386.2.2.2 bt392.1 bt392.2.1 bt396.1 bt396.2.1) else (if (bt392.2.2 != bt396.2.2) = true then (laws_FnDecSub.j0 k bt392.2.2 bt396.2.2 true bt386.1 bt386.2.1 bt386.2.2.1 bt386.2.2.2 bt392.1 bt392.2.1 bt396.1 bt396.2.1) else (laws_FnDecSub.j0 k bt392.2.2 bt396.2.2 (!bt392.2.2) bt386.1 bt386.2.1 bt386.2.2.1 bt386.2.2.2 bt392.1 bt392.2.1 bt396.1 bt396.2.1))))))
theorem laws_FnDecSub.mono_l : ∀ k, (∀ y0 y1 y2 y3 y4 y5 y6 y7 y8 y9 y10, LeO (laws_FnDecSub.j0 k y0 y1 y2 y3 y4 y5 y6 y7 y8 y9 y10) (laws_FnDecSub.j0 (k + 1) y0 y1 y2 y3 y4 y5 y6 y7 y8 y9 y10))
  | 0 => fun _ _ _ _ _ _ _ _ _ _ _ r h => by simp [laws_FnDecSub.j0] at h
  | k + 1 => by
    have ih0 := laws_FnDecSub.mono_l k
    · intro y0 y1 y2 y3 y4 y5 y6 y7 y8 y9 y10
      unfold laws_FnDecSub.j0
      repeat' first
      | (with_reducible exact ih0 _ _ _ _ _ _ _ _ _ _ _)
      | (with_reducible exact impl_DecSub.mono _ _ _ _ _)
      | (with_reducible exact spec_DecSub.mono _ _ _ _ _)
      | (with_reducible exact spec_DrawDecSub.mono _ _)
      | (with_reducible exact LeO.refl _)
      | (with_reducible exact LeO.none _)
      | (with_reducible refine LeO.ite ?_ ?_)
      | (with_reducible refine LeO.bind ?_ (fun _ => ?_))
      | exact ih0 _ _ _ _ _ _ _ _ _ _ _
      | exact impl_DecSub.mono _ _ _ _ _
      | exact spec_DecSub.mono _ _ _ _ _
      | exact spec_DrawDecSub.mono _ _
      | exact LeO.none _
      | refine LeO.ite ?_ ?_
      | refine LeO.bind ?_ (fun _ => ?_)
theorem laws_FnDecSub.mono : ∀ a0 k, LeO (laws_FnDecSub.f k a0) (laws_FnDecSub.f (k + 1) a0) := by
  intro a0 k
  have ih0 := laws_FnDecSub.mono_l k
  unfold laws_FnDecSub.f
  repeat' first
      | (with_reducible exact ih0 _ _ _ _ _ _ _ _ _ _ _)
      | (with_reducible exact impl_DecSub.mono _ _ _ _ _)
      | (with_reducible exact spec_DecSub.mono _ _ _ _ _)
      | (with_reducible exact spec_DrawDecSub.mono _ _)
      | (with_reducible exact LeO.refl _)
      | (with_reducible exact LeO.none _)
      | (with_reducible refine LeO.ite ?_ ?_)
      | (with_reducible refine LeO.bind ?_ (fun _ => ?_))
      | exact ih0 _ _ _ _ _ _ _ _ _ _ _
      | exact impl_DecSub.mono _ _ _ _ _
      | exact spec_DecSub.mono _ _ _ _ _
      | exact spec_DrawDecSub.mono _ _
      | exact LeO.none _
      | refine LeO.ite ?_ ?_
      | refine LeO.bind ?_ (fun _ => ?_)
set_option maxHeartbeats 8000000 in
set_option maxRecDepth 100000 in
theorem laws_FnDecSub.calls (k : Nat) (A0 : Option Addr) (c0 : Nat) (l0 : List Int) (r : Bool) (w : World) (hr0 : Kd.C (Kd.int .u8) w A0 l0.length l0) (hc0 : l0.length ≤ c0) (h : laws_FnDecSub.f k l0 = some r) :
    Calls Try.prog 7 #[.slice A0 l0.length c0] w fun e w' => e = .returned (.bool r) ∧ Below w.heap.size w w' := by
  have hu26 := Try.underlying26
  have HR0 := Aside0.mk hr0
  have HC0 := Aside0.mk hc0
  clear hr0 hc0
  have HB := Aside0.mk (Below.refl w.heap.size w)
  have H : (if (l0.length : Int) > 1048576 then (some true) else ((spec_DrawDecSub.f k l0).bind fun bt386 => ((impl_DecSub.f k bt386.1 bt386.2.1 bt386.2.2.1 bt386.2.2.2).bind fun bt392 => ((spec_DecSub.f k bt386.1 bt386.2.1 bt386.2.2.1 bt386.2.2.2).bind fun bt396 => (if (!(bt392.1 == bt396.1) || (!(bt392.2.1 == bt396.2.1))) = true then (laws_FnDecSub.j0 k bt392.2.2 bt396.2.2 true bt386.1 bt386.2.1 bt386.2.2.1 bt386.2.2.2 bt392.1 bt392.2.1 bt396.1 bt396.2.1) else (if (bt392.2.2 != bt396.2.2) = true then (laws_FnDecSub.j0 k bt392.2.2 bt396.2.2 true bt386.1 bt386.2.1 bt386.2.2.1 bt386.2.2.2 bt392.1 bt392.2.1 bt396.1 bt396.2.1) else (laws_FnDecSub.j0 k bt392.2.2 bt396.2.2 (!bt392.2.2) bt386.1 bt386.2.1 bt386.2.2.1 bt386.2.2.2 bt392.1 bt392.2.1 bt396.1 bt396.2.1))))))) = some r := h
  clear h
  by_cases c2 : (l0.length : Int) > 1048576
  · rw [if_pos c2] at H
    have c2b0 : decide (1048576 < (l0.length : Int)) = true := decide_eq_true c2
    have c2b1 : decide (1048576 < l0.length) = true := decide_eq_true (by omega)
    clear c2
    obtain rfl := Option.some.inj H
    go_enter Try.func7, Try.ntmps7
    go_wp2
    go_ret
    exact ⟨by first | rfl | (simp [errW_none, errW_some] <;> rfl) | (simp [*, errW_none, errW_some] <;> rfl), by repeat (first | (with_reducible first | exact HB.out | apply below_alloc | apply pw_below_drewN | apply below_drew1) | exact HB.out)⟩
  · rw [if_neg c2] at H
    have c2b0 : decide (1048576 < (l0.length : Int)) = false := decide_eq_false c2
    have c2b1 : decide (1048576 < l0.length) = false := decide_eq_false (by omega)
    clear c2
    replace H := Option.bind_eq_some_iff.mp H
    obtain ⟨⟨t386, t387, t388, t389⟩, A30, H⟩ := H
    replace H : ((impl_DecSub.f k t386 t387 t388 t389).bind fun bt392 => ((spec_DecSub.f k t386 t387 t388 t389).bind fun bt396 => (if (!(bt392.1 == bt396.1) || (!(bt392.2.1 == bt396.2.1))) = true then (laws_FnDecSub.j0 k bt392.2.2 bt396.2.2 true t386 t387 t388 t389 bt392.1 bt392.2.1 bt396.1 bt396.2.1) else (if (bt392.2.2 != bt396.2.2) = true then (laws_FnDecSub.j0 k bt392.2.2 bt396.2.2 true t386 t387 t388 t389 bt392.1 bt392.2.1 bt396.1 bt396.2.1) else (laws_FnDecSub.j0 k bt392.2.2 bt396.2.2 (!bt392.2.2) t386 t387 t388 t389 bt392.1 bt392.2.1 bt396.1 bt396.2.1))))) = some r := H
    have A3 := Aside0.mk A30
    clear A30
    replace H := Option.bind_eq_some_iff.mp H
    obtain ⟨⟨t392, t393, t394⟩, A40, H⟩ := H
    replace H : ((spec_DecSub.f k t386 t387 t388 t389).bind fun bt396 => (if (!(t392 == bt396.1) || (!(t393 == bt396.2.1))) = true then (laws_FnDecSub.j0 k t394 bt396.2.2 true t386 t387 t388 t389 t392 t393 bt396.1 bt396.2.1) else (if (t394 != bt396.2.2) = true then (laws_FnDecSub.j0 k t394 bt396.2.2 true t386 t387 t388 t389 t392 t393 bt396.1 bt396.2.1) else (laws_FnDecSub.j0 k t394 bt396.2.2 (!t394) t386 t387 t388 t389 t392 t393 bt396.1 bt396.2.1)))) = some r := H
    have A4 := Aside0.mk A40
    clear A40
    replace H := Option.bind_eq_some_iff.mp H
    obtain ⟨⟨t396, t397, t398⟩, A50, H⟩ := H
    replace H : (if (!(t392 == t396) || (!(t393 == t397))) = true then (laws_FnDecSub.j0 k t394 t398 true t386 t387 t388 t389 t392 t393 t396 t397) else (if (t394 != t398) = true then (laws_FnDecSub.j0 k t394 t398 true t386 t387 t388 t389 t392 t393 t396 t397) else (laws_FnDecSub.j0 k t394 t398 (!t394) t386 t387 t388 t389 t392 t393 t396 t397))) = some r := H
    have A5 := Aside0.mk A50
    clear A50
    have HC6 := Aside0.mk H
    clear H
    go_enter Try.func7, Try.ntmps7
    go_upto_region 6 with (first | ((with_reducible refine gate_callee (f := 25) rfl ?_); refine goesL_ (some 18) rfl rfl Try.func25 (by kernel_rfl) rfl #[.slice A0 l0.length c0] rfl (by (try simp only [List.map_toArray, List.map_cons, List.map_nil]); first | done | rfl | (simp only [List.length_drop, List.length_take]; rfl)) ?_; (with_reducible refine (spec_DrawDecSub.calls k _ _ l0 t386 t387 t388 t389 _ ?side1 ?side2 A3.out).mono ?_); (case side1 => repeat (first | exact HR0.out | (with_reducible refine Kd.C_alloc ?_ _) | (with_reducible refine Kd.C_drewN ?_ _) | (with_reducible refine Kd.C_drew ?_))); (case side2 => exact HC0.out); rintro e w7 ⟨rfl, hb⟩; refine ⟨_, rfl, ?_⟩; have n0_ := Aside0.mk (below_step (by repeat (first | (with_reducible first | exact HB.out | apply below_alloc | apply pw_below_drewN | apply below_drew1) | exact HB.out)) hb); clear HB; have HB := n0_; clear n0_; (try clear hb); (try clear hb2); (try clear hk); (try clear hi)) | ((with_reducible refine gate_dst (N := 3) rfl ?_); refine box_event ?hg (N := 3) ?hd (cs := #[.int .i64 0, .int .i64 0]) (t := 26) ?hr ?_; (case hd => rfl); (case hg => rfl); (case hr => first | (go_simp; done) | (go_simp; rfl)); intro gb390 hg w8 hbox hb; have n0_ := Aside0.mk (below_step (by repeat (first | (with_reducible first | exact HB.out | apply below_alloc | apply pw_below_drewN | apply below_drew1) | exact HB.out)) hb); have n1_ := Aside0.mk (hbox); have n2_ := Aside0.mk ((by rw [hg]; exact (below_size (by repeat (first | (with_reducible first | exact HB.out | apply below_alloc | apply pw_below_drewN | apply below_drew1) | exact HB.out))) : w.heap.size ≤ gb390)); have n3_ := Aside0.mk ((by rw [hg]; exact (below_size (by repeat (first | (with_reducible first | exact HB.out | apply below_alloc | apply pw_below_drewN | apply below_drew1) | exact HB.out))) : w.heap.size ≤ gb390)); clear HB; have HB := n0_; have BK390 := n1_; have GW390 := n2_; have GE390 := n3_; clear n0_ n1_ n2_ n3_; clear hb hbox hg) | ((with_reducible refine gate_dst (N := 4) rfl ?_); refine box_event ?hg (N := 4) ?hd (cs := #[.int .i64 0, .int .i64 0]) (t := 26) ?hr ?_; (case hd => rfl); (case hg => rfl); (case hr => first | (go_simp; done) | (go_simp; rfl)); intro gb391 hg w9 hbox hb; have n0_ := Aside0.mk (blk_below (g := gb390) (o := .cells #[.int .i64 0, .int .i64 0] 26 (0, 0)) (by (with_reducible repeat (first | refine blk_drewN ?_ _ | refine blk_drew ?_ | refine blk_alloc ?_ _)); exact BK390.out) hb); have n1_ := Aside0.mk (below_step (by repeat (first | (with_reducible first | exact HB.out | apply below_alloc | apply pw_below_drewN | apply below_drew1 | refine below_set ?_ GE390.out) | exact HB.out)) hb); have n2_ := Aside0.mk (hbox); have n3_ := Aside0.mk ((by rw [hg]; exact (below_size (by repeat (first | (with_reducible first | exact HB.out | apply below_alloc | apply pw_below_drewN | apply below_drew1 | refine below_set ?_ GE390.out) | exact HB.out))) : w.heap.size ≤ gb391)); have n4_ := Aside0.mk ((by rw [hg]; exact (below_size (by repeat (first | (with_reducible first | exact HB.out | apply below_alloc | apply pw_below_drewN | apply below_drew1 | refine below_set ?_ GE390.out) | exact HB.out))) : w.heap.size ≤ gb391)); have n5_ := Aside0.mk ((by rw [hg]; exact Nat.ne_of_lt (blk_lt (g := gb390) (o := .cells #[.int .i64 0, .int .i64 0] 26 (0, 0)) (by (with_reducible repeat (first | refine blk_drewN ?_ _ | refine blk_drew ?_ | refine blk_alloc ?_ _)); exact BK390.out)) : gb390 ≠ gb391)); have n6_ := Aside0.mk ((by rw [hg]; exact Nat.ne_of_gt (blk_lt (g := gb390) (o := .cells #[.int .i64 0, .int .i64 0] 26 (0, 0)) (by (with_reducible repeat (first | refine blk_drewN ?_ _ | refine blk_drew ?_ | refine blk_alloc ?_ _)); exact BK390.out)) : gb391 ≠ gb390)); clear BK390; clear HB; have BK390 := n0_; have HB := n1_; have BK391 := n2_; have GW391 := n3_; have GE391 := n4_; have NB390_391 := n5_; have NB391_390 := n6_; clear n0_ n1_ n2_ n3_ n4_ n5_ n6_; clear hb hbox hg; have hnb10 := NB390_391.out; have hnc10 := NB391_390.out; have hcz11_0 : w9.cell? ⟨gb390, 0, none⟩ = some (.int .i64 0) := (blk_cell BK390.out 0).trans rfl; have hcz11_1 : w9.cell? ⟨gb390, 1, none⟩ = some (.int .i64 0) := (blk_cell BK390.out 1).trans rfl; have hfz11_0 := blk_frozen BK390.out 0; have hfz11_1 := blk_frozen BK390.out 1; have hcz12_0 : w9.cell? ⟨gb391, 0, none⟩ = some (.int .i64 0) := (blk_cell BK391.out 0).trans rfl; have hcz12_1 : w9.cell? ⟨gb391, 1, none⟩ = some (.int .i64 0) := (blk_cell BK391.out 1).trans rfl; have hfz12_0 := blk_frozen BK391.out 0; have hfz12_1 := blk_frozen BK391.out 1) | ((with_reducible refine gate_callee (f := 24) rfl ?_); refine goesL_ (some 24) rfl rfl Try.func24 (by kernel_rfl) rfl #[.agg #[.int .i64 t386, .int .i64 t387], .agg #[.int .i64 t388, .int .i64 t389]] rfl (by (try simp only [List.map_toArray, List.map_cons, List.map_nil]); first | done | rfl | (simp only [List.length_drop, List.length_take]; rfl)) ?_; (with_reducible refine (impl_DecSub.calls k t386 t387 t388 t389 t392 t393 t394 _ A4.out).mono ?_); rintro e w13 ⟨rfl, hb⟩; refine ⟨_, rfl, ?_⟩; have n0_ := Aside0.mk (blk_below (g := gb390) (o := .cells #[.int .i64 t386, .int .i64 t387] 26 (0, 0)) (by (with_reducible repeat (first | refine blk_drewN ?_ _ | refine blk_drew ?_ | refine blk_alloc ?_ _)); refine blk_far ?_ NB390_391.out _; (with_reducible repeat (first | refine blk_drewN ?_ _ | refine blk_drew ?_ | refine blk_alloc ?_ _)); refine blk_far ?_ NB390_391.out _; (with_reducible repeat (first | refine blk_drewN ?_ _ | refine blk_drew ?_ | refine blk_alloc ?_ _)); refine blk_put (cs := #[.int .i64 t386, .int .i64 0]) ?_ 1 _ rfl; (with_reducible repeat (first | refine blk_drewN ?_ _ | refine blk_drew ?_ | refine blk_alloc ?_ _)); refine blk_put (cs := #[.int .i64 0, .int .i64 0]) ?_ 0 _ rfl; (with_reducible repeat (first | refine blk_drewN ?_ _ | refine blk_drew ?_ | refine blk_alloc ?_ _)); exact BK390.out) hb); have n1_ := Aside0.mk (blk_below (g := gb391) (o := .cells #[.int .i64 t388, .int .i64 t389] 26 (0, 0)) (by (with_reducible repeat (first | refine blk_drewN ?_ _ | refine blk_drew ?_ | refine blk_alloc ?_ _)); refine blk_put (cs := #[.int .i64 t388, .int .i64 0]) ?_ 1 _ rfl; (with_reducible repeat (first | refine blk_drewN ?_ _ | refine blk_drew ?_ | refine blk_alloc ?_ _)); refine blk_put (cs := #[.int .i64 0, .int .i64 0]) ?_ 0 _ rfl; (with_reducible repeat (first | refine blk_drewN ?_ _ | refine blk_drew ?_ | refine blk_alloc ?_ _)); refine blk_far ?_ NB391_390.out _; (with_reducible repeat (first | refine blk_drewN ?_ _ | refine blk_drew ?_ | refine blk_alloc ?_ _)); refine blk_far ?_ NB391_390.out _; (with_reducible repeat (first | refine blk_drewN ?_ _ | refine blk_drew ?_ | refine blk_alloc ?_ _)); exact BK391.out) hb); have n2_ := Aside0.mk (below_step (by repeat (first | (with_reducible first | exact HB.out | apply below_alloc | apply pw_below_drewN | apply below_drew1 | refine below_set ?_ GE390.out | refine below_set ?_ GE391.out) | exact HB.out)) hb); clear BK390; clear BK391; clear HB; have BK390 := n0_; have BK391 := n1_; have HB := n2_; clear n0_ n1_ n2_; (try clear hb); (try clear hb2); (try clear hk); (try clear hi)) | ((with_reducible refine gate_dst (N := 5) rfl ?_); refine box_event ?hg (N := 5) ?hd (cs := #[.int .i64 0, .int .i64 0]) (t := 26) ?hr ?_; (case hd => rfl); (case hg => rfl); (case hr => first | (go_simp; done) | (go_simp; rfl)); intro gb395 hg w14 hbox hb; have n0_ := Aside0.mk (blk_below (g := gb390) (o := .cells #[.int .i64 t386, .int .i64 t387] 26 (0, 0)) (by (with_reducible repeat (first | refine blk_drewN ?_ _ | refine blk_drew ?_ | refine blk_alloc ?_ _)); exact BK390.out) hb); have n1_ := Aside0.mk (blk_below (g := gb391) (o := .cells #[.int .i64 t388, .int .i64 t389] 26 (0, 0)) (by (with_reducible repeat (first | refine blk_drewN ?_ _ | refine blk_drew ?_ | refine blk_alloc ?_ _)); exact BK391.out) hb); have n2_ := Aside0.mk (below_step (by repeat (first | (with_reducible first | exact HB.out | apply below_alloc | apply pw_below_drewN | apply below_drew1 | refine below_set ?_ GE390.out | refine below_set ?_ GE391.out) | exact HB.out)) hb); have n3_ := Aside0.mk (hbox); have n4_ := Aside0.mk ((by rw [hg]; exact (below_size (by repeat (first | (with_reducible first | exact HB.out | apply below_alloc | apply pw_below_drewN | apply below_drew1 | refine below_set ?_ GE390.out | refine below_set ?_ GE391.out) | exact HB.out))) : w.heap.size ≤ gb395)); have n5_ := Aside0.mk ((by rw [hg]; exact (below_size (by repeat (first | (with_reducible first | exact HB.out | apply below_alloc | apply pw_below_drewN | apply below_drew1 | refine below_set ?_ GE390.out | refine below_set ?_ GE391.out) | exact HB.out))) : w.heap.size ≤ gb395)); have n6_ := Aside0.mk ((by rw [hg]; exact Nat.ne_of_lt (blk_lt (g := gb390) (o := .cells #[.int .i64 t386, .int .i64 t387] 26 (0, 0)) (by (with_reducible repeat (first | refine blk_drewN ?_ _ | refine blk_drew ?_ | refine blk_alloc ?_ _)); exact BK390.out)) : gb390 ≠ gb395)); have n7_ := Aside0.mk ((by rw [hg]; exact Nat.ne_of_gt (blk_lt (g := gb390) (o := .cells #[.int .i64 t386, .int .i64 t387] 26 (0, 0)) (by (with_reducible repeat (first | refine blk_drewN ?_ _ | refine blk_drew ?_ | refine blk_alloc ?_ _)); exact BK390.out)) : gb395 ≠ gb390)); have n8_ := Aside0.mk ((by rw [hg]; exact Nat.ne_of_lt (blk_lt (g := gb391) (o := .cells #[.int .i64 t388, .int .i64 t389] 26 (0, 0)) (by (with_reducible repeat (first | refine blk_drewN ?_ _ | refine blk_drew ?_ | refine blk_alloc ?_ _)); exact BK391.out)) : gb391 ≠ gb395)); have n9_ := Aside0.mk ((by rw [hg]; exact Nat.ne_of_gt (blk_lt (g := gb391) (o := .cells #[.int .i64 t388, .int .i64 t389] 26 (0, 0)) (by (with_reducible repeat (first | refine blk_drewN ?_ _ | refine blk_drew ?_ | refine blk_alloc ?_ _)); exact BK391.out)) : gb395 ≠ gb391)); clear BK390; clear BK391; clear HB; have BK390 := n0_; have BK391 := n1_; have HB := n2_; have BK395 := n3_; have GW395 := n4_; have GE395 := n5_; have NB390_395 := n6_; have NB395_390 := n7_; have NB391_395 := n8_; have NB395_391 := n9_; clear n0_ n1_ n2_ n3_ n4_ n5_ n6_ n7_ n8_ n9_; clear hb hbox hg; have hnb15 := NB395_390.out; have hnc15 := NB390_395.out; have hnb16 := NB395_391.out; have hnc16 := NB391_395.out; have hcz17_0 : w14.cell? ⟨gb395, 0, none⟩ = some (.int .i64 0) := (blk_cell BK395.out 0).trans rfl; have hcz17_1 : w14.cell? ⟨gb395, 1, none⟩ = some (.int .i64 0) := (blk_cell BK395.out 1).trans rfl; have hfz17_0 := blk_frozen BK395.out 0; have hfz17_1 := blk_frozen BK395.out 1; have hcz18_0 : w14.cell? ⟨gb390, 0, none⟩ = some (.int .i64 t386) := (blk_cell BK390.out 0).trans rfl; have hcz18_1 : w14.cell? ⟨gb390, 1, none⟩ = some (.int .i64 t387) := (blk_cell BK390.out 1).trans rfl; have hfz18_0 := blk_frozen BK390.out 0; have hfz18_1 := blk_frozen BK390.out 1; have hcz19_0 : w14.cell? ⟨gb391, 0, none⟩ = some (.int .i64 t388) := (blk_cell BK391.out 0).trans rfl; have hcz19_1 : w14.cell? ⟨gb391, 1, none⟩ = some (.int .i64 t389) := (blk_cell BK391.out 1).trans rfl; have hfz19_0 := blk_frozen BK391.out 0; have hfz19_1 := blk_frozen BK391.out 1) | ((with_reducible refine gate_callee (f := 26) rfl ?_); refine goesL_ (some 30) rfl rfl Try.func26 (by kernel_rfl) rfl #[.agg #[.int .i64 t386, .int .i64 t387], .agg #[.int .i64 t388, .int .i64 t389]] rfl (by (try simp only [List.map_toArray, List.map_cons, List.map_nil]); first | done | rfl | (simp only [List.length_drop, List.length_take]; rfl)) ?_; (with_reducible refine (spec_DecSub.calls k t386 t387 t388 t389 t396 t397 t398 _ A5.out).mono ?_); rintro e w20 ⟨rfl, hb⟩; refine ⟨_, rfl, ?_⟩; have n0_ := Aside0.mk (blk_below (g := gb390) (o := .cells #[.int .i64 t386, .int .i64 t387] 26 (0, 0)) (by (with_reducible repeat (first | refine blk_drewN ?_ _ | refine blk_drew ?_ | refine blk_alloc ?_ _)); refine blk_far ?_ NB390_395.out _; (with_reducible repeat (first | refine blk_drewN ?_ _ | refine blk_drew ?_ | refine blk_alloc ?_ _)); refine blk_far ?_ NB390_395.out _; (with_reducible repeat (first | refine blk_drewN ?_ _ | refine blk_drew ?_ | refine blk_alloc ?_ _)); exact BK390.out) hb); have n1_ := Aside0.mk (blk_below (g := gb391) (o := .cells #[.int .i64 t388, .int .i64 t389] 26 (0, 0)) (by (with_reducible repeat (first | refine blk_drewN ?_ _ | refine blk_drew ?_ | refine blk_alloc ?_ _)); refine blk_far ?_ NB391_395.out _; (with_reducible repeat (first | refine blk_drewN ?_ _ | refine blk_drew ?_ | refine blk_alloc ?_ _)); refine blk_far ?_ NB391_395.out _; (with_reducible repeat (first | refine blk_drewN ?_ _ | refine blk_drew ?_ | refine blk_alloc ?_ _)); exact BK391.out) hb); have n2_ := Aside0.mk (blk_below (g := gb395) (o := .cells #[.int .i64 t392, .int .i64 t393] 26 (0, 0)) (by (with_reducible repeat (first | refine blk_drewN ?_ _ | refine blk_drew ?_ | refine blk_alloc ?_ _)); refine blk_put (cs := #[.int .i64 t392, .int .i64 0]) ?_ 1 _ rfl; (with_reducible repeat (first | refine blk_drewN ?_ _ | refine blk_drew ?_ | refine blk_alloc ?_ _)); refine blk_put (cs := #[.int .i64 0, .int .i64 0]) ?_ 0 _ rfl; (with_reducible repeat (first | refine blk_drewN ?_ _ | refine blk_drew ?_ | refine blk_alloc ?_ _)); exact BK395.out) hb); have n3_ := Aside0.mk (below_step (by repeat (first | (with_reducible first | exact HB.out | apply below_alloc | apply pw_below_drewN | apply below_drew1 | refine below_set ?_ GE390.out | refine below_set ?_ GE391.out | refine below_set ?_ GE395.out) | exact HB.out)) hb); clear BK390; clear BK391; clear BK395; clear HB; have BK390 := n0_; have BK391 := n1_; have BK395 := n2_; have HB := n3_; clear n0_ n1_ n2_ n3_; (try clear hb); (try clear hb2); (try clear hk); (try clear hi)) | ((with_reducible refine gate_dst (N := 7) rfl ?_); refine box_event ?hg (N := 7) ?hd (cs := #[.int .i64 0, .int .i64 0]) (t := 26) ?hr ?_; (case hd => rfl); (case hg => rfl); (case hr => first | (go_simp; done) | (go_simp; rfl)); intro gb399 hg w21 hbox hb; have n0_ := Aside0.mk (blk_below (g := gb390) (o := .cells #[.int .i64 t386, .int .i64 t387] 26 (0, 0)) (by (with_reducible repeat (first | refine blk_drewN ?_ _ | refine blk_drew ?_ | refine blk_alloc ?_ _)); exact BK390.out) hb); have n1_ := Aside0.mk (blk_below (g := gb391) (o := .cells #[.int .i64 t388, .int .i64 t389] 26 (0, 0)) (by (with_reducible repeat (first | refine blk_drewN ?_ _ | refine blk_drew ?_ | refine blk_alloc ?_ _)); exact BK391.out) hb); have n2_ := Aside0.mk (blk_below (g := gb395) (o := .cells #[.int .i64 t392, .int .i64 t393] 26 (0, 0)) (by (with_reducible repeat (first | refine blk_drewN ?_ _ | refine blk_drew ?_ | refine blk_alloc ?_ _)); exact BK395.out) hb); have n3_ := Aside0.mk (below_step (by repeat (first | (with_reducible first | exact HB.out | apply below_alloc | apply pw_below_drewN | apply below_drew1 | refine below_set ?_ GE390.out | refine below_set ?_ GE391.out | refine below_set ?_ GE395.out) | exact HB.out)) hb); have n4_ := Aside0.mk (hbox); have n5_ := Aside0.mk ((by rw [hg]; exact (below_size (by repeat (first | (with_reducible first | exact HB.out | apply below_alloc | apply pw_below_drewN | apply below_drew1 | refine below_set ?_ GE390.out | refine below_set ?_ GE391.out | refine below_set ?_ GE395.out) | exact HB.out))) : w.heap.size ≤ gb399)); have n6_ := Aside0.mk ((by rw [hg]; exact (below_size (by repeat (first | (with_reducible first | exact HB.out | apply below_alloc | apply pw_below_drewN | apply below_drew1 | refine below_set ?_ GE390.out | refine below_set ?_ GE391.out | refine below_set ?_ GE395.out) | exact HB.out))) : w.heap.size ≤ gb399)); have n7_ := Aside0.mk ((by rw [hg]; exact Nat.ne_of_lt (blk_lt (g := gb390) (o := .cells #[.int .i64 t386, .int .i64 t387] 26 (0, 0)) (by (with_reducible repeat (first | refine blk_drewN ?_ _ | refine blk_drew ?_ | refine blk_alloc ?_ _)); exact BK390.out)) : gb390 ≠ gb399)); have n8_ := Aside0.mk ((by rw [hg]; exact Nat.ne_of_gt (blk_lt (g := gb390) (o := .cells #[.int .i64 t386, .int .i64 t387] 26 (0, 0)) (by (with_reducible repeat (first | refine blk_drewN ?_ _ | refine blk_drew ?_ | refine blk_alloc ?_ _)); exact BK390.out)) : gb399 ≠ gb390)); have n9_ := Aside0.mk ((by rw [hg]; exact Nat.ne_of_lt (blk_lt (g := gb391) (o := .cells #[.int .i64 t388, .int .i64 t389] 26 (0, 0)) (by (with_reducible repeat (first | refine blk_drewN ?_ _ | refine blk_drew ?_ | refine blk_alloc ?_ _)); exact BK391.out)) : gb391 ≠ gb399)); have n10_ := Aside0.mk ((by rw [hg]; exact Nat.ne_of_gt (blk_lt (g := gb391) (o := .cells #[.int .i64 t388, .int .i64 t389] 26 (0, 0)) (by (with_reducible repeat (first | refine blk_drewN ?_ _ | refine blk_drew ?_ | refine blk_alloc ?_ _)); exact BK391.out)) : gb399 ≠ gb391)); have n11_ := Aside0.mk ((by rw [hg]; exact Nat.ne_of_lt (blk_lt (g := gb395) (o := .cells #[.int .i64 t392, .int .i64 t393] 26 (0, 0)) (by (with_reducible repeat (first | refine blk_drewN ?_ _ | refine blk_drew ?_ | refine blk_alloc ?_ _)); exact BK395.out)) : gb395 ≠ gb399)); have n12_ := Aside0.mk ((by rw [hg]; exact Nat.ne_of_gt (blk_lt (g := gb395) (o := .cells #[.int .i64 t392, .int .i64 t393] 26 (0, 0)) (by (with_reducible repeat (first | refine blk_drewN ?_ _ | refine blk_drew ?_ | refine blk_alloc ?_ _)); exact BK395.out)) : gb399 ≠ gb395)); clear BK390; clear BK391; clear BK395; clear HB; have BK390 := n0_; have BK391 := n1_; have BK395 := n2_; have HB := n3_; have BK399 := n4_; have GW399 := n5_; have GE399 := n6_; have NB390_399 := n7_; have NB399_390 := n8_; have NB391_399 := n9_; have NB399_391 := n10_; have NB395_399 := n11_; have NB399_395 := n12_; clear n0_ n1_ n2_ n3_ n4_ n5_ n6_ n7_ n8_ n9_ n10_ n11_ n12_; clear hb hbox hg; have hnb22 := NB399_390.out; have hnc22 := NB390_399.out; have hnb23 := NB399_391.out; have hnc23 := NB391_399.out; have hnb24 := NB399_395.out; have hnc24 := NB395_399.out; have hcz25_0 : w21.cell? ⟨gb399, 0, none⟩ = some (.int .i64 0) := (blk_cell BK399.out 0).trans rfl; have hcz25_1 : w21.cell? ⟨gb399, 1, none⟩ = some (.int .i64 0) := (blk_cell BK399.out 1).trans rfl; have hfz25_0 := blk_frozen BK399.out 0; have hfz25_1 := blk_frozen BK399.out 1))
    (try simp only [Act.put, List.setIfInBounds_toArray, List.set_cons_zero, List.set_cons_succ])
    go_cut [44] (fun v44 wc => ∃ (kq : Nat) (x44_5 : Bool), v44 = .bool x44_5 ∧ Aside0 (laws_FnDecSub.j0 kq t394 t398 x44_5 t386 t387 t388 t389 t392 t393 t396 t397 = some r) ∧ Aside0 (kq ≤ k) ∧ Aside0 (wc.heap[gb390]? = some (.cells #[.int .i64 t386, .int .i64 t387] 26 (0, 0))) ∧ Aside0 (wc.heap[gb391]? = some (.cells #[.int .i64 t388, .int .i64 t389] 26 (0, 0))) ∧ Aside0 (wc.heap[gb395]? = some (.cells #[.int .i64 t392, .int .i64 t393] 26 (0, 0))) ∧ Aside0 (wc.heap[gb399]? = some (.cells #[.int .i64 t396, .int .i64 t397] 26 (0, 0))) ∧ Aside0 (Below w.heap.size w wc))
    case first =>
      have H := HC6.out
      clear HC6
      by_cases c26 : (!(t392 == t396) || (!(t393 == t397))) = true
      · rw [if_pos c26] at H
        have c26b0 : (!(t392 == t396) || (!(t393 == t397))) = true := c26
        clear c26
        (first | rw [c26b0] | (simp only [i64_w, i32_w]; rw [c26b0]) | skip)
        have H' := Aside0.mk H
        clear H
        have hnb27 := NB395_390.out
        have hnc27 := NB390_395.out
        have hnb28 := NB395_391.out
        have hnc28 := NB391_395.out
        have hnb29 := NB395_399.out
        have hnc29 := NB399_395.out
        have hcz30_0 : w21.cell? ⟨gb395, 0, none⟩ = some (.int .i64 t392) := (blk_cell BK395.out 0).trans rfl
        have hcz30_1 : w21.cell? ⟨gb395, 1, none⟩ = some (.int .i64 t393) := (blk_cell BK395.out 1).trans rfl
        have hfz30_0 := blk_frozen BK395.out 0
        have hfz30_1 := blk_frozen BK395.out 1
        have hnb31 := NB399_390.out
        have hnc31 := NB390_399.out
        have hnb32 := NB399_391.out
        have hnc32 := NB391_399.out
        have hcz33_0 : w21.cell? ⟨gb399, 0, none⟩ = some (.int .i64 0) := (blk_cell BK399.out 0).trans rfl
        have hcz33_1 : w21.cell? ⟨gb399, 1, none⟩ = some (.int .i64 0) := (blk_cell BK399.out 1).trans rfl
        have hfz33_0 := blk_frozen BK399.out 0
        have hfz33_1 := blk_frozen BK399.out 1
        go_wp2
        go_meet
        case rel => exact ⟨_, (true), (by first | rfl | (simp; done) | (simp [*]; done)), H', ⟨by first | omega | exact Nat.le_refl _⟩, ⟨by (with_reducible repeat (first | refine blk_drewN ?_ _ | refine blk_drew ?_ | refine blk_alloc ?_ _)); refine blk_far ?_ NB390_399.out _; (with_reducible repeat (first | refine blk_drewN ?_ _ | refine blk_drew ?_ | refine blk_alloc ?_ _)); refine blk_far ?_ NB390_399.out _; (with_reducible repeat (first | refine blk_drewN ?_ _ | refine blk_drew ?_ | refine blk_alloc ?_ _)); exact BK390.out⟩, ⟨by (with_reducible repeat (first | refine blk_drewN ?_ _ | refine blk_drew ?_ | refine blk_alloc ?_ _)); refine blk_far ?_ NB391_399.out _; (with_reducible repeat (first | refine blk_drewN ?_ _ | refine blk_drew ?_ | refine blk_alloc ?_ _)); refine blk_far ?_ NB391_399.out _; (with_reducible repeat (first | refine blk_drewN ?_ _ | refine blk_drew ?_ | refine blk_alloc ?_ _)); exact BK391.out⟩, ⟨by (with_reducible repeat (first | refine blk_drewN ?_ _ | refine blk_drew ?_ | refine blk_alloc ?_ _)); refine blk_far ?_ NB395_399.out _; (with_reducible repeat (first | refine blk_drewN ?_ _ | refine blk_drew ?_ | refine blk_alloc ?_ _)); refine blk_far ?_ NB395_399.out _; (with_reducible repeat (first | refine blk_drewN ?_ _ | refine blk_drew ?_ | refine blk_alloc ?_ _)); exact BK395.out⟩, ⟨by (with_reducible repeat (first | refine blk_drewN ?_ _ | refine blk_drew ?_ | refine blk_alloc ?_ _)); refine blk_put (cs := #[.int .i64 t396, .int .i64 0]) ?_ 1 _ rfl; (with_reducible repeat (first | refine blk_drewN ?_ _ | refine blk_drew ?_ | refine blk_alloc ?_ _)); refine blk_put (cs := #[.int .i64 0, .int .i64 0]) ?_ 0 _ rfl; (with_reducible repeat (first | refine blk_drewN ?_ _ | refine blk_drew ?_ | refine blk_alloc ?_ _)); exact BK399.out⟩, ⟨by repeat (first | (with_reducible first | exact HB.out | apply below_alloc | apply pw_below_drewN | apply below_drew1 | refine below_set ?_ GE390.out | refine below_set ?_ GE391.out | refine below_set ?_ GE395.out | refine below_set ?_ GE399.out) | exact HB.out)⟩⟩
      · rw [if_neg c26] at H
        have c26b0 : (!(t392 == t396) || (!(t393 == t397))) = false := by simpa using c26
        clear c26
        (first | rw [c26b0] | (simp only [i64_w, i32_w]; rw [c26b0]) | skip)
        by_cases c34 : (t394 != t398) = true
        · rw [if_pos c34] at H
          have c34b0 : (t394 != t398) = true := c34
          (try (have c34b1 : decide (t394 = t398) = false := by simpa using c34))
          (try (have c34b2 : (t394 == t398) = false := by simpa using c34))
          (try (have c34b3 : ¬ (t394 = t398) := by simpa using c34))
          clear c34
          have H' := Aside0.mk H
          clear H
          have hnb35 := NB395_390.out
          have hnc35 := NB390_395.out
          have hnb36 := NB395_391.out
          have hnc36 := NB391_395.out
          have hnb37 := NB395_399.out
          have hnc37 := NB399_395.out
          have hcz38_0 : w21.cell? ⟨gb395, 0, none⟩ = some (.int .i64 t392) := (blk_cell BK395.out 0).trans rfl
          have hcz38_1 : w21.cell? ⟨gb395, 1, none⟩ = some (.int .i64 t393) := (blk_cell BK395.out 1).trans rfl
          have hfz38_0 := blk_frozen BK395.out 0
          have hfz38_1 := blk_frozen BK395.out 1
          have hnb39 := NB399_390.out
          have hnc39 := NB390_399.out
          have hnb40 := NB399_391.out
          have hnc40 := NB391_399.out
          have hcz41_0 : w21.cell? ⟨gb399, 0, none⟩ = some (.int .i64 0) := (blk_cell BK399.out 0).trans rfl
          have hcz41_1 : w21.cell? ⟨gb399, 1, none⟩ = some (.int .i64 0) := (blk_cell BK399.out 1).trans rfl
          have hfz41_0 := blk_frozen BK399.out 0
          have hfz41_1 := blk_frozen BK399.out 1
          go_wp2
          go_meet
          case rel => exact ⟨_, (true), (by first | rfl | (simp; done) | (simp [*]; done)), H', ⟨by first | omega | exact Nat.le_refl _⟩, ⟨by (with_reducible repeat (first | refine blk_drewN ?_ _ | refine blk_drew ?_ | refine blk_alloc ?_ _)); refine blk_far ?_ NB390_399.out _; (with_reducible repeat (first | refine blk_drewN ?_ _ | refine blk_drew ?_ | refine blk_alloc ?_ _)); refine blk_far ?_ NB390_399.out _; (with_reducible repeat (first | refine blk_drewN ?_ _ | refine blk_drew ?_ | refine blk_alloc ?_ _)); exact BK390.out⟩, ⟨by (with_reducible repeat (first | refine blk_drewN ?_ _ | refine blk_drew ?_ | refine blk_alloc ?_ _)); refine blk_far ?_ NB391_399.out _; (with_reducible repeat (first | refine blk_drewN ?_ _ | refine blk_drew ?_ | refine blk_alloc ?_ _)); refine blk_far ?_ NB391_399.out _; (with_reducible repeat (first | refine blk_drewN ?_ _ | refine blk_drew ?_ | refine blk_alloc ?_ _)); exact BK391.out⟩, ⟨by (with_reducible repeat (first | refine blk_drewN ?_ _ | refine blk_drew ?_ | refine blk_alloc ?_ _)); refine blk_far ?_ NB395_399.out _; (with_reducible repeat (first | refine blk_drewN ?_ _ | refine blk_drew ?_ | refine blk_alloc ?_ _)); refine blk_far ?_ NB395_399.out _; (with_reducible repeat (first | refine blk_drewN ?_ _ | refine blk_drew ?_ | refine blk_alloc ?_ _)); exact BK395.out⟩, ⟨by (with_reducible repeat (first | refine blk_drewN ?_ _ | refine blk_drew ?_ | refine blk_alloc ?_ _)); refine blk_put (cs := #[.int .i64 t396, .int .i64 0]) ?_ 1 _ rfl; (with_reducible repeat (first | refine blk_drewN ?_ _ | refine blk_drew ?_ | refine blk_alloc ?_ _)); refine blk_put (cs := #[.int .i64 0, .int .i64 0]) ?_ 0 _ rfl; (with_reducible repeat (first | refine blk_drewN ?_ _ | refine blk_drew ?_ | refine blk_alloc ?_ _)); exact BK399.out⟩, ⟨by repeat (first | (with_reducible first | exact HB.out | apply below_alloc | apply pw_below_drewN | apply below_drew1 | refine below_set ?_ GE390.out | refine below_set ?_ GE391.out | refine below_set ?_ GE395.out | refine below_set ?_ GE399.out) | exact HB.out)⟩⟩
        · rw [if_neg c34] at H
          have c34b0 : (t394 != t398) = false := by simpa using c34
          (try (have c34b1 : decide (t394 = t398) = true := by simpa using c34))
          (try (have c34b2 : (t394 == t398) = true := by simpa using c34))
          clear c34
          have H' := Aside0.mk H
          clear H
          have hnb42 := NB395_390.out
          have hnc42 := NB390_395.out
          have hnb43 := NB395_391.out
          have hnc43 := NB391_395.out
          have hnb44 := NB395_399.out
          have hnc44 := NB399_395.out
          have hcz45_0 : w21.cell? ⟨gb395, 0, none⟩ = some (.int .i64 t392) := (blk_cell BK395.out 0).trans rfl
          have hcz45_1 : w21.cell? ⟨gb395, 1, none⟩ = some (.int .i64 t393) := (blk_cell BK395.out 1).trans rfl
          have hfz45_0 := blk_frozen BK395.out 0
          have hfz45_1 := blk_frozen BK395.out 1
          have hnb46 := NB399_390.out
          have hnc46 := NB390_399.out
          have hnb47 := NB399_391.out
          have hnc47 := NB391_399.out
          have hcz48_0 : w21.cell? ⟨gb399, 0, none⟩ = some (.int .i64 0) := (blk_cell BK399.out 0).trans rfl
          have hcz48_1 : w21.cell? ⟨gb399, 1, none⟩ = some (.int .i64 0) := (blk_cell BK399.out 1).trans rfl
          have hfz48_0 := blk_frozen BK399.out 0
          have hfz48_1 := blk_frozen BK399.out 1
          go_wp2
          go_meet
          case rel => exact ⟨_, (!t394), (by first | rfl | (simp; done) | (simp [*]; done)), H', ⟨by first | omega | exact Nat.le_refl _⟩, ⟨by (with_reducible repeat (first | refine blk_drewN ?_ _ | refine blk_drew ?_ | refine blk_alloc ?_ _)); refine blk_far ?_ NB390_399.out _; (with_reducible repeat (first | refine blk_drewN ?_ _ | refine blk_drew ?_ | refine blk_alloc ?_ _)); refine blk_far ?_ NB390_399.out _; (with_reducible repeat (first | refine blk_drewN ?_ _ | refine blk_drew ?_ | refine blk_alloc ?_ _)); exact BK390.out⟩, ⟨by (with_reducible repeat (first | refine blk_drewN ?_ _ | refine blk_drew ?_ | refine blk_alloc ?_ _)); refine blk_far ?_ NB391_399.out _; (with_reducible repeat (first | refine blk_drewN ?_ _ | refine blk_drew ?_ | refine blk_alloc ?_ _)); refine blk_far ?_ NB391_399.out _; (with_reducible repeat (first | refine blk_drewN ?_ _ | refine blk_drew ?_ | refine blk_alloc ?_ _)); exact BK391.out⟩, ⟨by (with_reducible repeat (first | refine blk_drewN ?_ _ | refine blk_drew ?_ | refine blk_alloc ?_ _)); refine blk_far ?_ NB395_399.out _; (with_reducible repeat (first | refine blk_drewN ?_ _ | refine blk_drew ?_ | refine blk_alloc ?_ _)); refine blk_far ?_ NB395_399.out _; (with_reducible repeat (first | refine blk_drewN ?_ _ | refine blk_drew ?_ | refine blk_alloc ?_ _)); exact BK395.out⟩, ⟨by (with_reducible repeat (first | refine blk_drewN ?_ _ | refine blk_drew ?_ | refine blk_alloc ?_ _)); refine blk_put (cs := #[.int .i64 t396, .int .i64 0]) ?_ 1 _ rfl; (with_reducible repeat (first | refine blk_drewN ?_ _ | refine blk_drew ?_ | refine blk_alloc ?_ _)); refine blk_put (cs := #[.int .i64 0, .int .i64 0]) ?_ 0 _ rfl; (with_reducible repeat (first | refine blk_drewN ?_ _ | refine blk_drew ?_ | refine blk_alloc ?_ _)); exact BK399.out⟩, ⟨by repeat (first | (with_reducible first | exact HB.out | apply below_alloc | apply pw_below_drewN | apply below_drew1 | refine below_set ?_ GE390.out | refine below_set ?_ GE391.out | refine below_set ?_ GE395.out | refine below_set ?_ GE399.out) | exact HB.out)⟩⟩
    case rest =>
      clear HC6
      try clear c1
      try clear c2
      try clear c2b0
      try clear c2b1
      try clear p2
      try clear c3
      try clear c4
      try clear c7
      try clear c10
      try clear c15
      try clear c16
      try clear c22
      try clear c23
      try clear c24
      try clear c25
      try clear c26
      try clear c26b0
      try clear c27
      try clear c28
      try clear c29
      try clear c31
      try clear c32
      try clear c34
      try clear c34b0
      try clear c34b1
      try clear c34b2
      try clear c35
      try clear c36
      try clear c37
      try clear c39
      try clear c40
      try clear c42
      try clear c43
      try clear c44
      try clear c46
      try clear c47
      try clear hcz11_0
      try clear hcz11_1
      try clear hcz12_0
      try clear hcz12_1
      try clear hcz17_0
      try clear hcz17_1
      try clear hcz18_0
      try clear hcz18_1
      try clear hcz19_0
      try clear hcz19_1
      try clear hcz25_0
      try clear hcz25_1
      try clear hcz30_0
      try clear hcz30_1
      try clear hcz33_0
      try clear hcz33_1
      try clear hcz38_0
      try clear hcz38_1
      try clear hcz41_0
      try clear hcz41_1
      try clear hcz45_0
      try clear hcz45_1
      try clear hcz48_0
      try clear hcz48_1
      try clear hfz11_0
      try clear hfz11_1
      try clear hfz12_0
      try clear hfz12_1
      try clear hfz17_0
      try clear hfz17_1
      try clear hfz18_0
      try clear hfz18_1
      try clear hfz19_0
      try clear hfz19_1
      try clear hfz25_0
      try clear hfz25_1
      try clear hfz30_0
      try clear hfz30_1
      try clear hfz33_0
      try clear hfz33_1
      try clear hfz38_0
      try clear hfz38_1
      try clear hfz41_0
      try clear hfz41_1
      try clear hfz45_0
      try clear hfz45_1
      try clear hfz48_0
      try clear hfz48_1
      obtain ⟨kq, x44_5, rfl, HA, HJ5, BK390, BK391, BK395, BK399, HB⟩ := hcut
      cases kq with
      | zero => exact absurd HA.out (by simp [laws_FnDecSub.j0])
      | succ kj5 =>
        have H := HA.out
        clear HA
        simp only [laws_FnDecSub.j0] at H
        by_cases c49 : x44_5 = true
        · subst c49
          have H1 : (if (t392 == t396 && (t393 == t397)) = true then (some (t394 == t398)) else (none)) = some r := by rw [if_pos rfl] at H; exact H
          clear H
          have H := H1
          clear H1
          by_cases c50 : (t392 == t396 && (t393 == t397)) = true
          · rw [if_pos c50] at H
            have c50b0 : (t392 == t396 && (t393 == t397)) = true := c50
            (try (have c50b1 : decide (t392 = t396 && (t393 == t397)) = true := by simpa using c50))
            (try (have c50b2 : (t392 == t396 && (t393 == t397)) = true := by simpa using c50))
            clear c50
            obtain rfl := Option.some.inj H
            have hnb51 := NB395_390.out
            have hnc51 := NB390_395.out
            have hnb52 := NB395_391.out
            have hnc52 := NB391_395.out
            have hnb53 := NB395_399.out
            have hnc53 := NB399_395.out
            have hcz54_0 : wc.cell? ⟨gb395, 0, none⟩ = some (.int .i64 t392) := (blk_cell BK395.out 0).trans rfl
            have hcz54_1 : wc.cell? ⟨gb395, 1, none⟩ = some (.int .i64 t393) := (blk_cell BK395.out 1).trans rfl
            have hfz54_0 := blk_frozen BK395.out 0
            have hfz54_1 := blk_frozen BK395.out 1
            have hnb55 := NB399_390.out
            have hnc55 := NB390_399.out
            have hnb56 := NB399_391.out
            have hnc56 := NB391_399.out
            have hcz57_0 : wc.cell? ⟨gb399, 0, none⟩ = some (.int .i64 t396) := (blk_cell BK399.out 0).trans rfl
            have hcz57_1 : wc.cell? ⟨gb399, 1, none⟩ = some (.int .i64 t397) := (blk_cell BK399.out 1).trans rfl
            have hfz57_0 := blk_frozen BK399.out 0
            have hfz57_1 := blk_frozen BK399.out 1
            go_wp2
            go_ret
            exact ⟨by first | rfl | (simp [errW_none, errW_some] <;> rfl) | (simp [*, errW_none, errW_some] <;> rfl), by repeat (first | (with_reducible first | exact HB.out | apply below_alloc | apply pw_below_drewN | apply below_drew1 | refine below_set ?_ GE390.out | refine below_set ?_ GE391.out | refine below_set ?_ GE395.out | refine below_set ?_ GE399.out) | exact HB.out)⟩
          · rw [if_neg c50] at H
            exact absurd H (by simp)
        · replace c49 := Bool.eq_false_iff.mpr c49
          subst c49
          have H1 : ((impl_DecSub.f kj5 t388 t389 t386 t387).bind fun bt400 => ((impl_DecSub.f kj5 t386 t387 t386 t387).bind fun bt404 => (if bt400.2.2 = true then (if bt400.1 = (wrap64 (-t392)) then (if bt400.2.1 = t393 then (if bt404.2.2 = true then (some (bt404.1 == 0 && (bt404.2.1 == 0))) else (none)) else (none)) else (none)) else (none)))) = some r := by rw [if_neg (show ¬ (false = true) by decide)] at H; exact H
          clear H
          have H := H1
          clear H1
          replace H := Option.bind_eq_some_iff.mp H
          obtain ⟨⟨t400, t401, t402⟩, A580, H⟩ := H
          replace H : ((impl_DecSub.f kj5 t386 t387 t386 t387).bind fun bt404 => (if t402 = true then (if t400 = (wrap64 (-t392)) then (if t401 = t393 then (if bt404.2.2 = true then (some (bt404.1 == 0 && (bt404.2.1 == 0))) else (none)) else (none)) else (none)) else (none))) = some r := H
          have A58 := Aside0.mk A580
          clear A580
          replace H := Option.bind_eq_some_iff.mp H
          obtain ⟨⟨t404, t405, t406⟩, A590, H⟩ := H
          replace H : (if t402 = true then (if t400 = (wrap64 (-t392)) then (if t401 = t393 then (if t406 = true then (some (t404 == 0 && (t405 == 0))) else (none)) else (none)) else (none)) else (none)) = some r := H
          have A59 := Aside0.mk A590
          clear A590
          by_cases c60 : t402 = true
          · subst c60
            have H1 : (if t400 = (wrap64 (-t392)) then (if t401 = t393 then (if t406 = true then (some (t404 == 0 && (t405 == 0))) else (none)) else (none)) else (none)) = some r := by rw [if_pos rfl] at H; exact H
            clear H
            have H := H1
            clear H1
            by_cases c61 : t400 = (wrap64 (-t392))
            · rw [if_pos c61] at H
              have c61b0 : (t400 == (wrap64 (-t392))) = true := beq_iff_eq.mpr c61
              have c61b1 : (t400 != (wrap64 (-t392))) = false := bne_eq_false_iff_eq.mpr c61
              clear c61
              by_cases c62 : t401 = t393
              · rw [if_pos c62] at H
                have c62b0 : (t401 == t393) = true := beq_iff_eq.mpr c62
                have c62b1 : (t401 != t393) = false := bne_eq_false_iff_eq.mpr c62
                clear c62
                by_cases c63 : t406 = true
                · subst c63
                  have H1 : (some (t404 == 0 && (t405 == 0))) = some r := by rw [if_pos rfl] at H; exact H
                  clear H
                  have H := H1
                  clear H1
                  obtain rfl := Option.some.inj H
                  have hnb64 := NB391_390.out
                  have hnc64 := NB390_391.out
                  have hnb65 := NB391_395.out
                  have hnc65 := NB395_391.out
                  have hnb66 := NB391_399.out
                  have hnc66 := NB399_391.out
                  have hcz67_0 : wc.cell? ⟨gb391, 0, none⟩ = some (.int .i64 t388) := (blk_cell BK391.out 0).trans rfl
                  have hcz67_1 : wc.cell? ⟨gb391, 1, none⟩ = some (.int .i64 t389) := (blk_cell BK391.out 1).trans rfl
                  have hfz67_0 := blk_frozen BK391.out 0
                  have hfz67_1 := blk_frozen BK391.out 1
                  have hnb68 := NB390_395.out
                  have hnc68 := NB395_390.out
                  have hnb69 := NB390_399.out
                  have hnc69 := NB399_390.out
                  have hcz70_0 : wc.cell? ⟨gb390, 0, none⟩ = some (.int .i64 t386) := (blk_cell BK390.out 0).trans rfl
                  have hcz70_1 : wc.cell? ⟨gb390, 1, none⟩ = some (.int .i64 t387) := (blk_cell BK390.out 1).trans rfl
                  have hfz70_0 := blk_frozen BK390.out 0
                  have hfz70_1 := blk_frozen BK390.out 1
                  go_wp2_with (first | ((with_reducible refine gate_callee (f := 24) rfl ?_); refine goesL_ (some 56) rfl rfl Try.func24 (by kernel_rfl) rfl #[.agg #[.int .i64 t388, .int .i64 t389], .agg #[.int .i64 t386, .int .i64 t387]] rfl (by (try simp only [List.map_toArray, List.map_cons, List.map_nil]); first | done | rfl | (simp only [List.length_drop, List.length_take]; rfl)) ?_; (with_reducible refine (impl_DecSub.calls kj5 t388 t389 t386 t387 t400 t401 true _ A58.out).mono ?_); rintro e w71 ⟨rfl, hb⟩; refine ⟨_, rfl, ?_⟩; have n0_ := Aside0.mk (blk_below (g := gb390) (o := .cells #[.int .i64 t386, .int .i64 t387] 26 (0, 0)) (by (with_reducible repeat (first | refine blk_drewN ?_ _ | refine blk_drew ?_ | refine blk_alloc ?_ _)); exact BK390.out) hb); have n1_ := Aside0.mk (blk_below (g := gb391) (o := .cells #[.int .i64 t388, .int .i64 t389] 26 (0, 0)) (by (with_reducible repeat (first | refine blk_drewN ?_ _ | refine blk_drew ?_ | refine blk_alloc ?_ _)); exact BK391.out) hb); have n2_ := Aside0.mk (blk_below (g := gb395) (o := .cells #[.int .i64 t392, .int .i64 t393] 26 (0, 0)) (by (with_reducible repeat (first | refine blk_drewN ?_ _ | refine blk_drew ?_ | refine blk_alloc ?_ _)); exact BK395.out) hb); have n3_ := Aside0.mk (blk_below (g := gb399) (o := .cells #[.int .i64 t396, .int .i64 t397] 26 (0, 0)) (by (with_reducible repeat (first | refine blk_drewN ?_ _ | refine blk_drew ?_ | refine blk_alloc ?_ _)); exact BK399.out) hb); have n4_ := Aside0.mk (below_step (by repeat (first | (with_reducible first | exact HB.out | apply below_alloc | apply pw_below_drewN | apply below_drew1 | refine below_set ?_ GE390.out | refine below_set ?_ GE391.out | refine below_set ?_ GE395.out | refine below_set ?_ GE399.out) | exact HB.out)) hb); clear BK390; clear BK391; clear BK395; clear BK399; clear HB; have BK390 := n0_; have BK391 := n1_; have BK395 := n2_; have BK399 := n3_; have HB := n4_; clear n0_ n1_ n2_ n3_ n4_; (try clear hb); (try clear hb2); (try clear hk); (try clear hi)) | ((with_reducible refine gate_dst (N := 9) rfl ?_); refine box_event ?hg (N := 9) ?hd (cs := #[.int .i64 0, .int .i64 0]) (t := 26) ?hr ?_; (case hd => rfl); (case hg => rfl); (case hr => first | (go_simp; done) | (go_simp; rfl)); intro gb403 hg w72 hbox hb; have n0_ := Aside0.mk (blk_below (g := gb390) (o := .cells #[.int .i64 t386, .int .i64 t387] 26 (0, 0)) (by (with_reducible repeat (first | refine blk_drewN ?_ _ | refine blk_drew ?_ | refine blk_alloc ?_ _)); exact BK390.out) hb); have n1_ := Aside0.mk (blk_below (g := gb391) (o := .cells #[.int .i64 t388, .int .i64 t389] 26 (0, 0)) (by (with_reducible repeat (first | refine blk_drewN ?_ _ | refine blk_drew ?_ | refine blk_alloc ?_ _)); exact BK391.out) hb); have n2_ := Aside0.mk (blk_below (g := gb395) (o := .cells #[.int .i64 t392, .int .i64 t393] 26 (0, 0)) (by (with_reducible repeat (first | refine blk_drewN ?_ _ | refine blk_drew ?_ | refine blk_alloc ?_ _)); exact BK395.out) hb); have n3_ := Aside0.mk (blk_below (g := gb399) (o := .cells #[.int .i64 t396, .int .i64 t397] 26 (0, 0)) (by (with_reducible repeat (first | refine blk_drewN ?_ _ | refine blk_drew ?_ | refine blk_alloc ?_ _)); exact BK399.out) hb); have n4_ := Aside0.mk (below_step (by repeat (first | (with_reducible first | exact HB.out | apply below_alloc | apply pw_below_drewN | apply below_drew1 | refine below_set ?_ GE390.out | refine below_set ?_ GE391.out | refine below_set ?_ GE395.out | refine below_set ?_ GE399.out) | exact HB.out)) hb); have n5_ := Aside0.mk (hbox); have n6_ := Aside0.mk ((by rw [hg]; exact (below_size (by repeat (first | (with_reducible first | exact HB.out | apply below_alloc | apply pw_below_drewN | apply below_drew1 | refine below_set ?_ GE390.out | refine below_set ?_ GE391.out | refine below_set ?_ GE395.out | refine below_set ?_ GE399.out) | exact HB.out))) : w.heap.size ≤ gb403)); have n7_ := Aside0.mk ((by rw [hg]; exact (below_size (by repeat (first | (with_reducible first | exact HB.out | apply below_alloc | apply pw_below_drewN | apply below_drew1 | refine below_set ?_ GE390.out | refine below_set ?_ GE391.out | refine below_set ?_ GE395.out | refine below_set ?_ GE399.out) | exact HB.out))) : w.heap.size ≤ gb403)); have n8_ := Aside0.mk ((by rw [hg]; exact Nat.ne_of_lt (blk_lt (g := gb390) (o := .cells #[.int .i64 t386, .int .i64 t387] 26 (0, 0)) (by (with_reducible repeat (first | refine blk_drewN ?_ _ | refine blk_drew ?_ | refine blk_alloc ?_ _)); exact BK390.out)) : gb390 ≠ gb403)); have n9_ := Aside0.mk ((by rw [hg]; exact Nat.ne_of_gt (blk_lt (g := gb390) (o := .cells #[.int .i64 t386, .int .i64 t387] 26 (0, 0)) (by (with_reducible repeat (first | refine blk_drewN ?_ _ | refine blk_drew ?_ | refine blk_alloc ?_ _)); exact BK390.out)) : gb403 ≠ gb390)); have n10_ := Aside0.mk ((by rw [hg]; exact Nat.ne_of_lt (blk_lt (g := gb391) (o := .cells #[.int .i64 t388, .int .i64 t389] 26 (0, 0)) (by (with_reducible repeat (first | refine blk_drewN ?_ _ | refine blk_drew ?_ | refine blk_alloc ?_ _)); exact BK391.out)) : gb391 ≠ gb403)); have n11_ := Aside0.mk ((by rw [hg]; exact Nat.ne_of_gt (blk_lt (g := gb391) (o := .cells #[.int .i64 t388, .int .i64 t389] 26 (0, 0)) (by (with_reducible repeat (first | refine blk_drewN ?_ _ | refine blk_drew ?_ | refine blk_alloc ?_ _)); exact BK391.out)) : gb403 ≠ gb391)); have n12_ := Aside0.mk ((by rw [hg]; exact Nat.ne_of_lt (blk_lt (g := gb395) (o := .cells #[.int .i64 t392, .int .i64 t393] 26 (0, 0)) (by (with_reducible repeat (first | refine blk_drewN ?_ _ | refine blk_drew ?_ | refine blk_alloc ?_ _)); exact BK395.out)) : gb395 ≠ gb403)); have n13_ := Aside0.mk ((by rw [hg]; exact Nat.ne_of_gt (blk_lt (g := gb395) (o := .cells #[.int .i64 t392, .int .i64 t393] 26 (0, 0)) (by (with_reducible repeat (first | refine blk_drewN ?_ _ | refine blk_drew ?_ | refine blk_alloc ?_ _)); exact BK395.out)) : gb403 ≠ gb395)); have n14_ := Aside0.mk ((by rw [hg]; exact Nat.ne_of_lt (blk_lt (g := gb399) (o := .cells #[.int .i64 t396, .int .i64 t397] 26 (0, 0)) (by (with_reducible repeat (first | refine blk_drewN ?_ _ | refine blk_drew ?_ | refine blk_alloc ?_ _)); exact BK399.out)) : gb399 ≠ gb403)); have n15_ := Aside0.mk ((by rw [hg]; exact Nat.ne_of_gt (blk_lt (g := gb399) (o := .cells #[.int .i64 t396, .int .i64 t397] 26 (0, 0)) (by (with_reducible repeat (first | refine blk_drewN ?_ _ | refine blk_drew ?_ | refine blk_alloc ?_ _)); exact BK399.out)) : gb403 ≠ gb399)); clear BK390; clear BK391; clear BK395; clear BK399; clear HB; have BK390 := n0_; have BK391 := n1_; have BK395 := n2_; have BK399 := n3_; have HB := n4_; have BK403 := n5_; have GW403 := n6_; have GE403 := n7_; have NB390_403 := n8_; have NB403_390 := n9_; have NB391_403 := n10_; have NB403_391 := n11_; have NB395_403 := n12_; have NB403_395 := n13_; have NB399_403 := n14_; have NB403_399 := n15_; clear n0_ n1_ n2_ n3_ n4_ n5_ n6_ n7_ n8_ n9_ n10_ n11_ n12_ n13_ n14_ n15_; clear hb hbox hg; have hnb73 := NB403_390.out; have hnc73 := NB390_403.out; have hnb74 := NB403_391.out; have hnc74 := NB391_403.out; have hnb75 := NB403_395.out; have hnc75 := NB395_403.out; have hnb76 := NB403_399.out; have hnc76 := NB399_403.out; have hcz77_0 : w72.cell? ⟨gb403, 0, none⟩ = some (.int .i64 0) := (blk_cell BK403.out 0).trans rfl; have hcz77_1 : w72.cell? ⟨gb403, 1, none⟩ = some (.int .i64 0) := (blk_cell BK403.out 1).trans rfl; have hfz77_0 := blk_frozen BK403.out 0; have hfz77_1 := blk_frozen BK403.out 1; have hcz78_0 : w72.cell? ⟨gb390, 0, none⟩ = some (.int .i64 t386) := (blk_cell BK390.out 0).trans rfl; have hcz78_1 : w72.cell? ⟨gb390, 1, none⟩ = some (.int .i64 t387) := (blk_cell BK390.out 1).trans rfl; have hfz78_0 := blk_frozen BK390.out 0; have hfz78_1 := blk_frozen BK390.out 1) | ((with_reducible refine gate_callee (f := 24) rfl ?_); refine goesL_ (some 62) rfl rfl Try.func24 (by kernel_rfl) rfl #[.agg #[.int .i64 t386, .int .i64 t387], .agg #[.int .i64 t386, .int .i64 t387]] rfl (by (try simp only [List.map_toArray, List.map_cons, List.map_nil]); first | done | rfl | (simp only [List.length_drop, List.length_take]; rfl)) ?_; (with_reducible refine (impl_DecSub.calls kj5 t386 t387 t386 t387 t404 t405 true _ A59.out).mono ?_); rintro e w79 ⟨rfl, hb⟩; refine ⟨_, rfl, ?_⟩; have n0_ := Aside0.mk (blk_below (g := gb390) (o := .cells #[.int .i64 t386, .int .i64 t387] 26 (0, 0)) (by (with_reducible repeat (first | refine blk_drewN ?_ _ | refine blk_drew ?_ | refine blk_alloc ?_ _)); refine blk_far ?_ NB390_403.out _; (with_reducible repeat (first | refine blk_drewN ?_ _ | refine blk_drew ?_ | refine blk_alloc ?_ _)); refine blk_far ?_ NB390_403.out _; (with_reducible repeat (first | refine blk_drewN ?_ _ | refine blk_drew ?_ | refine blk_alloc ?_ _)); exact BK390.out) hb); have n1_ := Aside0.mk (blk_below (g := gb391) (o := .cells #[.int .i64 t388, .int .i64 t389] 26 (0, 0)) (by (with_reducible repeat (first | refine blk_drewN ?_ _ | refine blk_drew ?_ | refine blk_alloc ?_ _)); refine blk_far ?_ NB391_403.out _; (with_reducible repeat (first | refine blk_drewN ?_ _ | refine blk_drew ?_ | refine blk_alloc ?_ _)); refine blk_far ?_ NB391_403.out _; (with_reducible repeat (first | refine blk_drewN ?_ _ | refine blk_drew ?_ | refine blk_alloc ?_ _)); exact BK391.out) hb); have n2_ := Aside0.mk (blk_below (g := gb395) (o := .cells #[.int .i64 t392, .int .i64 t393] 26 (0, 0)) (by (with_reducible repeat (first | refine blk_drewN ?_ _ | refine blk_drew ?_ | refine blk_alloc ?_ _)); refine blk_far ?_ NB395_403.out _; (with_reducible repeat (first | refine blk_drewN ?_ _ | refine blk_drew ?_ | refine blk_alloc ?_ _)); refine blk_far ?_ NB395_403.out _; (with_reducible repeat (first | refine blk_drewN ?_ _ | refine blk_drew ?_ | refine blk_alloc ?_ _)); exact BK395.out) hb); have n3_ := Aside0.mk (blk_below (g := gb399) (o := .cells #[.int .i64 t396, .int .i64 t397] 26 (0, 0)) (by (with_reducible repeat (first | refine blk_drewN ?_ _ | refine blk_drew ?_ | refine blk_alloc ?_ _)); refine blk_far ?_ NB399_403.out _; (with_reducible repeat (first | refine blk_drewN ?_ _ | refine blk_drew ?_ | refine blk_alloc ?_ _)); refine blk_far ?_ NB399_403.out _; (with_reducible repeat (first | refine blk_drewN ?_ _ | refine blk_drew ?_ | refine blk_alloc ?_ _)); exact BK399.out) hb); have n4_ := Aside0.mk (blk_below (g := gb403) (o := .cells #[.int .i64 t400, .int .i64 t401] 26 (0, 0)) (by (with_reducible repeat (first | refine blk_drewN ?_ _ | refine blk_drew ?_ | refine blk_alloc ?_ _)); refine blk_put (cs := #[.int .i64 t400, .int .i64 0]) ?_ 1 _ rfl; (with_reducible repeat (first | refine blk_drewN ?_ _ | refine blk_drew ?_ | refine blk_alloc ?_ _)); refine blk_put (cs := #[.int .i64 0, .int .i64 0]) ?_ 0 _ rfl; (with_reducible repeat (first | refine blk_drewN ?_ _ | refine blk_drew ?_ | refine blk_alloc ?_ _)); exact BK403.out) hb); have n5_ := Aside0.mk (below_step (by repeat (first | (with_reducible first | exact HB.out | apply below_alloc | apply pw_below_drewN | apply below_drew1 | refine below_set ?_ GE390.out | refine below_set ?_ GE391.out | refine below_set ?_ GE395.out | refine below_set ?_ GE399.out | refine below_set ?_ GE403.out) | exact HB.out)) hb); clear BK390; clear BK391; clear BK395; clear BK399; clear BK403; clear HB; have BK390 := n0_; have BK391 := n1_; have BK395 := n2_; have BK399 := n3_; have BK403 := n4_; have HB := n5_; clear n0_ n1_ n2_ n3_ n4_ n5_; (try clear hb); (try clear hb2); (try clear hk); (try clear hi)) | ((with_reducible refine gate_dst (N := 11) rfl ?_); refine box_event ?hg (N := 11) ?hd (cs := #[.int .i64 0, .int .i64 0]) (t := 26) ?hr ?_; (case hd => rfl); (case hg => rfl); (case hr => first | (go_simp; done) | (go_simp; rfl)); intro gb407 hg w80 hbox hb; have n0_ := Aside0.mk (blk_below (g := gb390) (o := .cells #[.int .i64 t386, .int .i64 t387] 26 (0, 0)) (by (with_reducible repeat (first | refine blk_drewN ?_ _ | refine blk_drew ?_ | refine blk_alloc ?_ _)); exact BK390.out) hb); have n1_ := Aside0.mk (blk_below (g := gb391) (o := .cells #[.int .i64 t388, .int .i64 t389] 26 (0, 0)) (by (with_reducible repeat (first | refine blk_drewN ?_ _ | refine blk_drew ?_ | refine blk_alloc ?_ _)); exact BK391.out) hb); have n2_ := Aside0.mk (blk_below (g := gb395) (o := .cells #[.int .i64 t392, .int .i64 t393] 26 (0, 0)) (by (with_reducible repeat (first | refine blk_drewN ?_ _ | refine blk_drew ?_ | refine blk_alloc ?_ _)); exact BK395.out) hb); have n3_ := Aside0.mk (blk_below (g := gb399) (o := .cells #[.int .i64 t396, .int .i64 t397] 26 (0, 0)) (by (with_reducible repeat (first | refine blk_drewN ?_ _ | refine blk_drew ?_ | refine blk_alloc ?_ _)); exact BK399.out) hb); have n4_ := Aside0.mk (blk_below (g := gb403) (o := .cells #[.int .i64 t400, .int .i64 t401] 26 (0, 0)) (by (with_reducible repeat (first | refine blk_drewN ?_ _ | refine blk_drew ?_ | refine blk_alloc ?_ _)); exact BK403.out) hb); have n5_ := Aside0.mk (below_step (by repeat (first | (with_reducible first | exact HB.out | apply below_alloc | apply pw_below_drewN | apply below_drew1 | refine below_set ?_ GE390.out | refine below_set ?_ GE391.out | refine below_set ?_ GE395.out | refine below_set ?_ GE399.out | refine below_set ?_ GE403.out) | exact HB.out)) hb); have n6_ := Aside0.mk (hbox); have n7_ := Aside0.mk ((by rw [hg]; exact (below_size (by repeat (first | (with_reducible first | exact HB.out | apply below_alloc | apply pw_below_drewN | apply below_drew1 | refine below_set ?_ GE390.out | refine below_set ?_ GE391.out | refine below_set ?_ GE395.out | refine below_set ?_ GE399.out | refine below_set ?_ GE403.out) | exact HB.out))) : w.heap.size ≤ gb407)); have n8_ := Aside0.mk ((by rw [hg]; exact (below_size (by repeat (first | (with_reducible first | exact HB.out | apply below_alloc | apply pw_below_drewN | apply below_drew1 | refine below_set ?_ GE390.out | refine below_set ?_ GE391.out | refine below_set ?_ GE395.out | refine below_set ?_ GE399.out | refine below_set ?_ GE403.out) | exact HB.out))) : w.heap.size ≤ gb407)); have n9_ := Aside0.mk ((by rw [hg]; exact Nat.ne_of_lt (blk_lt (g := gb390) (o := .cells #[.int .i64 t386, .int .i64 t387] 26 (0, 0)) (by (with_reducible repeat (first | refine blk_drewN ?_ _ | refine blk_drew ?_ | refine blk_alloc ?_ _)); exact BK390.out)) : gb390 ≠ gb407)); have n10_ := Aside0.mk ((by rw [hg]; exact Nat.ne_of_gt (blk_lt (g := gb390) (o := .cells #[.int .i64 t386, .int .i64 t387] 26 (0, 0)) (by (with_reducible repeat (first | refine blk_drewN ?_ _ | refine blk_drew ?_ | refine blk_alloc ?_ _)); exact BK390.out)) : gb407 ≠ gb390)); have n11_ := Aside0.mk ((by rw [hg]; exact Nat.ne_of_lt (blk_lt (g := gb391) (o := .cells #[.int .i64 t388, .int .i64 t389] 26 (0, 0)) (by (with_reducible repeat (first | refine blk_drewN ?_ _ | refine blk_drew ?_ | refine blk_alloc ?_ _)); exact BK391.out)) : gb391 ≠ gb407)); have n12_ := Aside0.mk ((by rw [hg]; exact Nat.ne_of_gt (blk_lt (g := gb391) (o := .cells #[.int .i64 t388, .int .i64 t389] 26 (0, 0)) (by (with_reducible repeat (first | refine blk_drewN ?_ _ | refine blk_drew ?_ | refine blk_alloc ?_ _)); exact BK391.out)) : gb407 ≠ gb391)); have n13_ := Aside0.mk ((by rw [hg]; exact Nat.ne_of_lt (blk_lt (g := gb395) (o := .cells #[.int .i64 t392, .int .i64 t393] 26 (0, 0)) (by (with_reducible repeat (first | refine blk_drewN ?_ _ | refine blk_drew ?_ | refine blk_alloc ?_ _)); exact BK395.out)) : gb395 ≠ gb407)); have n14_ := Aside0.mk ((by rw [hg]; exact Nat.ne_of_gt (blk_lt (g := gb395) (o := .cells #[.int .i64 t392, .int .i64 t393] 26 (0, 0)) (by (with_reducible repeat (first | refine blk_drewN ?_ _ | refine blk_drew ?_ | refine blk_alloc ?_ _)); exact BK395.out)) : gb407 ≠ gb395)); have n15_ := Aside0.mk ((by rw [hg]; exact Nat.ne_of_lt (blk_lt (g := gb399) (o := .cells #[.int .i64 t396, .int .i64 t397] 26 (0, 0)) (by (with_reducible repeat (first | refine blk_drewN ?_ _ | refine blk_drew ?_ | refine blk_alloc ?_ _)); exact BK399.out)) : gb399 ≠ gb407)); have n16_ := Aside0.mk ((by rw [hg]; exact Nat.ne_of_gt (blk_lt (g := gb399) (o := .cells #[.int .i64 t396, .int .i64 t397] 26 (0, 0)) (by (with_reducible repeat (first | refine blk_drewN ?_ _ | refine blk_drew ?_ | refine blk_alloc ?_ _)); exact BK399.out)) : gb407 ≠ gb399)); have n17_ := Aside0.mk ((by rw [hg]; exact Nat.ne_of_lt (blk_lt (g := gb403) (o := .cells #[.int .i64 t400, .int .i64 t401] 26 (0, 0)) (by (with_reducible repeat (first | refine blk_drewN ?_ _ | refine blk_drew ?_ | refine blk_alloc ?_ _)); exact BK403.out)) : gb403 ≠ gb407)); have n18_ := Aside0.mk ((by rw [hg]; exact Nat.ne_of_gt (blk_lt (g := gb403) (o := .cells #[.int .i64 t400, .int .i64 t401] 26 (0, 0)) (by (with_reducible repeat (first | refine blk_drewN ?_ _ | refine blk_drew ?_ | refine blk_alloc ?_ _)); exact BK403.out)) : gb407 ≠ gb403)); clear BK390; clear BK391; clear BK395; clear BK399; clear BK403; clear HB; have BK390 := n0_; have BK391 := n1_; have BK395 := n2_; have BK399 := n3_; have BK403 := n4_; have HB := n5_; have BK407 := n6_; have GW407 := n7_; have GE407 := n8_; have NB390_407 := n9_; have NB407_390 := n10_; have NB391_407 := n11_; have NB407_391 := n12_; have NB395_407 := n13_; have NB407_395 := n14_; have NB399_407 := n15_; have NB407_399 := n16_; have NB403_407 := n17_; have NB407_403 := n18_; clear n0_ n1_ n2_ n3_ n4_ n5_ n6_ n7_ n8_ n9_ n10_ n11_ n12_ n13_ n14_ n15_ n16_ n17_ n18_; clear hb hbox hg; have hnb81 := NB407_390.out; have hnc81 := NB390_407.out; have hnb82 := NB407_391.out; have hnc82 := NB391_407.out; have hnb83 := NB407_395.out; have hnc83 := NB395_407.out; have hnb84 := NB407_399.out; have hnc84 := NB399_407.out; have hnb85 := NB407_403.out; have hnc85 := NB403_407.out; have hcz86_0 : w80.cell? ⟨gb407, 0, none⟩ = some (.int .i64 0) := (blk_cell BK407.out 0).trans rfl; have hcz86_1 : w80.cell? ⟨gb407, 1, none⟩ = some (.int .i64 0) := (blk_cell BK407.out 1).trans rfl; have hfz86_0 := blk_frozen BK407.out 0; have hfz86_1 := blk_frozen BK407.out 1; have hcz87_0 : w80.cell? ⟨gb403, 0, none⟩ = some (.int .i64 t400) := (blk_cell BK403.out 0).trans rfl; have hcz87_1 : w80.cell? ⟨gb403, 1, none⟩ = some (.int .i64 t401) := (blk_cell BK403.out 1).trans rfl; have hfz87_0 := blk_frozen BK403.out 0; have hfz87_1 := blk_frozen BK403.out 1; have hnb88 := NB395_399.out; have hnc88 := NB399_395.out; have hcz89_0 : w80.cell? ⟨gb395, 0, none⟩ = some (.int .i64 t392) := (blk_cell BK395.out 0).trans rfl; have hcz89_1 : w80.cell? ⟨gb395, 1, none⟩ = some (.int .i64 t393) := (blk_cell BK395.out 1).trans rfl; have hfz89_0 := blk_frozen BK395.out 0; have hfz89_1 := blk_frozen BK395.out 1))
                  go_ret
                  exact ⟨by first | rfl | (simp [errW_none, errW_some] <;> rfl) | (simp [*, errW_none, errW_some] <;> rfl), by repeat (first | (with_reducible first | exact HB.out | apply below_alloc | apply pw_below_drewN | apply below_drew1 | refine below_set ?_ GE390.out | refine below_set ?_ GE391.out | refine below_set ?_ GE395.out | refine below_set ?_ GE399.out | refine below_set ?_ GE403.out | refine below_set ?_ GE407.out) | exact HB.out)⟩
                · replace c63 := Bool.eq_false_iff.mpr c63
                  subst c63
                  have H1 : (none) = some r := by rw [if_neg (show ¬ (false = true) by decide)] at H; exact H
                  clear H
                  have H := H1
                  clear H1
                  exact absurd H (by simp)
              · rw [if_neg c62] at H
                exact absurd H (by simp)
            · rw [if_neg c61] at H
              exact absurd H (by simp)
          · replace c60 := Bool.eq_false_iff.mpr c60
            subst c60
            have H1 : (none) = some r := by rw [if_neg (show ¬ (false = true) by decide)] at H; exact H
            clear H
            have H := H1
            clear H1
            exact absurd H (by simp)

/-- THE ONE PURE STATEMENT of laws_FnDecSub: yours. -/
def laws_FnDecSub.Pure : Prop := ∀ (l0 : List Int), l0.length ≤ maxLen → l0.length * 1 ≤ 140737488351232 → (∀ x ∈ l0, (Lit.int .u8 x).wf = true) → ∃ k, laws_FnDecSub.f k l0 = some true
theorem laws_FnDecSub.walk (P : laws_FnDecSub.Pure) (a0 : Option Addr) (len0 cap0 : Nat) (z0 : List Int) (w : World) (w0 : (a0 = none ∧ len0 = 0 ∧ cap0 = 0 ∧ z0 = []) ∨ ∃ x, a0 = some x ∧ len0 ≤ cap0 ∧ cap0 ≤ maxLen ∧ z0.length = cap0 ∧ (∀ i, i < z0.length → w.cell? (x.add i) = some (.int .u8 (z0.getD i 0))) ∧ ∀ n ∈ z0, (Lit.int .u8 n).wf = true) (y0 : len0 * 1 ≤ 140737488351232) :
    Calls Try.prog 7 #[.slice a0 len0 cap0] w fun e w' => e = .returned (.bool true) ∧ Below w.heap.size w w' := by
  obtain ⟨l0, rfl, hr0, hm0, hw0, hc0⟩ := ReadsInt.ofRowC w0
  obtain ⟨k, h⟩ := P l0 hm0 y0 hw0
  refine (laws_FnDecSub.calls k _ _ l0 true w (Kd.C_of_reads (d := (0 : Int)) (h1 := fun _ => rfl) hr0) hc0 h).mono ?_
  rintro e w' ⟨rfl, hd⟩
  exact ⟨rfl, hd⟩

end Go.Proofs.Ytmoaolcioihjnaa.Q
