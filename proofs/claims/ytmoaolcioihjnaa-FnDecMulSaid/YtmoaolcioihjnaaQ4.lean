-- laid by a program of this session (wip/tools) out of the translation; Lean checks it
import Derived.Test.YtmoaolcioihjnaaQ0
import Derived.Test.YtmoaolcioihjnaaQ17
import Derived.Test.YtmoaolcioihjnaaQ18
import Derived.Test.YtmoaolcioihjnaaQ19
import Derived.Test.YtmoaolcioihjnaaQ20
import Derived.Test.YtmoaolcioihjnaaQE26
namespace Go.Proofs.Ytmoaolcioihjnaa.Q
open Go.RowKit Go.Proofs.YtmoaolcioihjnaaW.PrintWords Go.Proofs.YtmoaolcioihjnaaW.PrintLast Go.Proofs.YtmoaolcioihjnaaW.PrintMore Go.Proofs.YtmoaolcioihjnaaX
attribute [local go_sem] max2_int min2_int max_two min_two max_three min_three max_four min_four   -- for this text's walks alone
set_option linter.unusedVariables false
set_option linter.unusedSimpArgs false

attribute [local go_sem high] eqA26
/-! ### laws_FnDecMul: function 4 -/
def laws_FnDecMul.j0 : Nat → Bool → Bool → Bool → Bool → Int → Int → Int → Int → Int → Int → Int → Int → Option (Bool)
  | 0, _, _, _, _, _, _, _, _, _, _, _, _ => none
  | k + 1, x6, x8, x10, x63, x235000, x235001, x240000, x240001, x244000, x244001, x248000, x248001 => if x63 = true then (if (x240000 == x248000 && (x240001 == x248001)) = true then (if (x6 == x10) = true then (if (x244000 == x240000 && (x244001 == x240001)) = true then (some (x8 == x6)) else (none)) else (none)) else (none)) else ((impl_DecMul.f k x235000 x235001 1 0).bind fun bt249 => ((impl_DecMul.f k x235000 x235001 0 0).bind fun bt253 => (if bt249.2.2 = true then (if (bt249.1 == x235000 && (bt249.2.1 == x235001)) = true then (if bt253.2.2 = true then (some (bt253.1 == 0 && (bt253.2.1 == 0))) else (none)) else (none)) else (none))))
def laws_FnDecMul.f (k : Nat) (l0 : List Int) : Option (Bool) := if (l0.length : Int) > 1048576 then (some true) else ((spec_DrawDecMul.f k l0).bind fun bt230 => ((impl_DecMul.f k bt230.1 bt230.2.1 bt230.2.2.1 bt230.2.2.2).bind fun bt236 => ((impl_DecMul.f k bt230.2.2.1 bt230.2.2.2 bt230.1 bt230.2.1).bind fun bt240 => ((spec_DecMul.f k bt230.1 bt230.2.1 bt230.2.2.1 bt230.2.2.2).bind fun bt244 => (if (!(bt236.1 == bt244.1) || (!(bt236.2.1 == bt244.2.1))) = true then (laws_FnDecMul.j0 k bt236.2.2 bt240.2.2 bt244.2.2 true bt230.1 bt230.2.1 bt236.1 bt236.2.1 bt240.1 bt240.2.1 bt244.1 bt244.2.1) else (if (bt236.2.2 != bt244.2.2) = true then (laws_FnDecMul.j0 k bt236.2.2 bt240.2.2 bt244.2.2 true bt230.1 bt230.2.1 bt236.1 bt236.2.1 bt240.1 bt240.2.1 bt244.1 bt244.2.1) else (if (!(bt240.1 == bt236.1) || (!(bt240.2.1 == bt236.2.1))) = true then (laws_FnDecMul.j0 k bt236.2.2 bt240.2.2 bt244.2.2 true bt230.1 bt230.2.1 bt236.1 bt236.2.1 bt240.1 bt240.2.1 bt244.1 bt244.2.1) else (if (bt240.2.2 != bt236.2.2) = true then (laws_FnDecMul.j0 k bt236.2.2 bt240.2.2 bt244.2.2 true bt230.1 bt230.2.1 bt236.1 bt236.2.1 bt240.1 bt240.2.1 bt244.1 bt244.2.1) else ((spec_DecOk.f bt230.1 bt230.2.1).bind fun t248 => (laws_FnDecMul.j0 k bt236.2.2 bt240.2.2 bt244.2.2 (!t248) bt230.1 bt230.2.1 bt236.1 bt236.2.1 bt240.1 bt240.2.1 bt244.1 bt244.2.1))))))))))
theorem laws_FnDecMul.mono_l : ∀ k, (∀ y0 y1 y2 y3 y4 y5 y6 y7 y8 y9 y10 y11, LeO (laws_FnDecMul.j0 k y0 y1 y2 y3 y4 y5 y6 y7 y8 y9 y10 y11) (laws_FnDecMul.j0 (k + 1) y0 y1 y2 y3 y4 y5 y6 y7 y8 y9 y10 y11))
  | 0 => fun _ _ _ _ _ _ _ _ _ _ _ _ r h => by simp [laws_FnDecMul.j0] at h
  | k + 1 => by
    have ih0 := laws_FnDecMul.mono_l k
    · intro y0 y1 y2 y3 y4 y5 y6 y7 y8 y9 y10 y11
      unfold laws_FnDecMul.j0
      repeat' first
      | (with_reducible exact ih0 _ _ _ _ _ _ _ _ _ _ _ _)
      | (with_reducible exact impl_DecMul.mono _ _ _ _ _)
      | (with_reducible exact spec_DecMul.mono _ _ _ _ _)
      | (with_reducible exact spec_DrawDecMul.mono _ _)
      | (with_reducible exact LeO.refl _)
      | (with_reducible exact LeO.none _)
      | (with_reducible refine LeO.ite ?_ ?_)
      | (with_reducible refine LeO.bind ?_ (fun _ => ?_))
      | exact ih0 _ _ _ _ _ _ _ _ _ _ _ _
      | exact impl_DecMul.mono _ _ _ _ _
      | exact spec_DecMul.mono _ _ _ _ _
      | exact spec_DrawDecMul.mono _ _
      | exact LeO.none _
      | refine LeO.ite ?_ ?_
      | refine LeO.bind ?_ (fun _ => ?_)
theorem laws_FnDecMul.mono : ∀ a0 k, LeO (laws_FnDecMul.f k a0) (laws_FnDecMul.f (k + 1) a0) := by
  intro a0 k
  have ih0 := laws_FnDecMul.mono_l k
  unfold laws_FnDecMul.f
  repeat' first
      | (with_reducible exact ih0 _ _ _ _ _ _ _ _ _ _ _ _)
      | (with_reducible exact impl_DecMul.mono _ _ _ _ _)
      | (with_reducible exact spec_DecMul.mono _ _ _ _ _)
      | (with_reducible exact spec_DrawDecMul.mono _ _)
      | (with_reducible exact LeO.refl _)
      | (with_reducible exact LeO.none _)
      | (with_reducible refine LeO.ite ?_ ?_)
      | (with_reducible refine LeO.bind ?_ (fun _ => ?_))
      | exact ih0 _ _ _ _ _ _ _ _ _ _ _ _
      | exact impl_DecMul.mono _ _ _ _ _
      | exact spec_DecMul.mono _ _ _ _ _
      | exact spec_DrawDecMul.mono _ _
      | exact LeO.none _
      | refine LeO.ite ?_ ?_
      | refine LeO.bind ?_ (fun _ => ?_)
set_option maxHeartbeats 8000000 in
set_option maxRecDepth 100000 in
theorem laws_FnDecMul.calls (k : Nat) (A0 : Option Addr) (c0 : Nat) (l0 : List Int) (r : Bool) (w : World) (hr0 : Kd.C (Kd.int .u8) w A0 l0.length l0) (hc0 : l0.length ≤ c0) (h : laws_FnDecMul.f k l0 = some r) :
    Calls Try.prog 4 #[.slice A0 l0.length c0] w fun e w' => e = .returned (.bool r) ∧ Below w.heap.size w w' := by
  have hu26 := Try.underlying26
  have HR0 := Aside0.mk hr0
  have HC0 := Aside0.mk hc0
  clear hr0 hc0
  have HB := Aside0.mk (Below.refl w.heap.size w)
  have H : (if (l0.length : Int) > 1048576 then (some true) else ((spec_DrawDecMul.f k l0).bind fun bt230 => ((impl_DecMul.f k bt230.1 bt230.2.1 bt230.2.2.1 bt230.2.2.2).bind fun bt236 => ((impl_DecMul.f k bt230.2.2.1 bt230.2.2.2 bt230.1 bt230.2.1).bind fun bt240 => ((spec_DecMul.f k bt230.1 bt230.2.1 bt230.2.2.1 bt230.2.2.2).bind fun bt244 => (if (!(bt236.1 == bt244.1) || (!(bt236.2.1 == bt244.2.1))) = true then (laws_FnDecMul.j0 k bt236.2.2 bt240.2.2 bt244.2.2 true bt230.1 bt230.2.1 bt236.1 bt236.2.1 bt240.1 bt240.2.1 bt244.1 bt244.2.1) else (if (bt236.2.2 != bt244.2.2) = true then (laws_FnDecMul.j0 k bt236.2.2 bt240.2.2 bt244.2.2 true bt230.1 bt230.2.1 bt236.1 bt236.2.1 bt240.1 bt240.2.1 bt244.1 bt244.2.1) else (if (!(bt240.1 == bt236.1) || (!(bt240.2.1 == bt236.2.1))) = true then (laws_FnDecMul.j0 k bt236.2.2 bt240.2.2 bt244.2.2 true bt230.1 bt230.2.1 bt236.1 bt236.2.1 bt240.1 bt240.2.1 bt244.1 bt244.2.1) else (if (bt240.2.2 != bt236.2.2) = true then (laws_FnDecMul.j0 k bt236.2.2 bt240.2.2 bt244.2.2 true bt230.1 bt230.2.1 bt236.1 bt236.2.1 bt240.1 bt240.2.1 bt244.1 bt244.2.1) else ((spec_DecOk.f bt230.1 bt230.2.1).bind fun t248 => (laws_FnDecMul.j0 k bt236.2.2 bt240.2.2 bt244.2.2 (!t248) bt230.1 bt230.2.1 bt236.1 bt236.2.1 bt240.1 bt240.2.1 bt244.1 bt244.2.1))))))))))) = some r := h
  clear h
  by_cases c2 : (l0.length : Int) > 1048576
  · rw [if_pos c2] at H
    have c2b0 : decide (1048576 < (l0.length : Int)) = true := decide_eq_true c2
    have c2b1 : decide (1048576 < l0.length) = true := decide_eq_true (by omega)
    clear c2
    obtain rfl := Option.some.inj H
    go_enter Try.func4, Try.ntmps4
    go_wp2
    go_ret
    exact ⟨by first | rfl | (simp [errW_none, errW_some] <;> rfl) | (simp [*, errW_none, errW_some] <;> rfl), by repeat (first | (with_reducible first | exact HB.out | apply below_alloc | apply pw_below_drewN | apply below_drew1) | exact HB.out)⟩
  · rw [if_neg c2] at H
    have c2b0 : decide (1048576 < (l0.length : Int)) = false := decide_eq_false c2
    have c2b1 : decide (1048576 < l0.length) = false := decide_eq_false (by omega)
    clear c2
    replace H := Option.bind_eq_some_iff.mp H
    obtain ⟨⟨t230, t231, t232, t233⟩, A30, H⟩ := H
    replace H : ((impl_DecMul.f k t230 t231 t232 t233).bind fun bt236 => ((impl_DecMul.f k t232 t233 t230 t231).bind fun bt240 => ((spec_DecMul.f k t230 t231 t232 t233).bind fun bt244 => (if (!(bt236.1 == bt244.1) || (!(bt236.2.1 == bt244.2.1))) = true then (laws_FnDecMul.j0 k bt236.2.2 bt240.2.2 bt244.2.2 true t230 t231 bt236.1 bt236.2.1 bt240.1 bt240.2.1 bt244.1 bt244.2.1) else (if (bt236.2.2 != bt244.2.2) = true then (laws_FnDecMul.j0 k bt236.2.2 bt240.2.2 bt244.2.2 true t230 t231 bt236.1 bt236.2.1 bt240.1 bt240.2.1 bt244.1 bt244.2.1) else (if (!(bt240.1 == bt236.1) || (!(bt240.2.1 == bt236.2.1))) = true then (laws_FnDecMul.j0 k bt236.2.2 bt240.2.2 bt244.2.2 true t230 t231 bt236.1 bt236.2.1 bt240.1 bt240.2.1 bt244.1 bt244.2.1) else (if (bt240.2.2 != bt236.2.2) = true then (laws_FnDecMul.j0 k bt236.2.2 bt240.2.2 bt244.2.2 true t230 t231 bt236.1 bt236.2.1 bt240.1 bt240.2.1 bt244.1 bt244.2.1) else ((spec_DecOk.f t230 t231).bind fun t248 => (laws_FnDecMul.j0 k bt236.2.2 bt240.2.2 bt244.2.2 (!t248) t230 t231 bt236.1 bt236.2.1 bt240.1 bt240.2.1 bt244.1 bt244.2.1))))))))) = some r := H
    have A3 := Aside0.mk A30
    clear A30
    replace H := Option.bind_eq_some_iff.mp H
    obtain ⟨⟨t236, t237, t238⟩, A40, H⟩ := H
    replace H : ((impl_DecMul.f k t232 t233 t230 t231).bind fun bt240 => ((spec_DecMul.f k t230 t231 t232 t233).bind fun bt244 => (if (!(t236 == bt244.1) || (!(t237 == bt244.2.1))) = true then (laws_FnDecMul.j0 k t238 bt240.2.2 bt244.2.2 true t230 t231 t236 t237 bt240.1 bt240.2.1 bt244.1 bt244.2.1) else (if (t238 != bt244.2.2) = true then (laws_FnDecMul.j0 k t238 bt240.2.2 bt244.2.2 true t230 t231 t236 t237 bt240.1 bt240.2.1 bt244.1 bt244.2.1) else (if (!(bt240.1 == t236) || (!(bt240.2.1 == t237))) = true then (laws_FnDecMul.j0 k t238 bt240.2.2 bt244.2.2 true t230 t231 t236 t237 bt240.1 bt240.2.1 bt244.1 bt244.2.1) else (if (bt240.2.2 != t238) = true then (laws_FnDecMul.j0 k t238 bt240.2.2 bt244.2.2 true t230 t231 t236 t237 bt240.1 bt240.2.1 bt244.1 bt244.2.1) else ((spec_DecOk.f t230 t231).bind fun t248 => (laws_FnDecMul.j0 k t238 bt240.2.2 bt244.2.2 (!t248) t230 t231 t236 t237 bt240.1 bt240.2.1 bt244.1 bt244.2.1)))))))) = some r := H
    have A4 := Aside0.mk A40
    clear A40
    replace H := Option.bind_eq_some_iff.mp H
    obtain ⟨⟨t240, t241, t242⟩, A50, H⟩ := H
    replace H : ((spec_DecMul.f k t230 t231 t232 t233).bind fun bt244 => (if (!(t236 == bt244.1) || (!(t237 == bt244.2.1))) = true then (laws_FnDecMul.j0 k t238 t242 bt244.2.2 true t230 t231 t236 t237 t240 t241 bt244.1 bt244.2.1) else (if (t238 != bt244.2.2) = true then (laws_FnDecMul.j0 k t238 t242 bt244.2.2 true t230 t231 t236 t237 t240 t241 bt244.1 bt244.2.1) else (if (!(t240 == t236) || (!(t241 == t237))) = true then (laws_FnDecMul.j0 k t238 t242 bt244.2.2 true t230 t231 t236 t237 t240 t241 bt244.1 bt244.2.1) else (if (t242 != t238) = true then (laws_FnDecMul.j0 k t238 t242 bt244.2.2 true t230 t231 t236 t237 t240 t241 bt244.1 bt244.2.1) else ((spec_DecOk.f t230 t231).bind fun t248 => (laws_FnDecMul.j0 k t238 t242 bt244.2.2 (!t248) t230 t231 t236 t237 t240 t241 bt244.1 bt244.2.1))))))) = some r := H
    have A5 := Aside0.mk A50
    clear A50
    replace H := Option.bind_eq_some_iff.mp H
    obtain ⟨⟨t244, t245, t246⟩, A60, H⟩ := H
    replace H : (if (!(t236 == t244) || (!(t237 == t245))) = true then (laws_FnDecMul.j0 k t238 t242 t246 true t230 t231 t236 t237 t240 t241 t244 t245) else (if (t238 != t246) = true then (laws_FnDecMul.j0 k t238 t242 t246 true t230 t231 t236 t237 t240 t241 t244 t245) else (if (!(t240 == t236) || (!(t241 == t237))) = true then (laws_FnDecMul.j0 k t238 t242 t246 true t230 t231 t236 t237 t240 t241 t244 t245) else (if (t242 != t238) = true then (laws_FnDecMul.j0 k t238 t242 t246 true t230 t231 t236 t237 t240 t241 t244 t245) else ((spec_DecOk.f t230 t231).bind fun t248 => (laws_FnDecMul.j0 k t238 t242 t246 (!t248) t230 t231 t236 t237 t240 t241 t244 t245)))))) = some r := H
    have A6 := Aside0.mk A60
    clear A60
    have HC7 := Aside0.mk H
    clear H
    go_enter Try.func4, Try.ntmps4
    go_upto_region 7 with (first | ((with_reducible refine gate_callee (f := 17) rfl ?_); refine goesL_ (some 20) rfl rfl Try.func17 (by kernel_rfl) rfl #[.slice A0 l0.length c0] rfl (by (try simp only [List.map_toArray, List.map_cons, List.map_nil]); first | done | rfl | (simp only [List.length_drop, List.length_take]; rfl)) ?_; (with_reducible refine (spec_DrawDecMul.calls k _ _ l0 t230 t231 t232 t233 _ ?side1 ?side2 A3.out).mono ?_); (case side1 => repeat (first | exact HR0.out | (with_reducible refine Kd.C_alloc ?_ _) | (with_reducible refine Kd.C_drewN ?_ _) | (with_reducible refine Kd.C_drew ?_))); (case side2 => exact HC0.out); rintro e w8 ⟨rfl, hb⟩; refine ⟨_, rfl, ?_⟩; have n0_ := Aside0.mk (below_step (by repeat (first | (with_reducible first | exact HB.out | apply below_alloc | apply pw_below_drewN | apply below_drew1) | exact HB.out)) hb); clear HB; have HB := n0_; clear n0_; (try clear hb); (try clear hb2); (try clear hk); (try clear hi)) | ((with_reducible refine gate_dst (N := 3) rfl ?_); refine box_event ?hg (N := 3) ?hd (cs := #[.int .i64 0, .int .i64 0]) (t := 26) ?hr ?_; (case hd => rfl); (case hg => rfl); (case hr => first | (go_simp; done) | (go_simp; rfl)); intro gb234 hg w9 hbox hb; have n0_ := Aside0.mk (below_step (by repeat (first | (with_reducible first | exact HB.out | apply below_alloc | apply pw_below_drewN | apply below_drew1) | exact HB.out)) hb); have n1_ := Aside0.mk (hbox); have n2_ := Aside0.mk ((by rw [hg]; exact (below_size (by repeat (first | (with_reducible first | exact HB.out | apply below_alloc | apply pw_below_drewN | apply below_drew1) | exact HB.out))) : w.heap.size ≤ gb234)); have n3_ := Aside0.mk ((by rw [hg]; exact (below_size (by repeat (first | (with_reducible first | exact HB.out | apply below_alloc | apply pw_below_drewN | apply below_drew1) | exact HB.out))) : w.heap.size ≤ gb234)); clear HB; have HB := n0_; have BK234 := n1_; have GW234 := n2_; have GE234 := n3_; clear n0_ n1_ n2_ n3_; clear hb hbox hg) | ((with_reducible refine gate_dst (N := 4) rfl ?_); refine box_event ?hg (N := 4) ?hd (cs := #[.int .i64 0, .int .i64 0]) (t := 26) ?hr ?_; (case hd => rfl); (case hg => rfl); (case hr => first | (go_simp; done) | (go_simp; rfl)); intro gb235 hg w10 hbox hb; have n0_ := Aside0.mk (blk_below (g := gb234) (o := .cells #[.int .i64 0, .int .i64 0] 26 (0, 0)) (by (with_reducible repeat (first | refine blk_drewN ?_ _ | refine blk_drew ?_ | refine blk_alloc ?_ _)); exact BK234.out) hb); have n1_ := Aside0.mk (below_step (by repeat (first | (with_reducible first | exact HB.out | apply below_alloc | apply pw_below_drewN | apply below_drew1 | refine below_set ?_ GE234.out) | exact HB.out)) hb); have n2_ := Aside0.mk (hbox); have n3_ := Aside0.mk ((by rw [hg]; exact (below_size (by repeat (first | (with_reducible first | exact HB.out | apply below_alloc | apply pw_below_drewN | apply below_drew1 | refine below_set ?_ GE234.out) | exact HB.out))) : w.heap.size ≤ gb235)); have n4_ := Aside0.mk ((by rw [hg]; exact (below_size (by repeat (first | (with_reducible first | exact HB.out | apply below_alloc | apply pw_below_drewN | apply below_drew1 | refine below_set ?_ GE234.out) | exact HB.out))) : w.heap.size ≤ gb235)); have n5_ := Aside0.mk ((by rw [hg]; exact Nat.ne_of_lt (blk_lt (g := gb234) (o := .cells #[.int .i64 0, .int .i64 0] 26 (0, 0)) (by (with_reducible repeat (first | refine blk_drewN ?_ _ | refine blk_drew ?_ | refine blk_alloc ?_ _)); exact BK234.out)) : gb234 ≠ gb235)); have n6_ := Aside0.mk ((by rw [hg]; exact Nat.ne_of_gt (blk_lt (g := gb234) (o := .cells #[.int .i64 0, .int .i64 0] 26 (0, 0)) (by (with_reducible repeat (first | refine blk_drewN ?_ _ | refine blk_drew ?_ | refine blk_alloc ?_ _)); exact BK234.out)) : gb235 ≠ gb234)); clear BK234; clear HB; have BK234 := n0_; have HB := n1_; have BK235 := n2_; have GW235 := n3_; have GE235 := n4_; have NB234_235 := n5_; have NB235_234 := n6_; clear n0_ n1_ n2_ n3_ n4_ n5_ n6_; clear hb hbox hg; have hnb11 := NB234_235.out; have hnc11 := NB235_234.out; have hcz12_0 : w10.cell? ⟨gb234, 0, none⟩ = some (.int .i64 0) := (blk_cell BK234.out 0).trans rfl; have hcz12_1 : w10.cell? ⟨gb234, 1, none⟩ = some (.int .i64 0) := (blk_cell BK234.out 1).trans rfl; have hfz12_0 := blk_frozen BK234.out 0; have hfz12_1 := blk_frozen BK234.out 1; have hcz13_0 : w10.cell? ⟨gb235, 0, none⟩ = some (.int .i64 0) := (blk_cell BK235.out 0).trans rfl; have hcz13_1 : w10.cell? ⟨gb235, 1, none⟩ = some (.int .i64 0) := (blk_cell BK235.out 1).trans rfl; have hfz13_0 := blk_frozen BK235.out 0; have hfz13_1 := blk_frozen BK235.out 1) | ((with_reducible refine gate_callee (f := 18) rfl ?_); refine goesL_ (some 26) rfl rfl Try.func18 (by kernel_rfl) rfl #[.agg #[.int .i64 t230, .int .i64 t231], .agg #[.int .i64 t232, .int .i64 t233]] rfl (by (try simp only [List.map_toArray, List.map_cons, List.map_nil]); first | done | rfl | (simp only [List.length_drop, List.length_take]; rfl)) ?_; (with_reducible refine (impl_DecMul.calls k t230 t231 t232 t233 t236 t237 t238 _ A4.out).mono ?_); rintro e w14 ⟨rfl, hb⟩; refine ⟨_, rfl, ?_⟩; have n0_ := Aside0.mk (blk_below (g := gb234) (o := .cells #[.int .i64 t230, .int .i64 t231] 26 (0, 0)) (by (with_reducible repeat (first | refine blk_drewN ?_ _ | refine blk_drew ?_ | refine blk_alloc ?_ _)); refine blk_far ?_ NB234_235.out _; (with_reducible repeat (first | refine blk_drewN ?_ _ | refine blk_drew ?_ | refine blk_alloc ?_ _)); refine blk_far ?_ NB234_235.out _; (with_reducible repeat (first | refine blk_drewN ?_ _ | refine blk_drew ?_ | refine blk_alloc ?_ _)); refine blk_put (cs := #[.int .i64 t230, .int .i64 0]) ?_ 1 _ rfl; (with_reducible repeat (first | refine blk_drewN ?_ _ | refine blk_drew ?_ | refine blk_alloc ?_ _)); refine blk_put (cs := #[.int .i64 0, .int .i64 0]) ?_ 0 _ rfl; (with_reducible repeat (first | refine blk_drewN ?_ _ | refine blk_drew ?_ | refine blk_alloc ?_ _)); exact BK234.out) hb); have n1_ := Aside0.mk (blk_below (g := gb235) (o := .cells #[.int .i64 t232, .int .i64 t233] 26 (0, 0)) (by (with_reducible repeat (first | refine blk_drewN ?_ _ | refine blk_drew ?_ | refine blk_alloc ?_ _)); refine blk_put (cs := #[.int .i64 t232, .int .i64 0]) ?_ 1 _ rfl; (with_reducible repeat (first | refine blk_drewN ?_ _ | refine blk_drew ?_ | refine blk_alloc ?_ _)); refine blk_put (cs := #[.int .i64 0, .int .i64 0]) ?_ 0 _ rfl; (with_reducible repeat (first | refine blk_drewN ?_ _ | refine blk_drew ?_ | refine blk_alloc ?_ _)); refine blk_far ?_ NB235_234.out _; (with_reducible repeat (first | refine blk_drewN ?_ _ | refine blk_drew ?_ | refine blk_alloc ?_ _)); refine blk_far ?_ NB235_234.out _; (with_reducible repeat (first | refine blk_drewN ?_ _ | refine blk_drew ?_ | refine blk_alloc ?_ _)); exact BK235.out) hb); have n2_ := Aside0.mk (below_step (by repeat (first | (with_reducible first | exact HB.out | apply below_alloc | apply pw_below_drewN | apply below_drew1 | refine below_set ?_ GE234.out | refine below_set ?_ GE235.out) | exact HB.out)) hb); clear BK234; clear BK235; clear HB; have BK234 := n0_; have BK235 := n1_; have HB := n2_; clear n0_ n1_ n2_; (try clear hb); (try clear hb2); (try clear hk); (try clear hi)) | ((with_reducible refine gate_dst (N := 5) rfl ?_); refine box_event ?hg (N := 5) ?hd (cs := #[.int .i64 0, .int .i64 0]) (t := 26) ?hr ?_; (case hd => rfl); (case hg => rfl); (case hr => first | (go_simp; done) | (go_simp; rfl)); intro gb239 hg w15 hbox hb; have n0_ := Aside0.mk (blk_below (g := gb234) (o := .cells #[.int .i64 t230, .int .i64 t231] 26 (0, 0)) (by (with_reducible repeat (first | refine blk_drewN ?_ _ | refine blk_drew ?_ | refine blk_alloc ?_ _)); exact BK234.out) hb); have n1_ := Aside0.mk (blk_below (g := gb235) (o := .cells #[.int .i64 t232, .int .i64 t233] 26 (0, 0)) (by (with_reducible repeat (first | refine blk_drewN ?_ _ | refine blk_drew ?_ | refine blk_alloc ?_ _)); exact BK235.out) hb); have n2_ := Aside0.mk (below_step (by repeat (first | (with_reducible first | exact HB.out | apply below_alloc | apply pw_below_drewN | apply below_drew1 | refine below_set ?_ GE234.out | refine below_set ?_ GE235.out) | exact HB.out)) hb); have n3_ := Aside0.mk (hbox); have n4_ := Aside0.mk ((by rw [hg]; exact (below_size (by repeat (first | (with_reducible first | exact HB.out | apply below_alloc | apply pw_below_drewN | apply below_drew1 | refine below_set ?_ GE234.out | refine below_set ?_ GE235.out) | exact HB.out))) : w.heap.size ≤ gb239)); have n5_ := Aside0.mk ((by rw [hg]; exact (below_size (by repeat (first | (with_reducible first | exact HB.out | apply below_alloc | apply pw_below_drewN | apply below_drew1 | refine below_set ?_ GE234.out | refine below_set ?_ GE235.out) | exact HB.out))) : w.heap.size ≤ gb239)); have n6_ := Aside0.mk ((by rw [hg]; exact Nat.ne_of_lt (blk_lt (g := gb234) (o := .cells #[.int .i64 t230, .int .i64 t231] 26 (0, 0)) (by (with_reducible repeat (first | refine blk_drewN ?_ _ | refine blk_drew ?_ | refine blk_alloc ?_ _)); exact BK234.out)) : gb234 ≠ gb239)); have n7_ := Aside0.mk ((by rw [hg]; exact Nat.ne_of_gt (blk_lt (g := gb234) (o := .cells #[.int .i64 t230, .int .i64 t231] 26 (0, 0)) (by (with_reducible repeat (first | refine blk_drewN ?_ _ | refine blk_drew ?_ | refine blk_alloc ?_ _)); exact BK234.out)) : gb239 ≠ gb234)); have n8_ := Aside0.mk ((by rw [hg]; exact Nat.ne_of_lt (blk_lt (g := gb235) (o := .cells #[.int .i64 t232, .int .i64 t233] 26 (0, 0)) (by (with_reducible repeat (first | refine blk_drewN ?_ _ | refine blk_drew ?_ | refine blk_alloc ?_ _)); exact BK235.out)) : gb235 ≠ gb239)); have n9_ := Aside0.mk ((by rw [hg]; exact Nat.ne_of_gt (blk_lt (g := gb235) (o := .cells #[.int .i64 t232, .int .i64 t233] 26 (0, 0)) (by (with_reducible repeat (first | refine blk_drewN ?_ _ | refine blk_drew ?_ | refine blk_alloc ?_ _)); exact BK235.out)) : gb239 ≠ gb235)); clear BK234; clear BK235; clear HB; have BK234 := n0_; have BK235 := n1_; have HB := n2_; have BK239 := n3_; have GW239 := n4_; have GE239 := n5_; have NB234_239 := n6_; have NB239_234 := n7_; have NB235_239 := n8_; have NB239_235 := n9_; clear n0_ n1_ n2_ n3_ n4_ n5_ n6_ n7_ n8_ n9_; clear hb hbox hg; have hnb16 := NB239_234.out; have hnc16 := NB234_239.out; have hnb17 := NB239_235.out; have hnc17 := NB235_239.out; have hcz18_0 : w15.cell? ⟨gb239, 0, none⟩ = some (.int .i64 0) := (blk_cell BK239.out 0).trans rfl; have hcz18_1 : w15.cell? ⟨gb239, 1, none⟩ = some (.int .i64 0) := (blk_cell BK239.out 1).trans rfl; have hfz18_0 := blk_frozen BK239.out 0; have hfz18_1 := blk_frozen BK239.out 1; have hcz19_0 : w15.cell? ⟨gb235, 0, none⟩ = some (.int .i64 t232) := (blk_cell BK235.out 0).trans rfl; have hcz19_1 : w15.cell? ⟨gb235, 1, none⟩ = some (.int .i64 t233) := (blk_cell BK235.out 1).trans rfl; have hfz19_0 := blk_frozen BK235.out 0; have hfz19_1 := blk_frozen BK235.out 1; have hcz20_0 : w15.cell? ⟨gb234, 0, none⟩ = some (.int .i64 t230) := (blk_cell BK234.out 0).trans rfl; have hcz20_1 : w15.cell? ⟨gb234, 1, none⟩ = some (.int .i64 t231) := (blk_cell BK234.out 1).trans rfl; have hfz20_0 := blk_frozen BK234.out 0; have hfz20_1 := blk_frozen BK234.out 1) | ((with_reducible refine gate_callee (f := 18) rfl ?_); refine goesL_ (some 32) rfl rfl Try.func18 (by kernel_rfl) rfl #[.agg #[.int .i64 t232, .int .i64 t233], .agg #[.int .i64 t230, .int .i64 t231]] rfl (by (try simp only [List.map_toArray, List.map_cons, List.map_nil]); first | done | rfl | (simp only [List.length_drop, List.length_take]; rfl)) ?_; (with_reducible refine (impl_DecMul.calls k t232 t233 t230 t231 t240 t241 t242 _ A5.out).mono ?_); rintro e w21 ⟨rfl, hb⟩; refine ⟨_, rfl, ?_⟩; have n0_ := Aside0.mk (blk_below (g := gb234) (o := .cells #[.int .i64 t230, .int .i64 t231] 26 (0, 0)) (by (with_reducible repeat (first | refine blk_drewN ?_ _ | refine blk_drew ?_ | refine blk_alloc ?_ _)); refine blk_far ?_ NB234_239.out _; (with_reducible repeat (first | refine blk_drewN ?_ _ | refine blk_drew ?_ | refine blk_alloc ?_ _)); refine blk_far ?_ NB234_239.out _; (with_reducible repeat (first | refine blk_drewN ?_ _ | refine blk_drew ?_ | refine blk_alloc ?_ _)); exact BK234.out) hb); have n1_ := Aside0.mk (blk_below (g := gb235) (o := .cells #[.int .i64 t232, .int .i64 t233] 26 (0, 0)) (by (with_reducible repeat (first | refine blk_drewN ?_ _ | refine blk_drew ?_ | refine blk_alloc ?_ _)); refine blk_far ?_ NB235_239.out _; (with_reducible repeat (first | refine blk_drewN ?_ _ | refine blk_drew ?_ | refine blk_alloc ?_ _)); refine blk_far ?_ NB235_239.out _; (with_reducible repeat (first | refine blk_drewN ?_ _ | refine blk_drew ?_ | refine blk_alloc ?_ _)); exact BK235.out) hb); have n2_ := Aside0.mk (blk_below (g := gb239) (o := .cells #[.int .i64 t236, .int .i64 t237] 26 (0, 0)) (by (with_reducible repeat (first | refine blk_drewN ?_ _ | refine blk_drew ?_ | refine blk_alloc ?_ _)); refine blk_put (cs := #[.int .i64 t236, .int .i64 0]) ?_ 1 _ rfl; (with_reducible repeat (first | refine blk_drewN ?_ _ | refine blk_drew ?_ | refine blk_alloc ?_ _)); refine blk_put (cs := #[.int .i64 0, .int .i64 0]) ?_ 0 _ rfl; (with_reducible repeat (first | refine blk_drewN ?_ _ | refine blk_drew ?_ | refine blk_alloc ?_ _)); exact BK239.out) hb); have n3_ := Aside0.mk (below_step (by repeat (first | (with_reducible first | exact HB.out | apply below_alloc | apply pw_below_drewN | apply below_drew1 | refine below_set ?_ GE234.out | refine below_set ?_ GE235.out | refine below_set ?_ GE239.out) | exact HB.out)) hb); clear BK234; clear BK235; clear BK239; clear HB; have BK234 := n0_; have BK235 := n1_; have BK239 := n2_; have HB := n3_; clear n0_ n1_ n2_ n3_; (try clear hb); (try clear hb2); (try clear hk); (try clear hi)) | ((with_reducible refine gate_dst (N := 7) rfl ?_); refine box_event ?hg (N := 7) ?hd (cs := #[.int .i64 0, .int .i64 0]) (t := 26) ?hr ?_; (case hd => rfl); (case hg => rfl); (case hr => first | (go_simp; done) | (go_simp; rfl)); intro gb243 hg w22 hbox hb; have n0_ := Aside0.mk (blk_below (g := gb234) (o := .cells #[.int .i64 t230, .int .i64 t231] 26 (0, 0)) (by (with_reducible repeat (first | refine blk_drewN ?_ _ | refine blk_drew ?_ | refine blk_alloc ?_ _)); exact BK234.out) hb); have n1_ := Aside0.mk (blk_below (g := gb235) (o := .cells #[.int .i64 t232, .int .i64 t233] 26 (0, 0)) (by (with_reducible repeat (first | refine blk_drewN ?_ _ | refine blk_drew ?_ | refine blk_alloc ?_ _)); exact BK235.out) hb); have n2_ := Aside0.mk (blk_below (g := gb239) (o := .cells #[.int .i64 t236, .int .i64 t237] 26 (0, 0)) (by (with_reducible repeat (first | refine blk_drewN ?_ _ | refine blk_drew ?_ | refine blk_alloc ?_ _)); exact BK239.out) hb); have n3_ := Aside0.mk (below_step (by repeat (first | (with_reducible first | exact HB.out | apply below_alloc | apply pw_below_drewN | apply below_drew1 | refine below_set ?_ GE234.out | refine below_set ?_ GE235.out | refine below_set ?_ GE239.out) | exact HB.out)) hb); have n4_ := Aside0.mk (hbox); have n5_ := Aside0.mk ((by rw [hg]; exact (below_size (by repeat (first | (with_reducible first | exact HB.out | apply below_alloc | apply pw_below_drewN | apply below_drew1 | refine below_set ?_ GE234.out | refine below_set ?_ GE235.out | refine below_set ?_ GE239.out) | exact HB.out))) : w.heap.size ≤ gb243)); have n6_ := Aside0.mk ((by rw [hg]; exact (below_size (by repeat (first | (with_reducible first | exact HB.out | apply below_alloc | apply pw_below_drewN | apply below_drew1 | refine below_set ?_ GE234.out | refine below_set ?_ GE235.out | refine below_set ?_ GE239.out) | exact HB.out))) : w.heap.size ≤ gb243)); have n7_ := Aside0.mk ((by rw [hg]; exact Nat.ne_of_lt (blk_lt (g := gb234) (o := .cells #[.int .i64 t230, .int .i64 t231] 26 (0, 0)) (by (with_reducible repeat (first | refine blk_drewN ?_ _ | refine blk_drew ?_ | refine blk_alloc ?_ _)); exact BK234.out)) : gb234 ≠ gb243)); have n8_ := Aside0.mk ((by rw [hg]; exact Nat.ne_of_gt (blk_lt (g := gb234) (o := .cells #[.int .i64 t230, .int .i64 t231] 26 (0, 0)) (by (with_reducible repeat (first | refine blk_drewN ?_ _ | refine blk_drew ?_ | refine blk_alloc ?_ _)); exact BK234.out)) : gb243 ≠ gb234)); have n9_ := Aside0.mk ((by rw [hg]; exact Nat.ne_of_lt (blk_lt (g := gb235) (o := .cells #[.int .i64 t232, .int .i64 t233] 26 (0, 0)) (by (with_reducible repeat (first | refine blk_drewN ?_ _ | refine blk_drew ?_ | refine blk_alloc ?_ _)); exact BK235.out)) : gb235 ≠ gb243)); have n10_ := Aside0.mk ((by rw [hg]; exact Nat.ne_of_gt (blk_lt (g := gb235) (o := .cells #[.int .i64 t232, .int .i64 t233] 26 (0, 0)) (by (with_reducible repeat (first | refine blk_drewN ?_ _ | refine blk_drew ?_ | refine blk_alloc ?_ _)); exact BK235.out)) : gb243 ≠ gb235)); have n11_ := Aside0.mk ((by rw [hg]; exact Nat.ne_of_lt (blk_lt (g := gb239) (o := .cells #[.int .i64 t236, .int .i64 t237] 26 (0, 0)) (by (with_reducible repeat (first | refine blk_drewN ?_ _ | refine blk_drew ?_ | refine blk_alloc ?_ _)); exact BK239.out)) : gb239 ≠ gb243)); have n12_ := Aside0.mk ((by rw [hg]; exact Nat.ne_of_gt (blk_lt (g := gb239) (o := .cells #[.int .i64 t236, .int .i64 t237] 26 (0, 0)) (by (with_reducible repeat (first | refine blk_drewN ?_ _ | refine blk_drew ?_ | refine blk_alloc ?_ _)); exact BK239.out)) : gb243 ≠ gb239)); clear BK234; clear BK235; clear BK239; clear HB; have BK234 := n0_; have BK235 := n1_; have BK239 := n2_; have HB := n3_; have BK243 := n4_; have GW243 := n5_; have GE243 := n6_; have NB234_243 := n7_; have NB243_234 := n8_; have NB235_243 := n9_; have NB243_235 := n10_; have NB239_243 := n11_; have NB243_239 := n12_; clear n0_ n1_ n2_ n3_ n4_ n5_ n6_ n7_ n8_ n9_ n10_ n11_ n12_; clear hb hbox hg; have hnb23 := NB243_234.out; have hnc23 := NB234_243.out; have hnb24 := NB243_235.out; have hnc24 := NB235_243.out; have hnb25 := NB243_239.out; have hnc25 := NB239_243.out; have hcz26_0 : w22.cell? ⟨gb243, 0, none⟩ = some (.int .i64 0) := (blk_cell BK243.out 0).trans rfl; have hcz26_1 : w22.cell? ⟨gb243, 1, none⟩ = some (.int .i64 0) := (blk_cell BK243.out 1).trans rfl; have hfz26_0 := blk_frozen BK243.out 0; have hfz26_1 := blk_frozen BK243.out 1; have hcz27_0 : w22.cell? ⟨gb234, 0, none⟩ = some (.int .i64 t230) := (blk_cell BK234.out 0).trans rfl; have hcz27_1 : w22.cell? ⟨gb234, 1, none⟩ = some (.int .i64 t231) := (blk_cell BK234.out 1).trans rfl; have hfz27_0 := blk_frozen BK234.out 0; have hfz27_1 := blk_frozen BK234.out 1; have hcz28_0 : w22.cell? ⟨gb235, 0, none⟩ = some (.int .i64 t232) := (blk_cell BK235.out 0).trans rfl; have hcz28_1 : w22.cell? ⟨gb235, 1, none⟩ = some (.int .i64 t233) := (blk_cell BK235.out 1).trans rfl; have hfz28_0 := blk_frozen BK235.out 0; have hfz28_1 := blk_frozen BK235.out 1) | ((with_reducible refine gate_callee (f := 19) rfl ?_); refine goesL_ (some 38) rfl rfl Try.func19 (by kernel_rfl) rfl #[.agg #[.int .i64 t230, .int .i64 t231], .agg #[.int .i64 t232, .int .i64 t233]] rfl (by (try simp only [List.map_toArray, List.map_cons, List.map_nil]); first | done | rfl | (simp only [List.length_drop, List.length_take]; rfl)) ?_; (with_reducible refine (spec_DecMul.calls k t230 t231 t232 t233 t244 t245 t246 _ A6.out).mono ?_); rintro e w29 ⟨rfl, hb⟩; refine ⟨_, rfl, ?_⟩; have n0_ := Aside0.mk (blk_below (g := gb234) (o := .cells #[.int .i64 t230, .int .i64 t231] 26 (0, 0)) (by (with_reducible repeat (first | refine blk_drewN ?_ _ | refine blk_drew ?_ | refine blk_alloc ?_ _)); refine blk_far ?_ NB234_243.out _; (with_reducible repeat (first | refine blk_drewN ?_ _ | refine blk_drew ?_ | refine blk_alloc ?_ _)); refine blk_far ?_ NB234_243.out _; (with_reducible repeat (first | refine blk_drewN ?_ _ | refine blk_drew ?_ | refine blk_alloc ?_ _)); exact BK234.out) hb); have n1_ := Aside0.mk (blk_below (g := gb235) (o := .cells #[.int .i64 t232, .int .i64 t233] 26 (0, 0)) (by (with_reducible repeat (first | refine blk_drewN ?_ _ | refine blk_drew ?_ | refine blk_alloc ?_ _)); refine blk_far ?_ NB235_243.out _; (with_reducible repeat (first | refine blk_drewN ?_ _ | refine blk_drew ?_ | refine blk_alloc ?_ _)); refine blk_far ?_ NB235_243.out _; (with_reducible repeat (first | refine blk_drewN ?_ _ | refine blk_drew ?_ | refine blk_alloc ?_ _)); exact BK235.out) hb); have n2_ := Aside0.mk (blk_below (g := gb239) (o := .cells #[.int .i64 t236, .int .i64 t237] 26 (0, 0)) (by (with_reducible repeat (first | refine blk_drewN ?_ _ | refine blk_drew ?_ | refine blk_alloc ?_ _)); refine blk_far ?_ NB239_243.out _; (with_reducible repeat (first | refine blk_drewN ?_ _ | refine blk_drew ?_ | refine blk_alloc ?_ _)); refine blk_far ?_ NB239_243.out _; (with_reducible repeat (first | refine blk_drewN ?_ _ | refine blk_drew ?_ | refine blk_alloc ?_ _)); exact BK239.out) hb); have n3_ := Aside0.mk (blk_below (g := gb243) (o := .cells #[.int .i64 t240, .int .i64 t241] 26 (0, 0)) (by (with_reducible repeat (first | refine blk_drewN ?_ _ | refine blk_drew ?_ | refine blk_alloc ?_ _)); refine blk_put (cs := #[.int .i64 t240, .int .i64 0]) ?_ 1 _ rfl; (with_reducible repeat (first | refine blk_drewN ?_ _ | refine blk_drew ?_ | refine blk_alloc ?_ _)); refine blk_put (cs := #[.int .i64 0, .int .i64 0]) ?_ 0 _ rfl; (with_reducible repeat (first | refine blk_drewN ?_ _ | refine blk_drew ?_ | refine blk_alloc ?_ _)); exact BK243.out) hb); have n4_ := Aside0.mk (below_step (by repeat (first | (with_reducible first | exact HB.out | apply below_alloc | apply pw_below_drewN | apply below_drew1 | refine below_set ?_ GE234.out | refine below_set ?_ GE235.out | refine below_set ?_ GE239.out | refine below_set ?_ GE243.out) | exact HB.out)) hb); clear BK234; clear BK235; clear BK239; clear BK243; clear HB; have BK234 := n0_; have BK235 := n1_; have BK239 := n2_; have BK243 := n3_; have HB := n4_; clear n0_ n1_ n2_ n3_ n4_; (try clear hb); (try clear hb2); (try clear hk); (try clear hi)) | ((with_reducible refine gate_dst (N := 9) rfl ?_); refine box_event ?hg (N := 9) ?hd (cs := #[.int .i64 0, .int .i64 0]) (t := 26) ?hr ?_; (case hd => rfl); (case hg => rfl); (case hr => first | (go_simp; done) | (go_simp; rfl)); intro gb247 hg w30 hbox hb; have n0_ := Aside0.mk (blk_below (g := gb234) (o := .cells #[.int .i64 t230, .int .i64 t231] 26 (0, 0)) (by (with_reducible repeat (first | refine blk_drewN ?_ _ | refine blk_drew ?_ | refine blk_alloc ?_ _)); exact BK234.out) hb); have n1_ := Aside0.mk (blk_below (g := gb235) (o := .cells #[.int .i64 t232, .int .i64 t233] 26 (0, 0)) (by (with_reducible repeat (first | refine blk_drewN ?_ _ | refine blk_drew ?_ | refine blk_alloc ?_ _)); exact BK235.out) hb); have n2_ := Aside0.mk (blk_below (g := gb239) (o := .cells #[.int .i64 t236, .int .i64 t237] 26 (0, 0)) (by (with_reducible repeat (first | refine blk_drewN ?_ _ | refine blk_drew ?_ | refine blk_alloc ?_ _)); exact BK239.out) hb); have n3_ := Aside0.mk (blk_below (g := gb243) (o := .cells #[.int .i64 t240, .int .i64 t241] 26 (0, 0)) (by (with_reducible repeat (first | refine blk_drewN ?_ _ | refine blk_drew ?_ | refine blk_alloc ?_ _)); exact BK243.out) hb); have n4_ := Aside0.mk (below_step (by repeat (first | (with_reducible first | exact HB.out | apply below_alloc | apply pw_below_drewN | apply below_drew1 | refine below_set ?_ GE234.out | refine below_set ?_ GE235.out | refine below_set ?_ GE239.out | refine below_set ?_ GE243.out) | exact HB.out)) hb); have n5_ := Aside0.mk (hbox); have n6_ := Aside0.mk ((by rw [hg]; exact (below_size (by repeat (first | (with_reducible first | exact HB.out | apply below_alloc | apply pw_below_drewN | apply below_drew1 | refine below_set ?_ GE234.out | refine below_set ?_ GE235.out | refine below_set ?_ GE239.out | refine below_set ?_ GE243.out) | exact HB.out))) : w.heap.size ≤ gb247)); have n7_ := Aside0.mk ((by rw [hg]; exact (below_size (by repeat (first | (with_reducible first | exact HB.out | apply below_alloc | apply pw_below_drewN | apply below_drew1 | refine below_set ?_ GE234.out | refine below_set ?_ GE235.out | refine below_set ?_ GE239.out | refine below_set ?_ GE243.out) | exact HB.out))) : w.heap.size ≤ gb247)); have n8_ := Aside0.mk ((by rw [hg]; exact Nat.ne_of_lt (blk_lt (g := gb234) (o := .cells #[.int .i64 t230, .int .i64 t231] 26 (0, 0)) (by (with_reducible repeat (first | refine blk_drewN ?_ _ | refine blk_drew ?_ | refine blk_alloc ?_ _)); exact BK234.out)) : gb234 ≠ gb247)); have n9_ := Aside0.mk ((by rw [hg]; exact Nat.ne_of_gt (blk_lt (g := gb234) (o := .cells #[.int .i64 t230, .int .i64 t231] 26 (0, 0)) (by (with_reducible repeat (first | refine blk_drewN ?_ _ | refine blk_drew ?_ | refine blk_alloc ?_ _)); exact BK234.out)) : gb247 ≠ gb234)); have n10_ := Aside0.mk ((by rw [hg]; exact Nat.ne_of_lt (blk_lt (g := gb235) (o := .cells #[.int .i64 t232, .int .i64 t233] 26 (0, 0)) (by (with_reducible repeat (first | refine blk_drewN ?_ _ | refine blk_drew ?_ | refine blk_alloc ?_ _)); exact BK235.out)) : gb235 ≠ gb247)); have n11_ := Aside0.mk ((by rw [hg]; exact Nat.ne_of_gt (blk_lt (g := gb235) (o := .cells #[.int .i64 t232, .int .i64 t233] 26 (0, 0)) (by (with_reducible repeat (first | refine blk_drewN ?_ _ | refine blk_drew ?_ | refine blk_alloc ?_ _)); exact BK235.out)) : gb247 ≠ gb235)); have n12_ := Aside0.mk ((by rw [hg]; exact Nat.ne_of_lt (blk_lt (g := gb239) (o := .cells #[.int .i64 t236, .int .i64 t237] 26 (0, 0)) (by (with_reducible repeat (first | refine blk_drewN ?_ _ | refine blk_drew ?_ | refine blk_alloc ?_ _)); exact BK239.out)) : gb239 ≠ gb247)); have n13_ := Aside0.mk ((by rw [hg]; exact Nat.ne_of_gt (blk_lt (g := gb239) (o := .cells #[.int .i64 t236, .int .i64 t237] 26 (0, 0)) (by (with_reducible repeat (first | refine blk_drewN ?_ _ | refine blk_drew ?_ | refine blk_alloc ?_ _)); exact BK239.out)) : gb247 ≠ gb239)); have n14_ := Aside0.mk ((by rw [hg]; exact Nat.ne_of_lt (blk_lt (g := gb243) (o := .cells #[.int .i64 t240, .int .i64 t241] 26 (0, 0)) (by (with_reducible repeat (first | refine blk_drewN ?_ _ | refine blk_drew ?_ | refine blk_alloc ?_ _)); exact BK243.out)) : gb243 ≠ gb247)); have n15_ := Aside0.mk ((by rw [hg]; exact Nat.ne_of_gt (blk_lt (g := gb243) (o := .cells #[.int .i64 t240, .int .i64 t241] 26 (0, 0)) (by (with_reducible repeat (first | refine blk_drewN ?_ _ | refine blk_drew ?_ | refine blk_alloc ?_ _)); exact BK243.out)) : gb247 ≠ gb243)); clear BK234; clear BK235; clear BK239; clear BK243; clear HB; have BK234 := n0_; have BK235 := n1_; have BK239 := n2_; have BK243 := n3_; have HB := n4_; have BK247 := n5_; have GW247 := n6_; have GE247 := n7_; have NB234_247 := n8_; have NB247_234 := n9_; have NB235_247 := n10_; have NB247_235 := n11_; have NB239_247 := n12_; have NB247_239 := n13_; have NB243_247 := n14_; have NB247_243 := n15_; clear n0_ n1_ n2_ n3_ n4_ n5_ n6_ n7_ n8_ n9_ n10_ n11_ n12_ n13_ n14_ n15_; clear hb hbox hg; have hnb31 := NB247_234.out; have hnc31 := NB234_247.out; have hnb32 := NB247_235.out; have hnc32 := NB235_247.out; have hnb33 := NB247_239.out; have hnc33 := NB239_247.out; have hnb34 := NB247_243.out; have hnc34 := NB243_247.out; have hcz35_0 : w30.cell? ⟨gb247, 0, none⟩ = some (.int .i64 0) := (blk_cell BK247.out 0).trans rfl; have hcz35_1 : w30.cell? ⟨gb247, 1, none⟩ = some (.int .i64 0) := (blk_cell BK247.out 1).trans rfl; have hfz35_0 := blk_frozen BK247.out 0; have hfz35_1 := blk_frozen BK247.out 1))
    (try simp only [Act.put, List.setIfInBounds_toArray, List.set_cons_zero, List.set_cons_succ])
    go_cut [63] (fun v63 wc => ∃ (kq : Nat) (x63_6 : Bool), v63 = .bool x63_6 ∧ Aside0 (laws_FnDecMul.j0 kq t238 t242 t246 x63_6 t230 t231 t236 t237 t240 t241 t244 t245 = some r) ∧ Aside0 (kq ≤ k) ∧ Aside0 (wc.heap[gb234]? = some (.cells #[.int .i64 t230, .int .i64 t231] 26 (0, 0))) ∧ Aside0 (wc.heap[gb235]? = some (.cells #[.int .i64 t232, .int .i64 t233] 26 (0, 0))) ∧ Aside0 (wc.heap[gb239]? = some (.cells #[.int .i64 t236, .int .i64 t237] 26 (0, 0))) ∧ Aside0 (wc.heap[gb243]? = some (.cells #[.int .i64 t240, .int .i64 t241] 26 (0, 0))) ∧ Aside0 (wc.heap[gb247]? = some (.cells #[.int .i64 t244, .int .i64 t245] 26 (0, 0))) ∧ Aside0 (Below w.heap.size w wc))
    case first =>
      have H := HC7.out
      clear HC7
      by_cases c36 : (!(t236 == t244) || (!(t237 == t245))) = true
      · rw [if_pos c36] at H
        have c36b0 : (!(t236 == t244) || (!(t237 == t245))) = true := c36
        clear c36
        (first | rw [c36b0] | (simp only [i64_w, i32_w]; rw [c36b0]) | skip)
        have H' := Aside0.mk H
        clear H
        have hnb37 := NB239_234.out
        have hnc37 := NB234_239.out
        have hnb38 := NB239_235.out
        have hnc38 := NB235_239.out
        have hnb39 := NB239_243.out
        have hnc39 := NB243_239.out
        have hnb40 := NB239_247.out
        have hnc40 := NB247_239.out
        have hcz41_0 : w30.cell? ⟨gb239, 0, none⟩ = some (.int .i64 t236) := (blk_cell BK239.out 0).trans rfl
        have hcz41_1 : w30.cell? ⟨gb239, 1, none⟩ = some (.int .i64 t237) := (blk_cell BK239.out 1).trans rfl
        have hfz41_0 := blk_frozen BK239.out 0
        have hfz41_1 := blk_frozen BK239.out 1
        have hnb42 := NB247_234.out
        have hnc42 := NB234_247.out
        have hnb43 := NB247_235.out
        have hnc43 := NB235_247.out
        have hnb44 := NB247_243.out
        have hnc44 := NB243_247.out
        have hcz45_0 : w30.cell? ⟨gb247, 0, none⟩ = some (.int .i64 0) := (blk_cell BK247.out 0).trans rfl
        have hcz45_1 : w30.cell? ⟨gb247, 1, none⟩ = some (.int .i64 0) := (blk_cell BK247.out 1).trans rfl
        have hfz45_0 := blk_frozen BK247.out 0
        have hfz45_1 := blk_frozen BK247.out 1
        go_wp2
        go_meet
        case rel => exact ⟨_, (true), (by first | rfl | (simp; done) | (simp [*]; done)), H', ⟨by first | omega | exact Nat.le_refl _⟩, ⟨by (with_reducible repeat (first | refine blk_drewN ?_ _ | refine blk_drew ?_ | refine blk_alloc ?_ _)); refine blk_far ?_ NB234_247.out _; (with_reducible repeat (first | refine blk_drewN ?_ _ | refine blk_drew ?_ | refine blk_alloc ?_ _)); refine blk_far ?_ NB234_247.out _; (with_reducible repeat (first | refine blk_drewN ?_ _ | refine blk_drew ?_ | refine blk_alloc ?_ _)); exact BK234.out⟩, ⟨by (with_reducible repeat (first | refine blk_drewN ?_ _ | refine blk_drew ?_ | refine blk_alloc ?_ _)); refine blk_far ?_ NB235_247.out _; (with_reducible repeat (first | refine blk_drewN ?_ _ | refine blk_drew ?_ | refine blk_alloc ?_ _)); refine blk_far ?_ NB235_247.out _; (with_reducible repeat (first | refine blk_drewN ?_ _ | refine blk_drew ?_ | refine blk_alloc ?_ _)); exact BK235.out⟩, ⟨by (with_reducible repeat (first | refine blk_drewN ?_ _ | refine blk_drew ?_ | refine blk_alloc ?_ _)); refine blk_far ?_ NB239_247.out _; (with_reducible repeat (first | refine blk_drewN ?_ _ | refine blk_drew ?_ | refine blk_alloc ?_ _)); refine blk_far ?_ NB239_247.out _; (with_reducible repeat (first | refine blk_drewN ?_ _ | refine blk_drew ?_ | refine blk_alloc ?_ _)); exact BK239.out⟩, ⟨by (with_reducible repeat (first | refine blk_drewN ?_ _ | refine blk_drew ?_ | refine blk_alloc ?_ _)); refine blk_far ?_ NB243_247.out _; (with_reducible repeat (first | refine blk_drewN ?_ _ | refine blk_drew ?_ | refine blk_alloc ?_ _)); refine blk_far ?_ NB243_247.out _; (with_reducible repeat (first | refine blk_drewN ?_ _ | refine blk_drew ?_ | refine blk_alloc ?_ _)); exact BK243.out⟩, ⟨by (with_reducible repeat (first | refine blk_drewN ?_ _ | refine blk_drew ?_ | refine blk_alloc ?_ _)); refine blk_put (cs := #[.int .i64 t244, .int .i64 0]) ?_ 1 _ rfl; (with_reducible repeat (first | refine blk_drewN ?_ _ | refine blk_drew ?_ | refine blk_alloc ?_ _)); refine blk_put (cs := #[.int .i64 0, .int .i64 0]) ?_ 0 _ rfl; (with_reducible repeat (first | refine blk_drewN ?_ _ | refine blk_drew ?_ | refine blk_alloc ?_ _)); exact BK247.out⟩, ⟨by repeat (first | (with_reducible first | exact HB.out | apply below_alloc | apply pw_below_drewN | apply below_drew1 | refine below_set ?_ GE234.out | refine below_set ?_ GE235.out | refine below_set ?_ GE239.out | refine below_set ?_ GE243.out | refine below_set ?_ GE247.out) | exact HB.out)⟩⟩
      · rw [if_neg c36] at H
        have c36b0 : (!(t236 == t244) || (!(t237 == t245))) = false := by simpa using c36
        clear c36
        (first | rw [c36b0] | (simp only [i64_w, i32_w]; rw [c36b0]) | skip)
        by_cases c46 : (t238 != t246) = true
        · rw [if_pos c46] at H
          have c46b0 : (t238 != t246) = true := c46
          (try (have c46b1 : decide (t238 = t246) = false := by simpa using c46))
          (try (have c46b2 : (t238 == t246) = false := by simpa using c46))
          (try (have c46b3 : ¬ (t238 = t246) := by simpa using c46))
          clear c46
          have H' := Aside0.mk H
          clear H
          have hnb47 := NB239_234.out
          have hnc47 := NB234_239.out
          have hnb48 := NB239_235.out
          have hnc48 := NB235_239.out
          have hnb49 := NB239_243.out
          have hnc49 := NB243_239.out
          have hnb50 := NB239_247.out
          have hnc50 := NB247_239.out
          have hcz51_0 : w30.cell? ⟨gb239, 0, none⟩ = some (.int .i64 t236) := (blk_cell BK239.out 0).trans rfl
          have hcz51_1 : w30.cell? ⟨gb239, 1, none⟩ = some (.int .i64 t237) := (blk_cell BK239.out 1).trans rfl
          have hfz51_0 := blk_frozen BK239.out 0
          have hfz51_1 := blk_frozen BK239.out 1
          have hnb52 := NB247_234.out
          have hnc52 := NB234_247.out
          have hnb53 := NB247_235.out
          have hnc53 := NB235_247.out
          have hnb54 := NB247_243.out
          have hnc54 := NB243_247.out
          have hcz55_0 : w30.cell? ⟨gb247, 0, none⟩ = some (.int .i64 0) := (blk_cell BK247.out 0).trans rfl
          have hcz55_1 : w30.cell? ⟨gb247, 1, none⟩ = some (.int .i64 0) := (blk_cell BK247.out 1).trans rfl
          have hfz55_0 := blk_frozen BK247.out 0
          have hfz55_1 := blk_frozen BK247.out 1
          go_wp2
          go_meet
          case rel => exact ⟨_, (true), (by first | rfl | (simp; done) | (simp [*]; done)), H', ⟨by first | omega | exact Nat.le_refl _⟩, ⟨by (with_reducible repeat (first | refine blk_drewN ?_ _ | refine blk_drew ?_ | refine blk_alloc ?_ _)); refine blk_far ?_ NB234_247.out _; (with_reducible repeat (first | refine blk_drewN ?_ _ | refine blk_drew ?_ | refine blk_alloc ?_ _)); refine blk_far ?_ NB234_247.out _; (with_reducible repeat (first | refine blk_drewN ?_ _ | refine blk_drew ?_ | refine blk_alloc ?_ _)); exact BK234.out⟩, ⟨by (with_reducible repeat (first | refine blk_drewN ?_ _ | refine blk_drew ?_ | refine blk_alloc ?_ _)); refine blk_far ?_ NB235_247.out _; (with_reducible repeat (first | refine blk_drewN ?_ _ | refine blk_drew ?_ | refine blk_alloc ?_ _)); refine blk_far ?_ NB235_247.out _; (with_reducible repeat (first | refine blk_drewN ?_ _ | refine blk_drew ?_ | refine blk_alloc ?_ _)); exact BK235.out⟩, ⟨by (with_reducible repeat (first | refine blk_drewN ?_ _ | refine blk_drew ?_ | refine blk_alloc ?_ _)); refine blk_far ?_ NB239_247.out _; (with_reducible repeat (first | refine blk_drewN ?_ _ | refine blk_drew ?_ | refine blk_alloc ?_ _)); refine blk_far ?_ NB239_247.out _; (with_reducible repeat (first | refine blk_drewN ?_ _ | refine blk_drew ?_ | refine blk_alloc ?_ _)); exact BK239.out⟩, ⟨by (with_reducible repeat (first | refine blk_drewN ?_ _ | refine blk_drew ?_ | refine blk_alloc ?_ _)); refine blk_far ?_ NB243_247.out _; (with_reducible repeat (first | refine blk_drewN ?_ _ | refine blk_drew ?_ | refine blk_alloc ?_ _)); refine blk_far ?_ NB243_247.out _; (with_reducible repeat (first | refine blk_drewN ?_ _ | refine blk_drew ?_ | refine blk_alloc ?_ _)); exact BK243.out⟩, ⟨by (with_reducible repeat (first | refine blk_drewN ?_ _ | refine blk_drew ?_ | refine blk_alloc ?_ _)); refine blk_put (cs := #[.int .i64 t244, .int .i64 0]) ?_ 1 _ rfl; (with_reducible repeat (first | refine blk_drewN ?_ _ | refine blk_drew ?_ | refine blk_alloc ?_ _)); refine blk_put (cs := #[.int .i64 0, .int .i64 0]) ?_ 0 _ rfl; (with_reducible repeat (first | refine blk_drewN ?_ _ | refine blk_drew ?_ | refine blk_alloc ?_ _)); exact BK247.out⟩, ⟨by repeat (first | (with_reducible first | exact HB.out | apply below_alloc | apply pw_below_drewN | apply below_drew1 | refine below_set ?_ GE234.out | refine below_set ?_ GE235.out | refine below_set ?_ GE239.out | refine below_set ?_ GE243.out | refine below_set ?_ GE247.out) | exact HB.out)⟩⟩
        · rw [if_neg c46] at H
          have c46b0 : (t238 != t246) = false := by simpa using c46
          (try (have c46b1 : decide (t238 = t246) = true := by simpa using c46))
          (try (have c46b2 : (t238 == t246) = true := by simpa using c46))
          clear c46
          by_cases c56 : (!(t240 == t236) || (!(t241 == t237))) = true
          · rw [if_pos c56] at H
            have c56b0 : (!(t240 == t236) || (!(t241 == t237))) = true := c56
            clear c56
            have H' := Aside0.mk H
            clear H
            have hnb57 := NB239_234.out
            have hnc57 := NB234_239.out
            have hnb58 := NB239_235.out
            have hnc58 := NB235_239.out
            have hnb59 := NB239_243.out
            have hnc59 := NB243_239.out
            have hnb60 := NB239_247.out
            have hnc60 := NB247_239.out
            have hcz61_0 : w30.cell? ⟨gb239, 0, none⟩ = some (.int .i64 t236) := (blk_cell BK239.out 0).trans rfl
            have hcz61_1 : w30.cell? ⟨gb239, 1, none⟩ = some (.int .i64 t237) := (blk_cell BK239.out 1).trans rfl
            have hfz61_0 := blk_frozen BK239.out 0
            have hfz61_1 := blk_frozen BK239.out 1
            have hnb62 := NB247_234.out
            have hnc62 := NB234_247.out
            have hnb63 := NB247_235.out
            have hnc63 := NB235_247.out
            have hnb64 := NB247_243.out
            have hnc64 := NB243_247.out
            have hcz65_0 : w30.cell? ⟨gb247, 0, none⟩ = some (.int .i64 0) := (blk_cell BK247.out 0).trans rfl
            have hcz65_1 : w30.cell? ⟨gb247, 1, none⟩ = some (.int .i64 0) := (blk_cell BK247.out 1).trans rfl
            have hfz65_0 := blk_frozen BK247.out 0
            have hfz65_1 := blk_frozen BK247.out 1
            have hnb66 := NB243_234.out
            have hnc66 := NB234_243.out
            have hnb67 := NB243_235.out
            have hnc67 := NB235_243.out
            have hcz68_0 : w30.cell? ⟨gb243, 0, none⟩ = some (.int .i64 t240) := (blk_cell BK243.out 0).trans rfl
            have hcz68_1 : w30.cell? ⟨gb243, 1, none⟩ = some (.int .i64 t241) := (blk_cell BK243.out 1).trans rfl
            have hfz68_0 := blk_frozen BK243.out 0
            have hfz68_1 := blk_frozen BK243.out 1
            go_wp2
            go_meet
            case rel => exact ⟨_, (true), (by first | rfl | (simp; done) | (simp [*]; done)), H', ⟨by first | omega | exact Nat.le_refl _⟩, ⟨by (with_reducible repeat (first | refine blk_drewN ?_ _ | refine blk_drew ?_ | refine blk_alloc ?_ _)); refine blk_far ?_ NB234_247.out _; (with_reducible repeat (first | refine blk_drewN ?_ _ | refine blk_drew ?_ | refine blk_alloc ?_ _)); refine blk_far ?_ NB234_247.out _; (with_reducible repeat (first | refine blk_drewN ?_ _ | refine blk_drew ?_ | refine blk_alloc ?_ _)); exact BK234.out⟩, ⟨by (with_reducible repeat (first | refine blk_drewN ?_ _ | refine blk_drew ?_ | refine blk_alloc ?_ _)); refine blk_far ?_ NB235_247.out _; (with_reducible repeat (first | refine blk_drewN ?_ _ | refine blk_drew ?_ | refine blk_alloc ?_ _)); refine blk_far ?_ NB235_247.out _; (with_reducible repeat (first | refine blk_drewN ?_ _ | refine blk_drew ?_ | refine blk_alloc ?_ _)); exact BK235.out⟩, ⟨by (with_reducible repeat (first | refine blk_drewN ?_ _ | refine blk_drew ?_ | refine blk_alloc ?_ _)); refine blk_far ?_ NB239_247.out _; (with_reducible repeat (first | refine blk_drewN ?_ _ | refine blk_drew ?_ | refine blk_alloc ?_ _)); refine blk_far ?_ NB239_247.out _; (with_reducible repeat (first | refine blk_drewN ?_ _ | refine blk_drew ?_ | refine blk_alloc ?_ _)); exact BK239.out⟩, ⟨by (with_reducible repeat (first | refine blk_drewN ?_ _ | refine blk_drew ?_ | refine blk_alloc ?_ _)); refine blk_far ?_ NB243_247.out _; (with_reducible repeat (first | refine blk_drewN ?_ _ | refine blk_drew ?_ | refine blk_alloc ?_ _)); refine blk_far ?_ NB243_247.out _; (with_reducible repeat (first | refine blk_drewN ?_ _ | refine blk_drew ?_ | refine blk_alloc ?_ _)); exact BK243.out⟩, ⟨by (with_reducible repeat (first | refine blk_drewN ?_ _ | refine blk_drew ?_ | refine blk_alloc ?_ _)); refine blk_put (cs := #[.int .i64 t244, .int .i64 0]) ?_ 1 _ rfl; (with_reducible repeat (first | refine blk_drewN ?_ _ | refine blk_drew ?_ | refine blk_alloc ?_ _)); refine blk_put (cs := #[.int .i64 0, .int .i64 0]) ?_ 0 _ rfl; (with_reducible repeat (first | refine blk_drewN ?_ _ | refine blk_drew ?_ | refine blk_alloc ?_ _)); exact BK247.out⟩, ⟨by repeat (first | (with_reducible first | exact HB.out | apply below_alloc | apply pw_below_drewN | apply below_drew1 | refine below_set ?_ GE234.out | refine below_set ?_ GE235.out | refine below_set ?_ GE239.out | refine below_set ?_ GE243.out | refine below_set ?_ GE247.out) | exact HB.out)⟩⟩
          · rw [if_neg c56] at H
            have c56b0 : (!(t240 == t236) || (!(t241 == t237))) = false := by simpa using c56
            clear c56
            by_cases c69 : (t242 != t238) = true
            · rw [if_pos c69] at H
              have c69b0 : (t242 != t238) = true := c69
              (try (have c69b1 : decide (t242 = t238) = false := by simpa using c69))
              (try (have c69b2 : (t242 == t238) = false := by simpa using c69))
              (try (have c69b3 : ¬ (t242 = t238) := by simpa using c69))
              clear c69
              have H' := Aside0.mk H
              clear H
              have hnb70 := NB239_234.out
              have hnc70 := NB234_239.out
              have hnb71 := NB239_235.out
              have hnc71 := NB235_239.out
              have hnb72 := NB239_243.out
              have hnc72 := NB243_239.out
              have hnb73 := NB239_247.out
              have hnc73 := NB247_239.out
              have hcz74_0 : w30.cell? ⟨gb239, 0, none⟩ = some (.int .i64 t236) := (blk_cell BK239.out 0).trans rfl
              have hcz74_1 : w30.cell? ⟨gb239, 1, none⟩ = some (.int .i64 t237) := (blk_cell BK239.out 1).trans rfl
              have hfz74_0 := blk_frozen BK239.out 0
              have hfz74_1 := blk_frozen BK239.out 1
              have hnb75 := NB247_234.out
              have hnc75 := NB234_247.out
              have hnb76 := NB247_235.out
              have hnc76 := NB235_247.out
              have hnb77 := NB247_243.out
              have hnc77 := NB243_247.out
              have hcz78_0 : w30.cell? ⟨gb247, 0, none⟩ = some (.int .i64 0) := (blk_cell BK247.out 0).trans rfl
              have hcz78_1 : w30.cell? ⟨gb247, 1, none⟩ = some (.int .i64 0) := (blk_cell BK247.out 1).trans rfl
              have hfz78_0 := blk_frozen BK247.out 0
              have hfz78_1 := blk_frozen BK247.out 1
              have hnb79 := NB243_234.out
              have hnc79 := NB234_243.out
              have hnb80 := NB243_235.out
              have hnc80 := NB235_243.out
              have hcz81_0 : w30.cell? ⟨gb243, 0, none⟩ = some (.int .i64 t240) := (blk_cell BK243.out 0).trans rfl
              have hcz81_1 : w30.cell? ⟨gb243, 1, none⟩ = some (.int .i64 t241) := (blk_cell BK243.out 1).trans rfl
              have hfz81_0 := blk_frozen BK243.out 0
              have hfz81_1 := blk_frozen BK243.out 1
              go_wp2
              go_meet
              case rel => exact ⟨_, (true), (by first | rfl | (simp; done) | (simp [*]; done)), H', ⟨by first | omega | exact Nat.le_refl _⟩, ⟨by (with_reducible repeat (first | refine blk_drewN ?_ _ | refine blk_drew ?_ | refine blk_alloc ?_ _)); refine blk_far ?_ NB234_247.out _; (with_reducible repeat (first | refine blk_drewN ?_ _ | refine blk_drew ?_ | refine blk_alloc ?_ _)); refine blk_far ?_ NB234_247.out _; (with_reducible repeat (first | refine blk_drewN ?_ _ | refine blk_drew ?_ | refine blk_alloc ?_ _)); exact BK234.out⟩, ⟨by (with_reducible repeat (first | refine blk_drewN ?_ _ | refine blk_drew ?_ | refine blk_alloc ?_ _)); refine blk_far ?_ NB235_247.out _; (with_reducible repeat (first | refine blk_drewN ?_ _ | refine blk_drew ?_ | refine blk_alloc ?_ _)); refine blk_far ?_ NB235_247.out _; (with_reducible repeat (first | refine blk_drewN ?_ _ | refine blk_drew ?_ | refine blk_alloc ?_ _)); exact BK235.out⟩, ⟨by (with_reducible repeat (first | refine blk_drewN ?_ _ | refine blk_drew ?_ | refine blk_alloc ?_ _)); refine blk_far ?_ NB239_247.out _; (with_reducible repeat (first | refine blk_drewN ?_ _ | refine blk_drew ?_ | refine blk_alloc ?_ _)); refine blk_far ?_ NB239_247.out _; (with_reducible repeat (first | refine blk_drewN ?_ _ | refine blk_drew ?_ | refine blk_alloc ?_ _)); exact BK239.out⟩, ⟨by (with_reducible repeat (first | refine blk_drewN ?_ _ | refine blk_drew ?_ | refine blk_alloc ?_ _)); refine blk_far ?_ NB243_247.out _; (with_reducible repeat (first | refine blk_drewN ?_ _ | refine blk_drew ?_ | refine blk_alloc ?_ _)); refine blk_far ?_ NB243_247.out _; (with_reducible repeat (first | refine blk_drewN ?_ _ | refine blk_drew ?_ | refine blk_alloc ?_ _)); exact BK243.out⟩, ⟨by (with_reducible repeat (first | refine blk_drewN ?_ _ | refine blk_drew ?_ | refine blk_alloc ?_ _)); refine blk_put (cs := #[.int .i64 t244, .int .i64 0]) ?_ 1 _ rfl; (with_reducible repeat (first | refine blk_drewN ?_ _ | refine blk_drew ?_ | refine blk_alloc ?_ _)); refine blk_put (cs := #[.int .i64 0, .int .i64 0]) ?_ 0 _ rfl; (with_reducible repeat (first | refine blk_drewN ?_ _ | refine blk_drew ?_ | refine blk_alloc ?_ _)); exact BK247.out⟩, ⟨by repeat (first | (with_reducible first | exact HB.out | apply below_alloc | apply pw_below_drewN | apply below_drew1 | refine below_set ?_ GE234.out | refine below_set ?_ GE235.out | refine below_set ?_ GE239.out | refine below_set ?_ GE243.out | refine below_set ?_ GE247.out) | exact HB.out)⟩⟩
            · rw [if_neg c69] at H
              have c69b0 : (t242 != t238) = false := by simpa using c69
              (try (have c69b1 : decide (t242 = t238) = true := by simpa using c69))
              (try (have c69b2 : (t242 == t238) = true := by simpa using c69))
              clear c69
              replace H := Option.bind_eq_some_iff.mp H
              obtain ⟨t248, A820, H⟩ := H
              replace H : (laws_FnDecMul.j0 k t238 t242 t246 (!t248) t230 t231 t236 t237 t240 t241 t244 t245) = some r := H
              have A82 := Aside0.mk A820
              clear A820
              have H' := Aside0.mk H
              clear H
              have hnb83 := NB239_234.out
              have hnc83 := NB234_239.out
              have hnb84 := NB239_235.out
              have hnc84 := NB235_239.out
              have hnb85 := NB239_243.out
              have hnc85 := NB243_239.out
              have hnb86 := NB239_247.out
              have hnc86 := NB247_239.out
              have hcz87_0 : w30.cell? ⟨gb239, 0, none⟩ = some (.int .i64 t236) := (blk_cell BK239.out 0).trans rfl
              have hcz87_1 : w30.cell? ⟨gb239, 1, none⟩ = some (.int .i64 t237) := (blk_cell BK239.out 1).trans rfl
              have hfz87_0 := blk_frozen BK239.out 0
              have hfz87_1 := blk_frozen BK239.out 1
              have hnb88 := NB247_234.out
              have hnc88 := NB234_247.out
              have hnb89 := NB247_235.out
              have hnc89 := NB235_247.out
              have hnb90 := NB247_243.out
              have hnc90 := NB243_247.out
              have hcz91_0 : w30.cell? ⟨gb247, 0, none⟩ = some (.int .i64 0) := (blk_cell BK247.out 0).trans rfl
              have hcz91_1 : w30.cell? ⟨gb247, 1, none⟩ = some (.int .i64 0) := (blk_cell BK247.out 1).trans rfl
              have hfz91_0 := blk_frozen BK247.out 0
              have hfz91_1 := blk_frozen BK247.out 1
              have hnb92 := NB243_234.out
              have hnc92 := NB234_243.out
              have hnb93 := NB243_235.out
              have hnc93 := NB235_243.out
              have hcz94_0 : w30.cell? ⟨gb243, 0, none⟩ = some (.int .i64 t240) := (blk_cell BK243.out 0).trans rfl
              have hcz94_1 : w30.cell? ⟨gb243, 1, none⟩ = some (.int .i64 t241) := (blk_cell BK243.out 1).trans rfl
              have hfz94_0 := blk_frozen BK243.out 0
              have hfz94_1 := blk_frozen BK243.out 1
              have hnb95 := NB234_235.out
              have hnc95 := NB235_234.out
              have hcz96_0 : w30.cell? ⟨gb234, 0, none⟩ = some (.int .i64 t230) := (blk_cell BK234.out 0).trans rfl
              have hcz96_1 : w30.cell? ⟨gb234, 1, none⟩ = some (.int .i64 t231) := (blk_cell BK234.out 1).trans rfl
              have hfz96_0 := blk_frozen BK234.out 0
              have hfz96_1 := blk_frozen BK234.out 1
              go_wp2_with (first | (go_at_call 20; (with_reducible refine (spec_DecOk.calls t230 t231 t248 _ A82.out).mono ?_); rintro e w97 ⟨rfl, hb⟩; have n0_ := Aside0.mk (blk_below (g := gb234) (o := .cells #[.int .i64 t230, .int .i64 t231] 26 (0, 0)) (by (with_reducible repeat (first | refine blk_drewN ?_ _ | refine blk_drew ?_ | refine blk_alloc ?_ _)); refine blk_far ?_ NB234_247.out _; (with_reducible repeat (first | refine blk_drewN ?_ _ | refine blk_drew ?_ | refine blk_alloc ?_ _)); refine blk_far ?_ NB234_247.out _; (with_reducible repeat (first | refine blk_drewN ?_ _ | refine blk_drew ?_ | refine blk_alloc ?_ _)); exact BK234.out) hb); have n1_ := Aside0.mk (blk_below (g := gb235) (o := .cells #[.int .i64 t232, .int .i64 t233] 26 (0, 0)) (by (with_reducible repeat (first | refine blk_drewN ?_ _ | refine blk_drew ?_ | refine blk_alloc ?_ _)); refine blk_far ?_ NB235_247.out _; (with_reducible repeat (first | refine blk_drewN ?_ _ | refine blk_drew ?_ | refine blk_alloc ?_ _)); refine blk_far ?_ NB235_247.out _; (with_reducible repeat (first | refine blk_drewN ?_ _ | refine blk_drew ?_ | refine blk_alloc ?_ _)); exact BK235.out) hb); have n2_ := Aside0.mk (blk_below (g := gb239) (o := .cells #[.int .i64 t236, .int .i64 t237] 26 (0, 0)) (by (with_reducible repeat (first | refine blk_drewN ?_ _ | refine blk_drew ?_ | refine blk_alloc ?_ _)); refine blk_far ?_ NB239_247.out _; (with_reducible repeat (first | refine blk_drewN ?_ _ | refine blk_drew ?_ | refine blk_alloc ?_ _)); refine blk_far ?_ NB239_247.out _; (with_reducible repeat (first | refine blk_drewN ?_ _ | refine blk_drew ?_ | refine blk_alloc ?_ _)); exact BK239.out) hb); have n3_ := Aside0.mk (blk_below (g := gb243) (o := .cells #[.int .i64 t240, .int .i64 t241] 26 (0, 0)) (by (with_reducible repeat (first | refine blk_drewN ?_ _ | refine blk_drew ?_ | refine blk_alloc ?_ _)); refine blk_far ?_ NB243_247.out _; (with_reducible repeat (first | refine blk_drewN ?_ _ | refine blk_drew ?_ | refine blk_alloc ?_ _)); refine blk_far ?_ NB243_247.out _; (with_reducible repeat (first | refine blk_drewN ?_ _ | refine blk_drew ?_ | refine blk_alloc ?_ _)); exact BK243.out) hb); have n4_ := Aside0.mk (blk_below (g := gb247) (o := .cells #[.int .i64 t244, .int .i64 t245] 26 (0, 0)) (by (with_reducible repeat (first | refine blk_drewN ?_ _ | refine blk_drew ?_ | refine blk_alloc ?_ _)); refine blk_put (cs := #[.int .i64 t244, .int .i64 0]) ?_ 1 _ rfl; (with_reducible repeat (first | refine blk_drewN ?_ _ | refine blk_drew ?_ | refine blk_alloc ?_ _)); refine blk_put (cs := #[.int .i64 0, .int .i64 0]) ?_ 0 _ rfl; (with_reducible repeat (first | refine blk_drewN ?_ _ | refine blk_drew ?_ | refine blk_alloc ?_ _)); exact BK247.out) hb); have n5_ := Aside0.mk (below_step (by repeat (first | (with_reducible first | exact HB.out | apply below_alloc | apply pw_below_drewN | apply below_drew1 | refine below_set ?_ GE234.out | refine below_set ?_ GE235.out | refine below_set ?_ GE239.out | refine below_set ?_ GE243.out | refine below_set ?_ GE247.out) | exact HB.out)) hb); clear BK234; clear BK235; clear BK239; clear BK243; clear BK247; clear HB; have BK234 := n0_; have BK235 := n1_; have BK239 := n2_; have BK243 := n3_; have BK247 := n4_; have HB := n5_; clear n0_ n1_ n2_ n3_ n4_ n5_; (try clear hb); (try clear hb2); (try clear hk); (try clear hi)))
              go_meet
              case rel => exact ⟨_, (!t248), (by first | rfl | (simp; done) | (simp [*]; done)), H', ⟨by first | omega | exact Nat.le_refl _⟩, ⟨by (with_reducible repeat (first | refine blk_drewN ?_ _ | refine blk_drew ?_ | refine blk_alloc ?_ _)); exact BK234.out⟩, ⟨by (with_reducible repeat (first | refine blk_drewN ?_ _ | refine blk_drew ?_ | refine blk_alloc ?_ _)); exact BK235.out⟩, ⟨by (with_reducible repeat (first | refine blk_drewN ?_ _ | refine blk_drew ?_ | refine blk_alloc ?_ _)); exact BK239.out⟩, ⟨by (with_reducible repeat (first | refine blk_drewN ?_ _ | refine blk_drew ?_ | refine blk_alloc ?_ _)); exact BK243.out⟩, ⟨by (with_reducible repeat (first | refine blk_drewN ?_ _ | refine blk_drew ?_ | refine blk_alloc ?_ _)); exact BK247.out⟩, ⟨by repeat (first | (with_reducible first | exact HB.out | apply below_alloc | apply pw_below_drewN | apply below_drew1 | refine below_set ?_ GE234.out | refine below_set ?_ GE235.out | refine below_set ?_ GE239.out | refine below_set ?_ GE243.out | refine below_set ?_ GE247.out) | exact HB.out)⟩⟩
    case rest =>
      clear HC7
      try clear c1
      try clear c2
      try clear c2b0
      try clear c2b1
      try clear p2
      try clear c3
      try clear c4
      try clear c5
      try clear c6
      try clear c7
      try clear c8
      try clear c9
      try clear c11
      try clear c16
      try clear c17
      try clear c18
      try clear c19
      try clear c23
      try clear c24
      try clear c25
      try clear c31
      try clear c32
      try clear c33
      try clear c34
      try clear c36
      try clear c36b0
      try clear c37
      try clear c38
      try clear c39
      try clear c40
      try clear c42
      try clear c43
      try clear c44
      try clear c46
      try clear c46b0
      try clear c46b1
      try clear c46b2
      try clear c47
      try clear c48
      try clear c49
      try clear c50
      try clear c52
      try clear c53
      try clear c54
      try clear c56
      try clear c56b0
      try clear c57
      try clear c58
      try clear c59
      try clear c60
      try clear c62
      try clear c63
      try clear c64
      try clear c66
      try clear c67
      try clear c69
      try clear c69b0
      try clear c69b1
      try clear c69b2
      try clear c70
      try clear c71
      try clear c72
      try clear c73
      try clear c75
      try clear c76
      try clear c77
      try clear c79
      try clear c80
      try clear c83
      try clear c84
      try clear c85
      try clear c86
      try clear c88
      try clear c89
      try clear c90
      try clear c92
      try clear c93
      try clear c95
      try clear hcz12_0
      try clear hcz12_1
      try clear hcz13_0
      try clear hcz13_1
      try clear hcz18_0
      try clear hcz18_1
      try clear hcz19_0
      try clear hcz19_1
      try clear hcz20_0
      try clear hcz20_1
      try clear hcz26_0
      try clear hcz26_1
      try clear hcz27_0
      try clear hcz27_1
      try clear hcz28_0
      try clear hcz28_1
      try clear hcz35_0
      try clear hcz35_1
      try clear hcz41_0
      try clear hcz41_1
      try clear hcz45_0
      try clear hcz45_1
      try clear hcz51_0
      try clear hcz51_1
      try clear hcz55_0
      try clear hcz55_1
      try clear hcz61_0
      try clear hcz61_1
      try clear hcz65_0
      try clear hcz65_1
      try clear hcz68_0
      try clear hcz68_1
      try clear hcz74_0
      try clear hcz74_1
      try clear hcz78_0
      try clear hcz78_1
      try clear hcz81_0
      try clear hcz81_1
      try clear hcz87_0
      try clear hcz87_1
      try clear hcz91_0
      try clear hcz91_1
      try clear hcz94_0
      try clear hcz94_1
      try clear hcz96_0
      try clear hcz96_1
      try clear hfz12_0
      try clear hfz12_1
      try clear hfz13_0
      try clear hfz13_1
      try clear hfz18_0
      try clear hfz18_1
      try clear hfz19_0
      try clear hfz19_1
      try clear hfz20_0
      try clear hfz20_1
      try clear hfz26_0
      try clear hfz26_1
      try clear hfz27_0
      try clear hfz27_1
      try clear hfz28_0
      try clear hfz28_1
      try clear hfz35_0
      try clear hfz35_1
      try clear hfz41_0
      try clear hfz41_1
      try clear hfz45_0
      try clear hfz45_1
      try clear hfz51_0
      try clear hfz51_1
      try clear hfz55_0
      try clear hfz55_1
      try clear hfz61_0
      try clear hfz61_1
      try clear hfz65_0
      try clear hfz65_1
      try clear hfz68_0
      try clear hfz68_1
      try clear hfz74_0
      try clear hfz74_1
      try clear hfz78_0
      try clear hfz78_1
      try clear hfz81_0
      try clear hfz81_1
      try clear hfz87_0
      try clear hfz87_1
      try clear hfz91_0
      try clear hfz91_1
      try clear hfz94_0
      try clear hfz94_1
      try clear hfz96_0
      try clear hfz96_1
      obtain ⟨kq, x63_6, rfl, HA, HJ6, BK234, BK235, BK239, BK243, BK247, HB⟩ := hcut
      cases kq with
      | zero => exact absurd HA.out (by simp [laws_FnDecMul.j0])
      | succ kj6 =>
        have H := HA.out
        clear HA
        simp only [laws_FnDecMul.j0] at H
        by_cases c98 : x63_6 = true
        · subst c98
          have H1 : (if (t236 == t244 && (t237 == t245)) = true then (if (t238 == t246) = true then (if (t240 == t236 && (t241 == t237)) = true then (some (t242 == t238)) else (none)) else (none)) else (none)) = some r := by rw [if_pos rfl] at H; exact H
          clear H
          have H := H1
          clear H1
          by_cases c99 : (t236 == t244 && (t237 == t245)) = true
          · rw [if_pos c99] at H
            have c99b0 : (t236 == t244 && (t237 == t245)) = true := c99
            (try (have c99b1 : decide (t236 = t244 && (t237 == t245)) = true := by simpa using c99))
            (try (have c99b2 : (t236 == t244 && (t237 == t245)) = true := by simpa using c99))
            clear c99
            by_cases c100 : (t238 == t246) = true
            · rw [if_pos c100] at H
              have c100b0 : (t238 == t246) = true := c100
              (try (have c100b1 : decide (t238 = t246) = true := by simpa using c100))
              (try (have c100b2 : (t238 == t246) = true := by simpa using c100))
              clear c100
              by_cases c101 : (t240 == t236 && (t241 == t237)) = true
              · rw [if_pos c101] at H
                have c101b0 : (t240 == t236 && (t241 == t237)) = true := c101
                (try (have c101b1 : decide (t240 = t236 && (t241 == t237)) = true := by simpa using c101))
                (try (have c101b2 : (t240 == t236 && (t241 == t237)) = true := by simpa using c101))
                clear c101
                obtain rfl := Option.some.inj H
                have hnb102 := NB239_234.out
                have hnc102 := NB234_239.out
                have hnb103 := NB239_235.out
                have hnc103 := NB235_239.out
                have hnb104 := NB239_243.out
                have hnc104 := NB243_239.out
                have hnb105 := NB239_247.out
                have hnc105 := NB247_239.out
                have hcz106_0 : wc.cell? ⟨gb239, 0, none⟩ = some (.int .i64 t236) := (blk_cell BK239.out 0).trans rfl
                have hcz106_1 : wc.cell? ⟨gb239, 1, none⟩ = some (.int .i64 t237) := (blk_cell BK239.out 1).trans rfl
                have hfz106_0 := blk_frozen BK239.out 0
                have hfz106_1 := blk_frozen BK239.out 1
                have hnb107 := NB247_234.out
                have hnc107 := NB234_247.out
                have hnb108 := NB247_235.out
                have hnc108 := NB235_247.out
                have hnb109 := NB247_243.out
                have hnc109 := NB243_247.out
                have hcz110_0 : wc.cell? ⟨gb247, 0, none⟩ = some (.int .i64 t244) := (blk_cell BK247.out 0).trans rfl
                have hcz110_1 : wc.cell? ⟨gb247, 1, none⟩ = some (.int .i64 t245) := (blk_cell BK247.out 1).trans rfl
                have hfz110_0 := blk_frozen BK247.out 0
                have hfz110_1 := blk_frozen BK247.out 1
                have hnb111 := NB243_234.out
                have hnc111 := NB234_243.out
                have hnb112 := NB243_235.out
                have hnc112 := NB235_243.out
                have hcz113_0 : wc.cell? ⟨gb243, 0, none⟩ = some (.int .i64 t240) := (blk_cell BK243.out 0).trans rfl
                have hcz113_1 : wc.cell? ⟨gb243, 1, none⟩ = some (.int .i64 t241) := (blk_cell BK243.out 1).trans rfl
                have hfz113_0 := blk_frozen BK243.out 0
                have hfz113_1 := blk_frozen BK243.out 1
                go_wp2
                go_ret
                exact ⟨by first | rfl | (simp [errW_none, errW_some] <;> rfl) | (simp [*, errW_none, errW_some] <;> rfl), by repeat (first | (with_reducible first | exact HB.out | apply below_alloc | apply pw_below_drewN | apply below_drew1 | refine below_set ?_ GE234.out | refine below_set ?_ GE235.out | refine below_set ?_ GE239.out | refine below_set ?_ GE243.out | refine below_set ?_ GE247.out) | exact HB.out)⟩
              · rw [if_neg c101] at H
                exact absurd H (by simp)
            · rw [if_neg c100] at H
              exact absurd H (by simp)
          · rw [if_neg c99] at H
            exact absurd H (by simp)
        · replace c98 := Bool.eq_false_iff.mpr c98
          subst c98
          have H1 : ((impl_DecMul.f kj6 t230 t231 1 0).bind fun bt249 => ((impl_DecMul.f kj6 t230 t231 0 0).bind fun bt253 => (if bt249.2.2 = true then (if (bt249.1 == t230 && (bt249.2.1 == t231)) = true then (if bt253.2.2 = true then (some (bt253.1 == 0 && (bt253.2.1 == 0))) else (none)) else (none)) else (none)))) = some r := by rw [if_neg (show ¬ (false = true) by decide)] at H; exact H
          clear H
          have H := H1
          clear H1
          replace H := Option.bind_eq_some_iff.mp H
          obtain ⟨⟨t249, t250, t251⟩, A1140, H⟩ := H
          replace H : ((impl_DecMul.f kj6 t230 t231 0 0).bind fun bt253 => (if t251 = true then (if (t249 == t230 && (t250 == t231)) = true then (if bt253.2.2 = true then (some (bt253.1 == 0 && (bt253.2.1 == 0))) else (none)) else (none)) else (none))) = some r := H
          have A114 := Aside0.mk A1140
          clear A1140
          replace H := Option.bind_eq_some_iff.mp H
          obtain ⟨⟨t253, t254, t255⟩, A1150, H⟩ := H
          replace H : (if t251 = true then (if (t249 == t230 && (t250 == t231)) = true then (if t255 = true then (some (t253 == 0 && (t254 == 0))) else (none)) else (none)) else (none)) = some r := H
          have A115 := Aside0.mk A1150
          clear A1150
          by_cases c116 : t251 = true
          · subst c116
            have H1 : (if (t249 == t230 && (t250 == t231)) = true then (if t255 = true then (some (t253 == 0 && (t254 == 0))) else (none)) else (none)) = some r := by rw [if_pos rfl] at H; exact H
            clear H
            have H := H1
            clear H1
            by_cases c117 : (t249 == t230 && (t250 == t231)) = true
            · rw [if_pos c117] at H
              have c117b0 : (t249 == t230 && (t250 == t231)) = true := c117
              (try (have c117b1 : decide (t249 = t230 && (t250 == t231)) = true := by simpa using c117))
              (try (have c117b2 : (t249 == t230 && (t250 == t231)) = true := by simpa using c117))
              clear c117
              by_cases c118 : t255 = true
              · subst c118
                have H1 : (some (t253 == 0 && (t254 == 0))) = some r := by rw [if_pos rfl] at H; exact H
                clear H
                have H := H1
                clear H1
                obtain rfl := Option.some.inj H
                have hnb119 := NB234_235.out
                have hnc119 := NB235_234.out
                have hnb120 := NB234_239.out
                have hnc120 := NB239_234.out
                have hnb121 := NB234_243.out
                have hnc121 := NB243_234.out
                have hnb122 := NB234_247.out
                have hnc122 := NB247_234.out
                have hcz123_0 : wc.cell? ⟨gb234, 0, none⟩ = some (.int .i64 t230) := (blk_cell BK234.out 0).trans rfl
                have hcz123_1 : wc.cell? ⟨gb234, 1, none⟩ = some (.int .i64 t231) := (blk_cell BK234.out 1).trans rfl
                have hfz123_0 := blk_frozen BK234.out 0
                have hfz123_1 := blk_frozen BK234.out 1
                go_wp2_with (first | ((with_reducible refine gate_callee (f := 18) rfl ?_); refine goesL_ (some 85) rfl rfl Try.func18 (by kernel_rfl) rfl #[.agg #[.int .i64 t230, .int .i64 t231], .agg #[.int .i64 1, .int .i64 0]] rfl (by (try simp only [List.map_toArray, List.map_cons, List.map_nil]); first | done | rfl | (simp only [List.length_drop, List.length_take]; rfl)) ?_; (with_reducible refine (impl_DecMul.calls kj6 t230 t231 1 0 t249 t250 true _ A114.out).mono ?_); rintro e w124 ⟨rfl, hb⟩; refine ⟨_, rfl, ?_⟩; have n0_ := Aside0.mk (blk_below (g := gb234) (o := .cells #[.int .i64 t230, .int .i64 t231] 26 (0, 0)) (by (with_reducible repeat (first | refine blk_drewN ?_ _ | refine blk_drew ?_ | refine blk_alloc ?_ _)); exact BK234.out) hb); have n1_ := Aside0.mk (blk_below (g := gb235) (o := .cells #[.int .i64 t232, .int .i64 t233] 26 (0, 0)) (by (with_reducible repeat (first | refine blk_drewN ?_ _ | refine blk_drew ?_ | refine blk_alloc ?_ _)); exact BK235.out) hb); have n2_ := Aside0.mk (blk_below (g := gb239) (o := .cells #[.int .i64 t236, .int .i64 t237] 26 (0, 0)) (by (with_reducible repeat (first | refine blk_drewN ?_ _ | refine blk_drew ?_ | refine blk_alloc ?_ _)); exact BK239.out) hb); have n3_ := Aside0.mk (blk_below (g := gb243) (o := .cells #[.int .i64 t240, .int .i64 t241] 26 (0, 0)) (by (with_reducible repeat (first | refine blk_drewN ?_ _ | refine blk_drew ?_ | refine blk_alloc ?_ _)); exact BK243.out) hb); have n4_ := Aside0.mk (blk_below (g := gb247) (o := .cells #[.int .i64 t244, .int .i64 t245] 26 (0, 0)) (by (with_reducible repeat (first | refine blk_drewN ?_ _ | refine blk_drew ?_ | refine blk_alloc ?_ _)); exact BK247.out) hb); have n5_ := Aside0.mk (below_step (by repeat (first | (with_reducible first | exact HB.out | apply below_alloc | apply pw_below_drewN | apply below_drew1 | refine below_set ?_ GE234.out | refine below_set ?_ GE235.out | refine below_set ?_ GE239.out | refine below_set ?_ GE243.out | refine below_set ?_ GE247.out) | exact HB.out)) hb); clear BK234; clear BK235; clear BK239; clear BK243; clear BK247; clear HB; have BK234 := n0_; have BK235 := n1_; have BK239 := n2_; have BK243 := n3_; have BK247 := n4_; have HB := n5_; clear n0_ n1_ n2_ n3_ n4_ n5_; (try clear hb); (try clear hb2); (try clear hk); (try clear hi)) | ((with_reducible refine gate_dst (N := 11) rfl ?_); refine box_event ?hg (N := 11) ?hd (cs := #[.int .i64 0, .int .i64 0]) (t := 26) ?hr ?_; (case hd => rfl); (case hg => rfl); (case hr => first | (go_simp; done) | (go_simp; rfl)); intro gb252 hg w125 hbox hb; have n0_ := Aside0.mk (blk_below (g := gb234) (o := .cells #[.int .i64 t230, .int .i64 t231] 26 (0, 0)) (by (with_reducible repeat (first | refine blk_drewN ?_ _ | refine blk_drew ?_ | refine blk_alloc ?_ _)); exact BK234.out) hb); have n1_ := Aside0.mk (blk_below (g := gb235) (o := .cells #[.int .i64 t232, .int .i64 t233] 26 (0, 0)) (by (with_reducible repeat (first | refine blk_drewN ?_ _ | refine blk_drew ?_ | refine blk_alloc ?_ _)); exact BK235.out) hb); have n2_ := Aside0.mk (blk_below (g := gb239) (o := .cells #[.int .i64 t236, .int .i64 t237] 26 (0, 0)) (by (with_reducible repeat (first | refine blk_drewN ?_ _ | refine blk_drew ?_ | refine blk_alloc ?_ _)); exact BK239.out) hb); have n3_ := Aside0.mk (blk_below (g := gb243) (o := .cells #[.int .i64 t240, .int .i64 t241] 26 (0, 0)) (by (with_reducible repeat (first | refine blk_drewN ?_ _ | refine blk_drew ?_ | refine blk_alloc ?_ _)); exact BK243.out) hb); have n4_ := Aside0.mk (blk_below (g := gb247) (o := .cells #[.int .i64 t244, .int .i64 t245] 26 (0, 0)) (by (with_reducible repeat (first | refine blk_drewN ?_ _ | refine blk_drew ?_ | refine blk_alloc ?_ _)); exact BK247.out) hb); have n5_ := Aside0.mk (below_step (by repeat (first | (with_reducible first | exact HB.out | apply below_alloc | apply pw_below_drewN | apply below_drew1 | refine below_set ?_ GE234.out | refine below_set ?_ GE235.out | refine below_set ?_ GE239.out | refine below_set ?_ GE243.out | refine below_set ?_ GE247.out) | exact HB.out)) hb); have n6_ := Aside0.mk (hbox); have n7_ := Aside0.mk ((by rw [hg]; exact (below_size (by repeat (first | (with_reducible first | exact HB.out | apply below_alloc | apply pw_below_drewN | apply below_drew1 | refine below_set ?_ GE234.out | refine below_set ?_ GE235.out | refine below_set ?_ GE239.out | refine below_set ?_ GE243.out | refine below_set ?_ GE247.out) | exact HB.out))) : w.heap.size ≤ gb252)); have n8_ := Aside0.mk ((by rw [hg]; exact (below_size (by repeat (first | (with_reducible first | exact HB.out | apply below_alloc | apply pw_below_drewN | apply below_drew1 | refine below_set ?_ GE234.out | refine below_set ?_ GE235.out | refine below_set ?_ GE239.out | refine below_set ?_ GE243.out | refine below_set ?_ GE247.out) | exact HB.out))) : w.heap.size ≤ gb252)); have n9_ := Aside0.mk ((by rw [hg]; exact Nat.ne_of_lt (blk_lt (g := gb234) (o := .cells #[.int .i64 t230, .int .i64 t231] 26 (0, 0)) (by (with_reducible repeat (first | refine blk_drewN ?_ _ | refine blk_drew ?_ | refine blk_alloc ?_ _)); exact BK234.out)) : gb234 ≠ gb252)); have n10_ := Aside0.mk ((by rw [hg]; exact Nat.ne_of_gt (blk_lt (g := gb234) (o := .cells #[.int .i64 t230, .int .i64 t231] 26 (0, 0)) (by (with_reducible repeat (first | refine blk_drewN ?_ _ | refine blk_drew ?_ | refine blk_alloc ?_ _)); exact BK234.out)) : gb252 ≠ gb234)); have n11_ := Aside0.mk ((by rw [hg]; exact Nat.ne_of_lt (blk_lt (g := gb235) (o := .cells #[.int .i64 t232, .int .i64 t233] 26 (0, 0)) (by (with_reducible repeat (first | refine blk_drewN ?_ _ | refine blk_drew ?_ | refine blk_alloc ?_ _)); exact BK235.out)) : gb235 ≠ gb252)); have n12_ := Aside0.mk ((by rw [hg]; exact Nat.ne_of_gt (blk_lt (g := gb235) (o := .cells #[.int .i64 t232, .int .i64 t233] 26 (0, 0)) (by (with_reducible repeat (first | refine blk_drewN ?_ _ | refine blk_drew ?_ | refine blk_alloc ?_ _)); exact BK235.out)) : gb252 ≠ gb235)); have n13_ := Aside0.mk ((by rw [hg]; exact Nat.ne_of_lt (blk_lt (g := gb239) (o := .cells #[.int .i64 t236, .int .i64 t237] 26 (0, 0)) (by (with_reducible repeat (first | refine blk_drewN ?_ _ | refine blk_drew ?_ | refine blk_alloc ?_ _)); exact BK239.out)) : gb239 ≠ gb252)); have n14_ := Aside0.mk ((by rw [hg]; exact Nat.ne_of_gt (blk_lt (g := gb239) (o := .cells #[.int .i64 t236, .int .i64 t237] 26 (0, 0)) (by (with_reducible repeat (first | refine blk_drewN ?_ _ | refine blk_drew ?_ | refine blk_alloc ?_ _)); exact BK239.out)) : gb252 ≠ gb239)); have n15_ := Aside0.mk ((by rw [hg]; exact Nat.ne_of_lt (blk_lt (g := gb243) (o := .cells #[.int .i64 t240, .int .i64 t241] 26 (0, 0)) (by (with_reducible repeat (first | refine blk_drewN ?_ _ | refine blk_drew ?_ | refine blk_alloc ?_ _)); exact BK243.out)) : gb243 ≠ gb252)); have n16_ := Aside0.mk ((by rw [hg]; exact Nat.ne_of_gt (blk_lt (g := gb243) (o := .cells #[.int .i64 t240, .int .i64 t241] 26 (0, 0)) (by (with_reducible repeat (first | refine blk_drewN ?_ _ | refine blk_drew ?_ | refine blk_alloc ?_ _)); exact BK243.out)) : gb252 ≠ gb243)); have n17_ := Aside0.mk ((by rw [hg]; exact Nat.ne_of_lt (blk_lt (g := gb247) (o := .cells #[.int .i64 t244, .int .i64 t245] 26 (0, 0)) (by (with_reducible repeat (first | refine blk_drewN ?_ _ | refine blk_drew ?_ | refine blk_alloc ?_ _)); exact BK247.out)) : gb247 ≠ gb252)); have n18_ := Aside0.mk ((by rw [hg]; exact Nat.ne_of_gt (blk_lt (g := gb247) (o := .cells #[.int .i64 t244, .int .i64 t245] 26 (0, 0)) (by (with_reducible repeat (first | refine blk_drewN ?_ _ | refine blk_drew ?_ | refine blk_alloc ?_ _)); exact BK247.out)) : gb252 ≠ gb247)); clear BK234; clear BK235; clear BK239; clear BK243; clear BK247; clear HB; have BK234 := n0_; have BK235 := n1_; have BK239 := n2_; have BK243 := n3_; have BK247 := n4_; have HB := n5_; have BK252 := n6_; have GW252 := n7_; have GE252 := n8_; have NB234_252 := n9_; have NB252_234 := n10_; have NB235_252 := n11_; have NB252_235 := n12_; have NB239_252 := n13_; have NB252_239 := n14_; have NB243_252 := n15_; have NB252_243 := n16_; have NB247_252 := n17_; have NB252_247 := n18_; clear n0_ n1_ n2_ n3_ n4_ n5_ n6_ n7_ n8_ n9_ n10_ n11_ n12_ n13_ n14_ n15_ n16_ n17_ n18_; clear hb hbox hg; have hnb126 := NB252_234.out; have hnc126 := NB234_252.out; have hnb127 := NB252_235.out; have hnc127 := NB235_252.out; have hnb128 := NB252_239.out; have hnc128 := NB239_252.out; have hnb129 := NB252_243.out; have hnc129 := NB243_252.out; have hnb130 := NB252_247.out; have hnc130 := NB247_252.out; have hcz131_0 : w125.cell? ⟨gb252, 0, none⟩ = some (.int .i64 0) := (blk_cell BK252.out 0).trans rfl; have hcz131_1 : w125.cell? ⟨gb252, 1, none⟩ = some (.int .i64 0) := (blk_cell BK252.out 1).trans rfl; have hfz131_0 := blk_frozen BK252.out 0; have hfz131_1 := blk_frozen BK252.out 1; have hcz132_0 : w125.cell? ⟨gb234, 0, none⟩ = some (.int .i64 t230) := (blk_cell BK234.out 0).trans rfl; have hcz132_1 : w125.cell? ⟨gb234, 1, none⟩ = some (.int .i64 t231) := (blk_cell BK234.out 1).trans rfl; have hfz132_0 := blk_frozen BK234.out 0; have hfz132_1 := blk_frozen BK234.out 1) | ((with_reducible refine gate_callee (f := 18) rfl ?_); refine goesL_ (some 91) rfl rfl Try.func18 (by kernel_rfl) rfl #[.agg #[.int .i64 t230, .int .i64 t231], .agg #[.int .i64 0, .int .i64 0]] rfl (by (try simp only [List.map_toArray, List.map_cons, List.map_nil]); first | done | rfl | (simp only [List.length_drop, List.length_take]; rfl)) ?_; (with_reducible refine (impl_DecMul.calls kj6 t230 t231 0 0 t253 t254 true _ A115.out).mono ?_); rintro e w133 ⟨rfl, hb⟩; refine ⟨_, rfl, ?_⟩; have n0_ := Aside0.mk (blk_below (g := gb234) (o := .cells #[.int .i64 t230, .int .i64 t231] 26 (0, 0)) (by (with_reducible repeat (first | refine blk_drewN ?_ _ | refine blk_drew ?_ | refine blk_alloc ?_ _)); refine blk_far ?_ NB234_252.out _; (with_reducible repeat (first | refine blk_drewN ?_ _ | refine blk_drew ?_ | refine blk_alloc ?_ _)); refine blk_far ?_ NB234_252.out _; (with_reducible repeat (first | refine blk_drewN ?_ _ | refine blk_drew ?_ | refine blk_alloc ?_ _)); exact BK234.out) hb); have n1_ := Aside0.mk (blk_below (g := gb235) (o := .cells #[.int .i64 t232, .int .i64 t233] 26 (0, 0)) (by (with_reducible repeat (first | refine blk_drewN ?_ _ | refine blk_drew ?_ | refine blk_alloc ?_ _)); refine blk_far ?_ NB235_252.out _; (with_reducible repeat (first | refine blk_drewN ?_ _ | refine blk_drew ?_ | refine blk_alloc ?_ _)); refine blk_far ?_ NB235_252.out _; (with_reducible repeat (first | refine blk_drewN ?_ _ | refine blk_drew ?_ | refine blk_alloc ?_ _)); exact BK235.out) hb); have n2_ := Aside0.mk (blk_below (g := gb239) (o := .cells #[.int .i64 t236, .int .i64 t237] 26 (0, 0)) (by (with_reducible repeat (first | refine blk_drewN ?_ _ | refine blk_drew ?_ | refine blk_alloc ?_ _)); refine blk_far ?_ NB239_252.out _; (with_reducible repeat (first | refine blk_drewN ?_ _ | refine blk_drew ?_ | refine blk_alloc ?_ _)); refine blk_far ?_ NB239_252.out _; (with_reducible repeat (first | refine blk_drewN ?_ _ | refine blk_drew ?_ | refine blk_alloc ?_ _)); exact BK239.out) hb); have n3_ := Aside0.mk (blk_below (g := gb243) (o := .cells #[.int .i64 t240, .int .i64 t241] 26 (0, 0)) (by (with_reducible repeat (first | refine blk_drewN ?_ _ | refine blk_drew ?_ | refine blk_alloc ?_ _)); refine blk_far ?_ NB243_252.out _; (with_reducible repeat (first | refine blk_drewN ?_ _ | refine blk_drew ?_ | refine blk_alloc ?_ _)); refine blk_far ?_ NB243_252.out _; (with_reducible repeat (first | refine blk_drewN ?_ _ | refine blk_drew ?_ | refine blk_alloc ?_ _)); exact BK243.out) hb); have n4_ := Aside0.mk (blk_below (g := gb247) (o := .cells #[.int .i64 t244, .int .i64 t245] 26 (0, 0)) (by (with_reducible repeat (first | refine blk_drewN ?_ _ | refine blk_drew ?_ | refine blk_alloc ?_ _)); refine blk_far ?_ NB247_252.out _; (with_reducible repeat (first | refine blk_drewN ?_ _ | refine blk_drew ?_ | refine blk_alloc ?_ _)); refine blk_far ?_ NB247_252.out _; (with_reducible repeat (first | refine blk_drewN ?_ _ | refine blk_drew ?_ | refine blk_alloc ?_ _)); exact BK247.out) hb); have n5_ := Aside0.mk (blk_below (g := gb252) (o := .cells #[.int .i64 t249, .int .i64 t250] 26 (0, 0)) (by (with_reducible repeat (first | refine blk_drewN ?_ _ | refine blk_drew ?_ | refine blk_alloc ?_ _)); refine blk_put (cs := #[.int .i64 t249, .int .i64 0]) ?_ 1 _ rfl; (with_reducible repeat (first | refine blk_drewN ?_ _ | refine blk_drew ?_ | refine blk_alloc ?_ _)); refine blk_put (cs := #[.int .i64 0, .int .i64 0]) ?_ 0 _ rfl; (with_reducible repeat (first | refine blk_drewN ?_ _ | refine blk_drew ?_ | refine blk_alloc ?_ _)); exact BK252.out) hb); have n6_ := Aside0.mk (below_step (by repeat (first | (with_reducible first | exact HB.out | apply below_alloc | apply pw_below_drewN | apply below_drew1 | refine below_set ?_ GE234.out | refine below_set ?_ GE235.out | refine below_set ?_ GE239.out | refine below_set ?_ GE243.out | refine below_set ?_ GE247.out | refine below_set ?_ GE252.out) | exact HB.out)) hb); clear BK234; clear BK235; clear BK239; clear BK243; clear BK247; clear BK252; clear HB; have BK234 := n0_; have BK235 := n1_; have BK239 := n2_; have BK243 := n3_; have BK247 := n4_; have BK252 := n5_; have HB := n6_; clear n0_ n1_ n2_ n3_ n4_ n5_ n6_; (try clear hb); (try clear hb2); (try clear hk); (try clear hi)) | ((with_reducible refine gate_dst (N := 13) rfl ?_); refine box_event ?hg (N := 13) ?hd (cs := #[.int .i64 0, .int .i64 0]) (t := 26) ?hr ?_; (case hd => rfl); (case hg => rfl); (case hr => first | (go_simp; done) | (go_simp; rfl)); intro gb256 hg w134 hbox hb; have n0_ := Aside0.mk (blk_below (g := gb234) (o := .cells #[.int .i64 t230, .int .i64 t231] 26 (0, 0)) (by (with_reducible repeat (first | refine blk_drewN ?_ _ | refine blk_drew ?_ | refine blk_alloc ?_ _)); exact BK234.out) hb); have n1_ := Aside0.mk (blk_below (g := gb235) (o := .cells #[.int .i64 t232, .int .i64 t233] 26 (0, 0)) (by (with_reducible repeat (first | refine blk_drewN ?_ _ | refine blk_drew ?_ | refine blk_alloc ?_ _)); exact BK235.out) hb); have n2_ := Aside0.mk (blk_below (g := gb239) (o := .cells #[.int .i64 t236, .int .i64 t237] 26 (0, 0)) (by (with_reducible repeat (first | refine blk_drewN ?_ _ | refine blk_drew ?_ | refine blk_alloc ?_ _)); exact BK239.out) hb); have n3_ := Aside0.mk (blk_below (g := gb243) (o := .cells #[.int .i64 t240, .int .i64 t241] 26 (0, 0)) (by (with_reducible repeat (first | refine blk_drewN ?_ _ | refine blk_drew ?_ | refine blk_alloc ?_ _)); exact BK243.out) hb); have n4_ := Aside0.mk (blk_below (g := gb247) (o := .cells #[.int .i64 t244, .int .i64 t245] 26 (0, 0)) (by (with_reducible repeat (first | refine blk_drewN ?_ _ | refine blk_drew ?_ | refine blk_alloc ?_ _)); exact BK247.out) hb); have n5_ := Aside0.mk (blk_below (g := gb252) (o := .cells #[.int .i64 t249, .int .i64 t250] 26 (0, 0)) (by (with_reducible repeat (first | refine blk_drewN ?_ _ | refine blk_drew ?_ | refine blk_alloc ?_ _)); exact BK252.out) hb); have n6_ := Aside0.mk (below_step (by repeat (first | (with_reducible first | exact HB.out | apply below_alloc | apply pw_below_drewN | apply below_drew1 | refine below_set ?_ GE234.out | refine below_set ?_ GE235.out | refine below_set ?_ GE239.out | refine below_set ?_ GE243.out | refine below_set ?_ GE247.out | refine below_set ?_ GE252.out) | exact HB.out)) hb); have n7_ := Aside0.mk (hbox); have n8_ := Aside0.mk ((by rw [hg]; exact (below_size (by repeat (first | (with_reducible first | exact HB.out | apply below_alloc | apply pw_below_drewN | apply below_drew1 | refine below_set ?_ GE234.out | refine below_set ?_ GE235.out | refine below_set ?_ GE239.out | refine below_set ?_ GE243.out | refine below_set ?_ GE247.out | refine below_set ?_ GE252.out) | exact HB.out))) : w.heap.size ≤ gb256)); have n9_ := Aside0.mk ((by rw [hg]; exact (below_size (by repeat (first | (with_reducible first | exact HB.out | apply below_alloc | apply pw_below_drewN | apply below_drew1 | refine below_set ?_ GE234.out | refine below_set ?_ GE235.out | refine below_set ?_ GE239.out | refine below_set ?_ GE243.out | refine below_set ?_ GE247.out | refine below_set ?_ GE252.out) | exact HB.out))) : w.heap.size ≤ gb256)); have n10_ := Aside0.mk ((by rw [hg]; exact Nat.ne_of_lt (blk_lt (g := gb234) (o := .cells #[.int .i64 t230, .int .i64 t231] 26 (0, 0)) (by (with_reducible repeat (first | refine blk_drewN ?_ _ | refine blk_drew ?_ | refine blk_alloc ?_ _)); exact BK234.out)) : gb234 ≠ gb256)); have n11_ := Aside0.mk ((by rw [hg]; exact Nat.ne_of_gt (blk_lt (g := gb234) (o := .cells #[.int .i64 t230, .int .i64 t231] 26 (0, 0)) (by (with_reducible repeat (first | refine blk_drewN ?_ _ | refine blk_drew ?_ | refine blk_alloc ?_ _)); exact BK234.out)) : gb256 ≠ gb234)); have n12_ := Aside0.mk ((by rw [hg]; exact Nat.ne_of_lt (blk_lt (g := gb235) (o := .cells #[.int .i64 t232, .int .i64 t233] 26 (0, 0)) (by (with_reducible repeat (first | refine blk_drewN ?_ _ | refine blk_drew ?_ | refine blk_alloc ?_ _)); exact BK235.out)) : gb235 ≠ gb256)); have n13_ := Aside0.mk ((by rw [hg]; exact Nat.ne_of_gt (blk_lt (g := gb235) (o := .cells #[.int .i64 t232, .int .i64 t233] 26 (0, 0)) (by (with_reducible repeat (first | refine blk_drewN ?_ _ | refine blk_drew ?_ | refine blk_alloc ?_ _)); exact BK235.out)) : gb256 ≠ gb235)); have n14_ := Aside0.mk ((by rw [hg]; exact Nat.ne_of_lt (blk_lt (g := gb239) (o := .cells #[.int .i64 t236, .int .i64 t237] 26 (0, 0)) (by (with_reducible repeat (first | refine blk_drewN ?_ _ | refine blk_drew ?_ | refine blk_alloc ?_ _)); exact BK239.out)) : gb239 ≠ gb256)); have n15_ := Aside0.mk ((by rw [hg]; exact Nat.ne_of_gt (blk_lt (g := gb239) (o := .cells #[.int .i64 t236, .int .i64 t237] 26 (0, 0)) (by (with_reducible repeat (first | refine blk_drewN ?_ _ | refine blk_drew ?_ | refine blk_alloc ?_ _)); exact BK239.out)) : gb256 ≠ gb239)); have n16_ := Aside0.mk ((by rw [hg]; exact Nat.ne_of_lt (blk_lt (g := gb243) (o := .cells #[.int .i64 t240, .int .i64 t241] 26 (0, 0)) (by (with_reducible repeat (first | refine blk_drewN ?_ _ | refine blk_drew ?_ | refine blk_alloc ?_ _)); exact BK243.out)) : gb243 ≠ gb256)); have n17_ := Aside0.mk ((by rw [hg]; exact Nat.ne_of_gt (blk_lt (g := gb243) (o := .cells #[.int .i64 t240, .int .i64 t241] 26 (0, 0)) (by (with_reducible repeat (first | refine blk_drewN ?_ _ | refine blk_drew ?_ | refine blk_alloc ?_ _)); exact BK243.out)) : gb256 ≠ gb243)); have n18_ := Aside0.mk ((by rw [hg]; exact Nat.ne_of_lt (blk_lt (g := gb247) (o := .cells #[.int .i64 t244, .int .i64 t245] 26 (0, 0)) (by (with_reducible repeat (first | refine blk_drewN ?_ _ | refine blk_drew ?_ | refine blk_alloc ?_ _)); exact BK247.out)) : gb247 ≠ gb256)); have n19_ := Aside0.mk ((by rw [hg]; exact Nat.ne_of_gt (blk_lt (g := gb247) (o := .cells #[.int .i64 t244, .int .i64 t245] 26 (0, 0)) (by (with_reducible repeat (first | refine blk_drewN ?_ _ | refine blk_drew ?_ | refine blk_alloc ?_ _)); exact BK247.out)) : gb256 ≠ gb247)); have n20_ := Aside0.mk ((by rw [hg]; exact Nat.ne_of_lt (blk_lt (g := gb252) (o := .cells #[.int .i64 t249, .int .i64 t250] 26 (0, 0)) (by (with_reducible repeat (first | refine blk_drewN ?_ _ | refine blk_drew ?_ | refine blk_alloc ?_ _)); exact BK252.out)) : gb252 ≠ gb256)); have n21_ := Aside0.mk ((by rw [hg]; exact Nat.ne_of_gt (blk_lt (g := gb252) (o := .cells #[.int .i64 t249, .int .i64 t250] 26 (0, 0)) (by (with_reducible repeat (first | refine blk_drewN ?_ _ | refine blk_drew ?_ | refine blk_alloc ?_ _)); exact BK252.out)) : gb256 ≠ gb252)); clear BK234; clear BK235; clear BK239; clear BK243; clear BK247; clear BK252; clear HB; have BK234 := n0_; have BK235 := n1_; have BK239 := n2_; have BK243 := n3_; have BK247 := n4_; have BK252 := n5_; have HB := n6_; have BK256 := n7_; have GW256 := n8_; have GE256 := n9_; have NB234_256 := n10_; have NB256_234 := n11_; have NB235_256 := n12_; have NB256_235 := n13_; have NB239_256 := n14_; have NB256_239 := n15_; have NB243_256 := n16_; have NB256_243 := n17_; have NB247_256 := n18_; have NB256_247 := n19_; have NB252_256 := n20_; have NB256_252 := n21_; clear n0_ n1_ n2_ n3_ n4_ n5_ n6_ n7_ n8_ n9_ n10_ n11_ n12_ n13_ n14_ n15_ n16_ n17_ n18_ n19_ n20_ n21_; clear hb hbox hg; have hnb135 := NB256_234.out; have hnc135 := NB234_256.out; have hnb136 := NB256_235.out; have hnc136 := NB235_256.out; have hnb137 := NB256_239.out; have hnc137 := NB239_256.out; have hnb138 := NB256_243.out; have hnc138 := NB243_256.out; have hnb139 := NB256_247.out; have hnc139 := NB247_256.out; have hnb140 := NB256_252.out; have hnc140 := NB252_256.out; have hcz141_0 : w134.cell? ⟨gb256, 0, none⟩ = some (.int .i64 0) := (blk_cell BK256.out 0).trans rfl; have hcz141_1 : w134.cell? ⟨gb256, 1, none⟩ = some (.int .i64 0) := (blk_cell BK256.out 1).trans rfl; have hfz141_0 := blk_frozen BK256.out 0; have hfz141_1 := blk_frozen BK256.out 1; have hcz142_0 : w134.cell? ⟨gb252, 0, none⟩ = some (.int .i64 t249) := (blk_cell BK252.out 0).trans rfl; have hcz142_1 : w134.cell? ⟨gb252, 1, none⟩ = some (.int .i64 t250) := (blk_cell BK252.out 1).trans rfl; have hfz142_0 := blk_frozen BK252.out 0; have hfz142_1 := blk_frozen BK252.out 1; have hcz143_0 : w134.cell? ⟨gb234, 0, none⟩ = some (.int .i64 t230) := (blk_cell BK234.out 0).trans rfl; have hcz143_1 : w134.cell? ⟨gb234, 1, none⟩ = some (.int .i64 t231) := (blk_cell BK234.out 1).trans rfl; have hfz143_0 := blk_frozen BK234.out 0; have hfz143_1 := blk_frozen BK234.out 1))
                go_ret
                exact ⟨by first | rfl | (simp [errW_none, errW_some] <;> rfl) | (simp [*, errW_none, errW_some] <;> rfl), by repeat (first | (with_reducible first | exact HB.out | apply below_alloc | apply pw_below_drewN | apply below_drew1 | refine below_set ?_ GE234.out | refine below_set ?_ GE235.out | refine below_set ?_ GE239.out | refine below_set ?_ GE243.out | refine below_set ?_ GE247.out | refine below_set ?_ GE252.out | refine below_set ?_ GE256.out) | exact HB.out)⟩
              · replace c118 := Bool.eq_false_iff.mpr c118
                subst c118
                have H1 : (none) = some r := by rw [if_neg (show ¬ (false = true) by decide)] at H; exact H
                clear H
                have H := H1
                clear H1
                exact absurd H (by simp)
            · rw [if_neg c117] at H
              exact absurd H (by simp)
          · replace c116 := Bool.eq_false_iff.mpr c116
            subst c116
            have H1 : (none) = some r := by rw [if_neg (show ¬ (false = true) by decide)] at H; exact H
            clear H
            have H := H1
            clear H1
            exact absurd H (by simp)

/-- THE ONE PURE STATEMENT of laws_FnDecMul: yours. -/
def laws_FnDecMul.Pure : Prop := ∀ (l0 : List Int), l0.length ≤ maxLen → l0.length * 1 ≤ 140737488351232 → (∀ x ∈ l0, (Lit.int .u8 x).wf = true) → ∃ k, laws_FnDecMul.f k l0 = some true
theorem laws_FnDecMul.walk (P : laws_FnDecMul.Pure) (a0 : Option Addr) (len0 cap0 : Nat) (z0 : List Int) (w : World) (w0 : (a0 = none ∧ len0 = 0 ∧ cap0 = 0 ∧ z0 = []) ∨ ∃ x, a0 = some x ∧ len0 ≤ cap0 ∧ cap0 ≤ maxLen ∧ z0.length = cap0 ∧ (∀ i, i < z0.length → w.cell? (x.add i) = some (.int .u8 (z0.getD i 0))) ∧ ∀ n ∈ z0, (Lit.int .u8 n).wf = true) (y0 : len0 * 1 ≤ 140737488351232) :
    Calls Try.prog 4 #[.slice a0 len0 cap0] w fun e w' => e = .returned (.bool true) ∧ Below w.heap.size w w' := by
  obtain ⟨l0, rfl, hr0, hm0, hw0, hc0⟩ := ReadsInt.ofRowC w0
  obtain ⟨k, h⟩ := P l0 hm0 y0 hw0
  refine (laws_FnDecMul.calls k _ _ l0 true w (Kd.C_of_reads (d := (0 : Int)) (h1 := fun _ => rfl) hr0) hc0 h).mono ?_
  rintro e w' ⟨rfl, hd⟩
  exact ⟨rfl, hd⟩

end Go.Proofs.Ytmoaolcioihjnaa.Q
