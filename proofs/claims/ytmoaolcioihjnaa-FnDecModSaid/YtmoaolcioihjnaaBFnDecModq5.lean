-- laid by a program of this session (wip/tools) out of the translation; Lean checks it
import Derived.Test.YtmoaolcioihjnaaBFnDecModq4
namespace Go.Proofs.Ytmoaolcioihjnaa.Q
open Go.RowKit Go.Proofs.YtmoaolcioihjnaaW.PrintWords Go.Proofs.YtmoaolcioihjnaaW.PrintLast Go.Proofs.YtmoaolcioihjnaaW.PrintMore Go.Proofs.YtmoaolcioihjnaaX
attribute [local go_sem] max2_int min2_int max_two min_two max_three min_three max_four min_four   -- for this text's walks alone
set_option linter.unusedVariables false
set_option linter.unusedSimpArgs false

def spec_DecDiv.f (k : Nat) (a0_0 : Int) (a0_1 : Int) (a1_0 : Int) (a1_1 : Int) (a2 : Int) : Option (Int × Int × Bool) := (spec_DecOk.f a0_0 a0_1).bind fun t661 => (if t661 = true then ((spec_DecOk.f a1_0 a1_1).bind fun t662 => (if t662 = true then (if a1_0 = 0 then (some (0, 0, false)) else ((spec_l1In.f a2 0 8).bind fun t663 => (if t663 = true then ((spec_l1Div.f k a0_0 a0_1 a1_0 a1_1 a2).bind fun bt664 => (some (bt664.1, bt664.2.1, bt664.2.2))) else (some (0, 0, false))))) else (some (0, 0, false)))) else (some (0, 0, false)))
theorem spec_DecDiv.mono : ∀ a0 a1 a2 a3 a4 k, LeO (spec_DecDiv.f k a0 a1 a2 a3 a4) (spec_DecDiv.f (k + 1) a0 a1 a2 a3 a4) := by
 intro a0 a1 a2 a3 a4 k
 unfold spec_DecDiv.f
 repeat' first
   | (with_reducible exact spec_l1Div.mono _ _ _ _ _ _)
   | (with_reducible exact LeO.refl _)
   | (with_reducible exact LeO.none _)
   | (with_reducible refine LeO.ite ?_ ?_)
   | (with_reducible refine LeO.bind ?_ (fun _ => ?_))
   | exact spec_l1Div.mono _ _ _ _ _ _
   | exact LeO.none _
   | refine LeO.ite ?_ ?_
   | refine LeO.bind ?_ (fun _ => ?_)
set_option maxHeartbeats 8000000 in
set_option maxRecDepth 100000 in
theorem spec_DecDiv.calls (k : Nat) (a0_0 : Int) (a0_1 : Int) (a1_0 : Int) (a1_1 : Int) (a2 : Int) (r1 : Int) (r2 : Int) (r3 : Bool) (w : World) (h : spec_DecDiv.f k a0_0 a0_1 a1_0 a1_1 a2 = some (r1, r2, r3)) :
  Calls Try.prog 38 #[.agg #[.int .i64 a0_0, .int .i64 a0_1], .agg #[.int .i64 a1_0, .int .i64 a1_1], .int .i64 a2] w fun e w' => e = .returned (.tuple #[.agg #[.int .i64 r1, .int .i64 r2], .bool r3]) ∧ Below w.heap.size w w' := by
 have hu26 := Try.underlying26
 have HB := zA (Below.refl w.heap.size w)
 have H : ((spec_DecOk.f a0_0 a0_1).bind fun t661 => (if t661 = true then ((spec_DecOk.f a1_0 a1_1).bind fun t662 => (if t662 = true then (if a1_0 = 0 then (some (0, 0, false)) else ((spec_l1In.f a2 0 8).bind fun t663 => (if t663 = true then ((spec_l1Div.f k a0_0 a0_1 a1_0 a1_1 a2).bind fun bt664 => (some (bt664.1, bt664.2.1, bt664.2.2))) else (some (0, 0, false))))) else (some (0, 0, false)))) else (some (0, 0, false)))) = some (r1, r2, r3) := h
 clear h
 replace H := Option.bind_eq_some_iff.mp H
 obtain ⟨t661, A40, H⟩ := H
 replace H : (if t661 = true then ((spec_DecOk.f a1_0 a1_1).bind fun t662 => (if t662 = true then (if a1_0 = 0 then (some (0, 0, false)) else ((spec_l1In.f a2 0 8).bind fun t663 => (if t663 = true then ((spec_l1Div.f k a0_0 a0_1 a1_0 a1_1 a2).bind fun bt664 => (some (bt664.1, bt664.2.1, bt664.2.2))) else (some (0, 0, false))))) else (some (0, 0, false)))) else (some (0, 0, false))) = some (r1, r2, r3) := H
 have A4 := zA A40
 clear A40
 by_cases c5 : t661 = true
 ·subst c5
  have H1 : ((spec_DecOk.f a1_0 a1_1).bind fun t662 => (if t662 = true then (if a1_0 = 0 then (some (0, 0, false)) else ((spec_l1In.f a2 0 8).bind fun t663 => (if t663 = true then ((spec_l1Div.f k a0_0 a0_1 a1_0 a1_1 a2).bind fun bt664 => (some (bt664.1, bt664.2.1, bt664.2.2))) else (some (0, 0, false))))) else (some (0, 0, false)))) = some (r1, r2, r3) := by rw [if_pos rfl] at H; exact H
  clear H
  have H := H1
  clear H1
  replace H := Option.bind_eq_some_iff.mp H
  obtain ⟨t662, A60, H⟩ := H
  replace H : (if t662 = true then (if a1_0 = 0 then (some (0, 0, false)) else ((spec_l1In.f a2 0 8).bind fun t663 => (if t663 = true then ((spec_l1Div.f k a0_0 a0_1 a1_0 a1_1 a2).bind fun bt664 => (some (bt664.1, bt664.2.1, bt664.2.2))) else (some (0, 0, false))))) else (some (0, 0, false))) = some (r1, r2, r3) := H
  have A6 := zA A60
  clear A60
  by_cases c7 : t662 = true
  ·subst c7
   have H1 : (if a1_0 = 0 then (some (0, 0, false)) else ((spec_l1In.f a2 0 8).bind fun t663 => (if t663 = true then ((spec_l1Div.f k a0_0 a0_1 a1_0 a1_1 a2).bind fun bt664 => (some (bt664.1, bt664.2.1, bt664.2.2))) else (some (0, 0, false))))) = some (r1, r2, r3) := by rw [if_pos rfl] at H; exact H
   clear H
   have H := H1
   clear H1
   by_cases c8 : a1_0 = 0
   ·rw [if_pos c8] at H
    have c8b0 : (a1_0 == 0) = true := beq_iff_eq.mpr c8
    have c8b1 : (a1_0 != 0) = false := bne_eq_false_iff_eq.mpr c8
    clear c8
    simp only [Option.some.injEq, Prod.mk.injEq] at H
    obtain ⟨rfl, rfl, rfl⟩ := H
    go_enter Try.func38, Try.ntmps38
    go_wp2_with (first | ((with_reducible refine zS (N := 3) rfl ?_); refine zV ?hg (N := 3) ?hd (cs := #[.int .i64 a0_0, .int .i64 a0_1]) (t := 26) ?hr ?_; (case hd => rfl); (case hg => rfl); (case hr => first | (go_simp; done) | (go_simp; rfl)); intro gb658 hg w9 hbox hb; have n0_ := zA (zQ (by repeat (first | (with_reducible first | exact HB.out | apply zG | apply zE | apply zF) | exact HB.out)) hb); have n1_ := zA (hbox); have n2_ := zA ((by rw [hg]; exact (zR (by repeat (first | (with_reducible first | exact HB.out | apply zG | apply zE | apply zF) | exact HB.out))) : w.heap.size ≤ gb658)); have n3_ := zA ((by rw [hg]; exact (zR (by repeat (first | (with_reducible first | exact HB.out | apply zG | apply zE | apply zF) | exact HB.out))) : w.heap.size ≤ gb658)); clear HB; have HB := n0_; have BK658 := n1_; have GW658 := n2_; have GE658 := n3_; clear n0_ n1_ n2_ n3_; clear hb hbox hg) | ((with_reducible refine zS (N := 4) rfl ?_); refine zV ?hg (N := 4) ?hd (cs := #[.int .i64 a1_0, .int .i64 a1_1]) (t := 26) ?hr ?_; (case hd => rfl); (case hg => rfl); (case hr => first | (go_simp; done) | (go_simp; rfl)); intro gb659 hg w10 hbox hb; have n0_ := zA (zP (g := gb658) (o := .cells #[.int .i64 a0_0, .int .i64 a0_1] 26 (0, 0)) (by (with_reducible repeat (first | refine zB ?_ _ | refine zD ?_ | refine zC ?_ _)); exact BK658.out) hb); have n1_ := zA (zQ (by repeat (first | (with_reducible first | exact HB.out | apply zG | apply zE | apply zF | refine zH ?_ GE658.out) | exact HB.out)) hb); have n2_ := zA (hbox); have n3_ := zA ((by rw [hg]; exact (zR (by repeat (first | (with_reducible first | exact HB.out | apply zG | apply zE | apply zF | refine zH ?_ GE658.out) | exact HB.out))) : w.heap.size ≤ gb659)); have n4_ := zA ((by rw [hg]; exact (zR (by repeat (first | (with_reducible first | exact HB.out | apply zG | apply zE | apply zF | refine zH ?_ GE658.out) | exact HB.out))) : w.heap.size ≤ gb659)); have n5_ := zA ((by rw [hg]; exact Nat.ne_of_lt (blk_lt (g := gb658) (o := .cells #[.int .i64 a0_0, .int .i64 a0_1] 26 (0, 0)) (by (with_reducible repeat (first | refine zB ?_ _ | refine zD ?_ | refine zC ?_ _)); exact BK658.out)) : gb658 ≠ gb659)); have n6_ := zA ((by rw [hg]; exact Nat.ne_of_gt (blk_lt (g := gb658) (o := .cells #[.int .i64 a0_0, .int .i64 a0_1] 26 (0, 0)) (by (with_reducible repeat (first | refine zB ?_ _ | refine zD ?_ | refine zC ?_ _)); exact BK658.out)) : gb659 ≠ gb658)); clear BK658; clear HB; have BK658 := n0_; have HB := n1_; have BK659 := n2_; have GW659 := n3_; have GE659 := n4_; have NB658_659 := n5_; have NB659_658 := n6_; clear n0_ n1_ n2_ n3_ n4_ n5_ n6_; clear hb hbox hg) | ((with_reducible refine zS (N := 6) rfl ?_); refine zV ?hg (N := 6) ?hd (cs := #[.int .i64 0, .int .i64 0]) (t := 26) ?hr ?_; (case hd => rfl); (case hg => rfl); (case hr => first | (go_simp; done) | (go_simp; rfl)); intro gb660 hg w11 hbox hb; have n0_ := zA (zP (g := gb658) (o := .cells #[.int .i64 a0_0, .int .i64 a0_1] 26 (0, 0)) (by (with_reducible repeat (first | refine zB ?_ _ | refine zD ?_ | refine zC ?_ _)); exact BK658.out) hb); have n1_ := zA (zP (g := gb659) (o := .cells #[.int .i64 a1_0, .int .i64 a1_1] 26 (0, 0)) (by (with_reducible repeat (first | refine zB ?_ _ | refine zD ?_ | refine zC ?_ _)); exact BK659.out) hb); have n2_ := zA (zQ (by repeat (first | (with_reducible first | exact HB.out | apply zG | apply zE | apply zF | refine zH ?_ GE658.out | refine zH ?_ GE659.out) | exact HB.out)) hb); have n3_ := zA (hbox); have n4_ := zA ((by rw [hg]; exact (zR (by repeat (first | (with_reducible first | exact HB.out | apply zG | apply zE | apply zF | refine zH ?_ GE658.out | refine zH ?_ GE659.out) | exact HB.out))) : w.heap.size ≤ gb660)); have n5_ := zA ((by rw [hg]; exact (zR (by repeat (first | (with_reducible first | exact HB.out | apply zG | apply zE | apply zF | refine zH ?_ GE658.out | refine zH ?_ GE659.out) | exact HB.out))) : w.heap.size ≤ gb660)); have n6_ := zA ((by rw [hg]; exact Nat.ne_of_lt (blk_lt (g := gb658) (o := .cells #[.int .i64 a0_0, .int .i64 a0_1] 26 (0, 0)) (by (with_reducible repeat (first | refine zB ?_ _ | refine zD ?_ | refine zC ?_ _)); exact BK658.out)) : gb658 ≠ gb660)); have n7_ := zA ((by rw [hg]; exact Nat.ne_of_gt (blk_lt (g := gb658) (o := .cells #[.int .i64 a0_0, .int .i64 a0_1] 26 (0, 0)) (by (with_reducible repeat (first | refine zB ?_ _ | refine zD ?_ | refine zC ?_ _)); exact BK658.out)) : gb660 ≠ gb658)); have n8_ := zA ((by rw [hg]; exact Nat.ne_of_lt (blk_lt (g := gb659) (o := .cells #[.int .i64 a1_0, .int .i64 a1_1] 26 (0, 0)) (by (with_reducible repeat (first | refine zB ?_ _ | refine zD ?_ | refine zC ?_ _)); exact BK659.out)) : gb659 ≠ gb660)); have n9_ := zA ((by rw [hg]; exact Nat.ne_of_gt (blk_lt (g := gb659) (o := .cells #[.int .i64 a1_0, .int .i64 a1_1] 26 (0, 0)) (by (with_reducible repeat (first | refine zB ?_ _ | refine zD ?_ | refine zC ?_ _)); exact BK659.out)) : gb660 ≠ gb659)); clear BK658; clear BK659; clear HB; have BK658 := n0_; have BK659 := n1_; have HB := n2_; have BK660 := n3_; have GW660 := n4_; have GE660 := n5_; have NB658_660 := n6_; have NB660_658 := n7_; have NB659_660 := n8_; have NB660_659 := n9_; clear n0_ n1_ n2_ n3_ n4_ n5_ n6_ n7_ n8_ n9_; clear hb hbox hg; have hnb12 := NB658_659.out; have hnc12 := NB659_658.out; have hnb13 := NB658_660.out; have hnc13 := NB660_658.out; have hcz14_0 : w11.cell? ⟨gb658, 0, none⟩ = some (.int .i64 a0_0) := (zJ BK658.out 0).trans rfl; have hcz14_1 : w11.cell? ⟨gb658, 1, none⟩ = some (.int .i64 a0_1) := (zJ BK658.out 1).trans rfl; have hfz14_0 := zK BK658.out 0; have hfz14_1 := zK BK658.out 1) | ((with_reducible refine zT (f := 20) rfl ?_); refine goesL_ (some 9) rfl rfl Try.func20 (by kernel_rfl) rfl #[.agg #[.int .i64 a0_0, .int .i64 a0_1]] rfl (by (try simp only [zW, yA, yB]); first | done | rfl | (simp only [zX, zZ]; rfl)) ?_; (with_reducible refine (spec_DecOk.calls a0_0 a0_1 true _ A4.out).mono ?_); rintro e w15 ⟨rfl, hb⟩; refine ⟨_, rfl, ?_⟩; have n0_ := zA (zP (g := gb658) (o := .cells #[.int .i64 a0_0, .int .i64 a0_1] 26 (0, 0)) (by (with_reducible repeat (first | refine zB ?_ _ | refine zD ?_ | refine zC ?_ _)); exact BK658.out) hb); have n1_ := zA (zP (g := gb659) (o := .cells #[.int .i64 a1_0, .int .i64 a1_1] 26 (0, 0)) (by (with_reducible repeat (first | refine zB ?_ _ | refine zD ?_ | refine zC ?_ _)); exact BK659.out) hb); have n2_ := zA (zP (g := gb660) (o := .cells #[.int .i64 0, .int .i64 0] 26 (0, 0)) (by (with_reducible repeat (first | refine zB ?_ _ | refine zD ?_ | refine zC ?_ _)); exact BK660.out) hb); have n3_ := zA (zQ (by repeat (first | (with_reducible first | exact HB.out | apply zG | apply zE | apply zF | refine zH ?_ GE658.out | refine zH ?_ GE659.out | refine zH ?_ GE660.out) | exact HB.out)) hb); clear BK658; clear BK659; clear BK660; clear HB; have BK658 := n0_; have BK659 := n1_; have BK660 := n2_; have HB := n3_; clear n0_ n1_ n2_ n3_; (try clear hb); (try clear hb2); (try clear hk); (try clear hi); have hnb16 := NB659_660.out; have hnc16 := NB660_659.out; have hcz17_0 : w15.cell? ⟨gb659, 0, none⟩ = some (.int .i64 a1_0) := (zJ BK659.out 0).trans rfl; have hcz17_1 : w15.cell? ⟨gb659, 1, none⟩ = some (.int .i64 a1_1) := (zJ BK659.out 1).trans rfl; have hfz17_0 := zK BK659.out 0; have hfz17_1 := zK BK659.out 1) | (go_at_call 20; (with_reducible refine (spec_DecOk.calls a1_0 a1_1 true _ A6.out).mono ?_); rintro e w18 ⟨rfl, hb⟩; have n0_ := zA (zP (g := gb658) (o := .cells #[.int .i64 a0_0, .int .i64 a0_1] 26 (0, 0)) (by (with_reducible repeat (first | refine zB ?_ _ | refine zD ?_ | refine zC ?_ _)); exact BK658.out) hb); have n1_ := zA (zP (g := gb659) (o := .cells #[.int .i64 a1_0, .int .i64 a1_1] 26 (0, 0)) (by (with_reducible repeat (first | refine zB ?_ _ | refine zD ?_ | refine zC ?_ _)); exact BK659.out) hb); have n2_ := zA (zP (g := gb660) (o := .cells #[.int .i64 0, .int .i64 0] 26 (0, 0)) (by (with_reducible repeat (first | refine zB ?_ _ | refine zD ?_ | refine zC ?_ _)); exact BK660.out) hb); have n3_ := zA (zQ (by repeat (first | (with_reducible first | exact HB.out | apply zG | apply zE | apply zF | refine zH ?_ GE658.out | refine zH ?_ GE659.out | refine zH ?_ GE660.out) | exact HB.out)) hb); clear BK658; clear BK659; clear BK660; clear HB; have BK658 := n0_; have BK659 := n1_; have BK660 := n2_; have HB := n3_; clear n0_ n1_ n2_ n3_; (try clear hb); (try clear hb2); (try clear hk); (try clear hi); have hcz19_0 : w18.cell? ⟨gb659, 0, none⟩ = some (.int .i64 a1_0) := (zJ BK659.out 0).trans rfl; have hcz19_1 : w18.cell? ⟨gb659, 1, none⟩ = some (.int .i64 a1_1) := (zJ BK659.out 1).trans rfl; have hfz19_0 := zK BK659.out 0; have hfz19_1 := zK BK659.out 1; have hcz20_0 : w18.cell? ⟨gb660, 0, none⟩ = some (.int .i64 0) := (zJ BK660.out 0).trans rfl; have hcz20_1 : w18.cell? ⟨gb660, 1, none⟩ = some (.int .i64 0) := (zJ BK660.out 1).trans rfl; have hfz20_0 := zK BK660.out 0; have hfz20_1 := zK BK660.out 1))
    refine bodyPost_ret (results_ct rfl _ _ gb660 26 #[.int .i64 0, .int .i64 0] (0, 0) _ rfl (by (with_reducible repeat (first | refine zB ?_ _ | refine zD ?_ | refine zC ?_ _)); refine blk_put (cs := #[.int .i64 0, .int .i64 0]) ?_ 1 _ rfl; (with_reducible repeat (first | refine zB ?_ _ | refine zD ?_ | refine zC ?_ _)); refine blk_put (cs := #[.int .i64 0, .int .i64 0]) ?_ 0 _ rfl; (with_reducible repeat (first | refine zB ?_ _ | refine zD ?_ | refine zC ?_ _)); exact BK660.out) Try.underlying26 rfl (by kernel_rfl)) rfl ?_
    exact ⟨by first | rfl | (simp [errW_none, errW_some] <;> rfl) | (simp [*, errW_none, errW_some] <;> rfl), by repeat (first | (with_reducible first | exact HB.out | apply zG | apply zE | apply zF | refine zH ?_ GE658.out | refine zH ?_ GE659.out | refine zH ?_ GE660.out) | exact HB.out)⟩
   ·rw [if_neg c8] at H
    have c8b0 : (a1_0 == 0) = false := beq_eq_false_iff_ne.mpr c8
    have c8b1 : (a1_0 != 0) = true := bne_iff_ne.mpr c8
    replace H := Option.bind_eq_some_iff.mp H
    obtain ⟨t663, A210, H⟩ := H
    replace H : (if t663 = true then ((spec_l1Div.f k a0_0 a0_1 a1_0 a1_1 a2).bind fun bt664 => (some (bt664.1, bt664.2.1, bt664.2.2))) else (some (0, 0, false))) = some (r1, r2, r3) := H
    have A21 := zA A210
    clear A210
    by_cases c22 : t663 = true
    ·subst c22
     have H1 : ((spec_l1Div.f k a0_0 a0_1 a1_0 a1_1 a2).bind fun bt664 => (some (bt664.1, bt664.2.1, bt664.2.2))) = some (r1, r2, r3) := by rw [if_pos rfl] at H; exact H
     clear H
     have H := H1
     clear H1
     replace H := Option.bind_eq_some_iff.mp H
     obtain ⟨⟨t664, t665, t666⟩, A230, H⟩ := H
     replace H : (some (t664, t665, t666)) = some (r1, r2, r3) := H
     have A23 := zA A230
     clear A230
     simp only [Option.some.injEq, Prod.mk.injEq] at H
     obtain ⟨rfl, rfl, rfl⟩ := H
     go_enter Try.func38, Try.ntmps38
     go_wp2_with (first | ((with_reducible refine zS (N := 3) rfl ?_); refine zV ?hg (N := 3) ?hd (cs := #[.int .i64 a0_0, .int .i64 a0_1]) (t := 26) ?hr ?_; (case hd => rfl); (case hg => rfl); (case hr => first | (go_simp; done) | (go_simp; rfl)); intro gb658 hg w24 hbox hb; have n0_ := zA (zQ (by repeat (first | (with_reducible first | exact HB.out | apply zG | apply zE | apply zF) | exact HB.out)) hb); have n1_ := zA (hbox); have n2_ := zA ((by rw [hg]; exact (zR (by repeat (first | (with_reducible first | exact HB.out | apply zG | apply zE | apply zF) | exact HB.out))) : w.heap.size ≤ gb658)); have n3_ := zA ((by rw [hg]; exact (zR (by repeat (first | (with_reducible first | exact HB.out | apply zG | apply zE | apply zF) | exact HB.out))) : w.heap.size ≤ gb658)); clear HB; have HB := n0_; have BK658 := n1_; have GW658 := n2_; have GE658 := n3_; clear n0_ n1_ n2_ n3_; clear hb hbox hg) | ((with_reducible refine zS (N := 4) rfl ?_); refine zV ?hg (N := 4) ?hd (cs := #[.int .i64 a1_0, .int .i64 a1_1]) (t := 26) ?hr ?_; (case hd => rfl); (case hg => rfl); (case hr => first | (go_simp; done) | (go_simp; rfl)); intro gb659 hg w25 hbox hb; have n0_ := zA (zP (g := gb658) (o := .cells #[.int .i64 a0_0, .int .i64 a0_1] 26 (0, 0)) (by (with_reducible repeat (first | refine zB ?_ _ | refine zD ?_ | refine zC ?_ _)); exact BK658.out) hb); have n1_ := zA (zQ (by repeat (first | (with_reducible first | exact HB.out | apply zG | apply zE | apply zF | refine zH ?_ GE658.out) | exact HB.out)) hb); have n2_ := zA (hbox); have n3_ := zA ((by rw [hg]; exact (zR (by repeat (first | (with_reducible first | exact HB.out | apply zG | apply zE | apply zF | refine zH ?_ GE658.out) | exact HB.out))) : w.heap.size ≤ gb659)); have n4_ := zA ((by rw [hg]; exact (zR (by repeat (first | (with_reducible first | exact HB.out | apply zG | apply zE | apply zF | refine zH ?_ GE658.out) | exact HB.out))) : w.heap.size ≤ gb659)); have n5_ := zA ((by rw [hg]; exact Nat.ne_of_lt (blk_lt (g := gb658) (o := .cells #[.int .i64 a0_0, .int .i64 a0_1] 26 (0, 0)) (by (with_reducible repeat (first | refine zB ?_ _ | refine zD ?_ | refine zC ?_ _)); exact BK658.out)) : gb658 ≠ gb659)); have n6_ := zA ((by rw [hg]; exact Nat.ne_of_gt (blk_lt (g := gb658) (o := .cells #[.int .i64 a0_0, .int .i64 a0_1] 26 (0, 0)) (by (with_reducible repeat (first | refine zB ?_ _ | refine zD ?_ | refine zC ?_ _)); exact BK658.out)) : gb659 ≠ gb658)); clear BK658; clear HB; have BK658 := n0_; have HB := n1_; have BK659 := n2_; have GW659 := n3_; have GE659 := n4_; have NB658_659 := n5_; have NB659_658 := n6_; clear n0_ n1_ n2_ n3_ n4_ n5_ n6_; clear hb hbox hg) | ((with_reducible refine zS (N := 6) rfl ?_); refine zV ?hg (N := 6) ?hd (cs := #[.int .i64 0, .int .i64 0]) (t := 26) ?hr ?_; (case hd => rfl); (case hg => rfl); (case hr => first | (go_simp; done) | (go_simp; rfl)); intro gb660 hg w26 hbox hb; have n0_ := zA (zP (g := gb658) (o := .cells #[.int .i64 a0_0, .int .i64 a0_1] 26 (0, 0)) (by (with_reducible repeat (first | refine zB ?_ _ | refine zD ?_ | refine zC ?_ _)); exact BK658.out) hb); have n1_ := zA (zP (g := gb659) (o := .cells #[.int .i64 a1_0, .int .i64 a1_1] 26 (0, 0)) (by (with_reducible repeat (first | refine zB ?_ _ | refine zD ?_ | refine zC ?_ _)); exact BK659.out) hb); have n2_ := zA (zQ (by repeat (first | (with_reducible first | exact HB.out | apply zG | apply zE | apply zF | refine zH ?_ GE658.out | refine zH ?_ GE659.out) | exact HB.out)) hb); have n3_ := zA (hbox); have n4_ := zA ((by rw [hg]; exact (zR (by repeat (first | (with_reducible first | exact HB.out | apply zG | apply zE | apply zF | refine zH ?_ GE658.out | refine zH ?_ GE659.out) | exact HB.out))) : w.heap.size ≤ gb660)); have n5_ := zA ((by rw [hg]; exact (zR (by repeat (first | (with_reducible first | exact HB.out | apply zG | apply zE | apply zF | refine zH ?_ GE658.out | refine zH ?_ GE659.out) | exact HB.out))) : w.heap.size ≤ gb660)); have n6_ := zA ((by rw [hg]; exact Nat.ne_of_lt (blk_lt (g := gb658) (o := .cells #[.int .i64 a0_0, .int .i64 a0_1] 26 (0, 0)) (by (with_reducible repeat (first | refine zB ?_ _ | refine zD ?_ | refine zC ?_ _)); exact BK658.out)) : gb658 ≠ gb660)); have n7_ := zA ((by rw [hg]; exact Nat.ne_of_gt (blk_lt (g := gb658) (o := .cells #[.int .i64 a0_0, .int .i64 a0_1] 26 (0, 0)) (by (with_reducible repeat (first | refine zB ?_ _ | refine zD ?_ | refine zC ?_ _)); exact BK658.out)) : gb660 ≠ gb658)); have n8_ := zA ((by rw [hg]; exact Nat.ne_of_lt (blk_lt (g := gb659) (o := .cells #[.int .i64 a1_0, .int .i64 a1_1] 26 (0, 0)) (by (with_reducible repeat (first | refine zB ?_ _ | refine zD ?_ | refine zC ?_ _)); exact BK659.out)) : gb659 ≠ gb660)); have n9_ := zA ((by rw [hg]; exact Nat.ne_of_gt (blk_lt (g := gb659) (o := .cells #[.int .i64 a1_0, .int .i64 a1_1] 26 (0, 0)) (by (with_reducible repeat (first | refine zB ?_ _ | refine zD ?_ | refine zC ?_ _)); exact BK659.out)) : gb660 ≠ gb659)); clear BK658; clear BK659; clear HB; have BK658 := n0_; have BK659 := n1_; have HB := n2_; have BK660 := n3_; have GW660 := n4_; have GE660 := n5_; have NB658_660 := n6_; have NB660_658 := n7_; have NB659_660 := n8_; have NB660_659 := n9_; clear n0_ n1_ n2_ n3_ n4_ n5_ n6_ n7_ n8_ n9_; clear hb hbox hg; have hnb27 := NB658_659.out; have hnc27 := NB659_658.out; have hnb28 := NB658_660.out; have hnc28 := NB660_658.out; have hcz29_0 : w26.cell? ⟨gb658, 0, none⟩ = some (.int .i64 a0_0) := (zJ BK658.out 0).trans rfl; have hcz29_1 : w26.cell? ⟨gb658, 1, none⟩ = some (.int .i64 a0_1) := (zJ BK658.out 1).trans rfl; have hfz29_0 := zK BK658.out 0; have hfz29_1 := zK BK658.out 1) | ((with_reducible refine zT (f := 20) rfl ?_); refine goesL_ (some 9) rfl rfl Try.func20 (by kernel_rfl) rfl #[.agg #[.int .i64 a0_0, .int .i64 a0_1]] rfl (by (try simp only [zW, yA, yB]); first | done | rfl | (simp only [zX, zZ]; rfl)) ?_; (with_reducible refine (spec_DecOk.calls a0_0 a0_1 true _ A4.out).mono ?_); rintro e w30 ⟨rfl, hb⟩; refine ⟨_, rfl, ?_⟩; have n0_ := zA (zP (g := gb658) (o := .cells #[.int .i64 a0_0, .int .i64 a0_1] 26 (0, 0)) (by (with_reducible repeat (first | refine zB ?_ _ | refine zD ?_ | refine zC ?_ _)); exact BK658.out) hb); have n1_ := zA (zP (g := gb659) (o := .cells #[.int .i64 a1_0, .int .i64 a1_1] 26 (0, 0)) (by (with_reducible repeat (first | refine zB ?_ _ | refine zD ?_ | refine zC ?_ _)); exact BK659.out) hb); have n2_ := zA (zP (g := gb660) (o := .cells #[.int .i64 0, .int .i64 0] 26 (0, 0)) (by (with_reducible repeat (first | refine zB ?_ _ | refine zD ?_ | refine zC ?_ _)); exact BK660.out) hb); have n3_ := zA (zQ (by repeat (first | (with_reducible first | exact HB.out | apply zG | apply zE | apply zF | refine zH ?_ GE658.out | refine zH ?_ GE659.out | refine zH ?_ GE660.out) | exact HB.out)) hb); clear BK658; clear BK659; clear BK660; clear HB; have BK658 := n0_; have BK659 := n1_; have BK660 := n2_; have HB := n3_; clear n0_ n1_ n2_ n3_; (try clear hb); (try clear hb2); (try clear hk); (try clear hi); have hnb31 := NB659_660.out; have hnc31 := NB660_659.out; have hcz32_0 : w30.cell? ⟨gb659, 0, none⟩ = some (.int .i64 a1_0) := (zJ BK659.out 0).trans rfl; have hcz32_1 : w30.cell? ⟨gb659, 1, none⟩ = some (.int .i64 a1_1) := (zJ BK659.out 1).trans rfl; have hfz32_0 := zK BK659.out 0; have hfz32_1 := zK BK659.out 1) | (go_at_call 20; (with_reducible refine (spec_DecOk.calls a1_0 a1_1 true _ A6.out).mono ?_); rintro e w33 ⟨rfl, hb⟩; have n0_ := zA (zP (g := gb658) (o := .cells #[.int .i64 a0_0, .int .i64 a0_1] 26 (0, 0)) (by (with_reducible repeat (first | refine zB ?_ _ | refine zD ?_ | refine zC ?_ _)); exact BK658.out) hb); have n1_ := zA (zP (g := gb659) (o := .cells #[.int .i64 a1_0, .int .i64 a1_1] 26 (0, 0)) (by (with_reducible repeat (first | refine zB ?_ _ | refine zD ?_ | refine zC ?_ _)); exact BK659.out) hb); have n2_ := zA (zP (g := gb660) (o := .cells #[.int .i64 0, .int .i64 0] 26 (0, 0)) (by (with_reducible repeat (first | refine zB ?_ _ | refine zD ?_ | refine zC ?_ _)); exact BK660.out) hb); have n3_ := zA (zQ (by repeat (first | (with_reducible first | exact HB.out | apply zG | apply zE | apply zF | refine zH ?_ GE658.out | refine zH ?_ GE659.out | refine zH ?_ GE660.out) | exact HB.out)) hb); clear BK658; clear BK659; clear BK660; clear HB; have BK658 := n0_; have BK659 := n1_; have BK660 := n2_; have HB := n3_; clear n0_ n1_ n2_ n3_; (try clear hb); (try clear hb2); (try clear hk); (try clear hi); have hcz34_0 : w33.cell? ⟨gb659, 0, none⟩ = some (.int .i64 a1_0) := (zJ BK659.out 0).trans rfl; have hcz34_1 : w33.cell? ⟨gb659, 1, none⟩ = some (.int .i64 a1_1) := (zJ BK659.out 1).trans rfl; have hfz34_0 := zK BK659.out 0; have hfz34_1 := zK BK659.out 1) | (go_at_call 48; (with_reducible refine (spec_l1In.calls a2 0 8 true _ A21.out).mono ?_); rintro e w' ⟨rfl, ⟨nd, rfl⟩⟩; (try ((repeat rw [World.drewN_drewN]); rw [drewN_self w33]; generalize hq_ : World.drewN w33 _ = w33; have n0_ : Aside0 (w33.heap[gb658]? = some (.cells #[.int .i64 a0_0, .int .i64 a0_1] 26 (0, 0))) := ⟨by rw [← hq_]; exact (by (with_reducible repeat (first | refine zB ?_ _ | refine zD ?_ | refine zC ?_ _)); exact BK658.out)⟩; have n1_ : Aside0 (w33.heap[gb659]? = some (.cells #[.int .i64 a1_0, .int .i64 a1_1] 26 (0, 0))) := ⟨by rw [← hq_]; exact (by (with_reducible repeat (first | refine zB ?_ _ | refine zD ?_ | refine zC ?_ _)); exact BK659.out)⟩; have n2_ : Aside0 (w33.heap[gb660]? = some (.cells #[.int .i64 0, .int .i64 0] 26 (0, 0))) := ⟨by rw [← hq_]; exact (by (with_reducible repeat (first | refine zB ?_ _ | refine zD ?_ | refine zC ?_ _)); exact BK660.out)⟩; have n3_ : Aside0 (Below w.heap.size w w33) := ⟨by rw [← hq_]; exact (by repeat (first | (with_reducible first | exact HB.out | apply zG | apply zE | apply zF | refine zH ?_ GE658.out | refine zH ?_ GE659.out | refine zH ?_ GE660.out) | exact HB.out))⟩; clear BK658 BK659 BK660 HB hq_; have BK658 := n0_; have BK659 := n1_; have BK660 := n2_; have HB := n3_; clear n0_ n1_ n2_ n3_)); (try (have hcu35_0 : w33.cell? ⟨gb658, 0, none⟩ = some (.int .i64 a0_0) := (zJ BK658.out 0).trans rfl; have hfu35_0 := zK BK658.out 0)); (try (have hcu35_1 : w33.cell? ⟨gb658, 1, none⟩ = some (.int .i64 a0_1) := (zJ BK658.out 1).trans rfl; have hfu35_1 := zK BK658.out 1)); (try (have hcu36_0 : w33.cell? ⟨gb659, 0, none⟩ = some (.int .i64 a1_0) := (zJ BK659.out 0).trans rfl; have hfu36_0 := zK BK659.out 0)); (try (have hcu36_1 : w33.cell? ⟨gb659, 1, none⟩ = some (.int .i64 a1_1) := (zJ BK659.out 1).trans rfl; have hfu36_1 := zK BK659.out 1)); (try (have hcu37_0 : w33.cell? ⟨gb660, 0, none⟩ = some (.int .i64 0) := (zJ BK660.out 0).trans rfl; have hfu37_0 := zK BK660.out 0)); (try (have hcu37_1 : w33.cell? ⟨gb660, 1, none⟩ = some (.int .i64 0) := (zJ BK660.out 1).trans rfl; have hfu37_1 := zK BK660.out 1)); have hcz38_0 : w33.cell? ⟨gb658, 0, none⟩ = some (.int .i64 a0_0) := (zJ BK658.out 0).trans rfl; have hcz38_1 : w33.cell? ⟨gb658, 1, none⟩ = some (.int .i64 a0_1) := (zJ BK658.out 1).trans rfl; have hfz38_0 := zK BK658.out 0; have hfz38_1 := zK BK658.out 1) | ((with_reducible refine zT (f := 64) rfl ?_); refine goesL_ (some 30) rfl rfl Try.func64 (by kernel_rfl) rfl #[.agg #[.int .i64 a0_0, .int .i64 a0_1], .agg #[.int .i64 a1_0, .int .i64 a1_1], .int .i64 a2] rfl (by (try simp only [zW, yA, yB]); first | done | rfl | (simp only [zX, zZ]; rfl)) ?_; (with_reducible refine (spec_l1Div.calls k a0_0 a0_1 a1_0 a1_1 a2 t664 t665 t666 _ A23.out).mono ?_); rintro e w39 ⟨rfl, hb⟩; refine ⟨_, rfl, ?_⟩; have n0_ := zA (zP (g := gb658) (o := .cells #[.int .i64 a0_0, .int .i64 a0_1] 26 (0, 0)) (by (with_reducible repeat (first | refine zB ?_ _ | refine zD ?_ | refine zC ?_ _)); exact BK658.out) hb); have n1_ := zA (zP (g := gb659) (o := .cells #[.int .i64 a1_0, .int .i64 a1_1] 26 (0, 0)) (by (with_reducible repeat (first | refine zB ?_ _ | refine zD ?_ | refine zC ?_ _)); exact BK659.out) hb); have n2_ := zA (zP (g := gb660) (o := .cells #[.int .i64 0, .int .i64 0] 26 (0, 0)) (by (with_reducible repeat (first | refine zB ?_ _ | refine zD ?_ | refine zC ?_ _)); exact BK660.out) hb); have n3_ := zA (zQ (by repeat (first | (with_reducible first | exact HB.out | apply zG | apply zE | apply zF | refine zH ?_ GE658.out | refine zH ?_ GE659.out | refine zH ?_ GE660.out) | exact HB.out)) hb); clear BK658; clear BK659; clear BK660; clear HB; have BK658 := n0_; have BK659 := n1_; have BK660 := n2_; have HB := n3_; clear n0_ n1_ n2_ n3_; (try clear hb); (try clear hb2); (try clear hk); (try clear hi); have hcz40_0 : w39.cell? ⟨gb660, 0, none⟩ = some (.int .i64 0) := (zJ BK660.out 0).trans rfl; have hcz40_1 : w39.cell? ⟨gb660, 1, none⟩ = some (.int .i64 0) := (zJ BK660.out 1).trans rfl; have hfz40_0 := zK BK660.out 0; have hfz40_1 := zK BK660.out 1))
     refine bodyPost_ret (results_ct rfl _ _ gb660 26 #[.int .i64 t664, .int .i64 t665] (0, 0) _ rfl (by (with_reducible repeat (first | refine zB ?_ _ | refine zD ?_ | refine zC ?_ _)); refine blk_put (cs := #[.int .i64 t664, .int .i64 0]) ?_ 1 _ rfl; (with_reducible repeat (first | refine zB ?_ _ | refine zD ?_ | refine zC ?_ _)); refine blk_put (cs := #[.int .i64 0, .int .i64 0]) ?_ 0 _ rfl; (with_reducible repeat (first | refine zB ?_ _ | refine zD ?_ | refine zC ?_ _)); exact BK660.out) Try.underlying26 rfl (by kernel_rfl)) rfl ?_
     exact ⟨by first | rfl | (simp [errW_none, errW_some] <;> rfl) | (simp [*, errW_none, errW_some] <;> rfl), by repeat (first | (with_reducible first | exact HB.out | apply zG | apply zE | apply zF | refine zH ?_ GE658.out | refine zH ?_ GE659.out | refine zH ?_ GE660.out) | exact HB.out)⟩
    ·replace c22 := Bool.eq_false_iff.mpr c22
     subst c22
     have H1 : (some (0, 0, false)) = some (r1, r2, r3) := by rw [if_neg (show ¬ (false = true) by decide)] at H; exact H
     clear H
     have H := H1
     clear H1
     simp only [Option.some.injEq, Prod.mk.injEq] at H
     obtain ⟨rfl, rfl, rfl⟩ := H
     go_enter Try.func38, Try.ntmps38
     go_wp2_with (first | ((with_reducible refine zS (N := 3) rfl ?_); refine zV ?hg (N := 3) ?hd (cs := #[.int .i64 a0_0, .int .i64 a0_1]) (t := 26) ?hr ?_; (case hd => rfl); (case hg => rfl); (case hr => first | (go_simp; done) | (go_simp; rfl)); intro gb658 hg w41 hbox hb; have n0_ := zA (zQ (by repeat (first | (with_reducible first | exact HB.out | apply zG | apply zE | apply zF) | exact HB.out)) hb); have n1_ := zA (hbox); have n2_ := zA ((by rw [hg]; exact (zR (by repeat (first | (with_reducible first | exact HB.out | apply zG | apply zE | apply zF) | exact HB.out))) : w.heap.size ≤ gb658)); have n3_ := zA ((by rw [hg]; exact (zR (by repeat (first | (with_reducible first | exact HB.out | apply zG | apply zE | apply zF) | exact HB.out))) : w.heap.size ≤ gb658)); clear HB; have HB := n0_; have BK658 := n1_; have GW658 := n2_; have GE658 := n3_; clear n0_ n1_ n2_ n3_; clear hb hbox hg) | ((with_reducible refine zS (N := 4) rfl ?_); refine zV ?hg (N := 4) ?hd (cs := #[.int .i64 a1_0, .int .i64 a1_1]) (t := 26) ?hr ?_; (case hd => rfl); (case hg => rfl); (case hr => first | (go_simp; done) | (go_simp; rfl)); intro gb659 hg w42 hbox hb; have n0_ := zA (zP (g := gb658) (o := .cells #[.int .i64 a0_0, .int .i64 a0_1] 26 (0, 0)) (by (with_reducible repeat (first | refine zB ?_ _ | refine zD ?_ | refine zC ?_ _)); exact BK658.out) hb); have n1_ := zA (zQ (by repeat (first | (with_reducible first | exact HB.out | apply zG | apply zE | apply zF | refine zH ?_ GE658.out) | exact HB.out)) hb); have n2_ := zA (hbox); have n3_ := zA ((by rw [hg]; exact (zR (by repeat (first | (with_reducible first | exact HB.out | apply zG | apply zE | apply zF | refine zH ?_ GE658.out) | exact HB.out))) : w.heap.size ≤ gb659)); have n4_ := zA ((by rw [hg]; exact (zR (by repeat (first | (with_reducible first | exact HB.out | apply zG | apply zE | apply zF | refine zH ?_ GE658.out) | exact HB.out))) : w.heap.size ≤ gb659)); have n5_ := zA ((by rw [hg]; exact Nat.ne_of_lt (blk_lt (g := gb658) (o := .cells #[.int .i64 a0_0, .int .i64 a0_1] 26 (0, 0)) (by (with_reducible repeat (first | refine zB ?_ _ | refine zD ?_ | refine zC ?_ _)); exact BK658.out)) : gb658 ≠ gb659)); have n6_ := zA ((by rw [hg]; exact Nat.ne_of_gt (blk_lt (g := gb658) (o := .cells #[.int .i64 a0_0, .int .i64 a0_1] 26 (0, 0)) (by (with_reducible repeat (first | refine zB ?_ _ | refine zD ?_ | refine zC ?_ _)); exact BK658.out)) : gb659 ≠ gb658)); clear BK658; clear HB; have BK658 := n0_; have HB := n1_; have BK659 := n2_; have GW659 := n3_; have GE659 := n4_; have NB658_659 := n5_; have NB659_658 := n6_; clear n0_ n1_ n2_ n3_ n4_ n5_ n6_; clear hb hbox hg) | ((with_reducible refine zS (N := 6) rfl ?_); refine zV ?hg (N := 6) ?hd (cs := #[.int .i64 0, .int .i64 0]) (t := 26) ?hr ?_; (case hd => rfl); (case hg => rfl); (case hr => first | (go_simp; done) | (go_simp; rfl)); intro gb660 hg w43 hbox hb; have n0_ := zA (zP (g := gb658) (o := .cells #[.int .i64 a0_0, .int .i64 a0_1] 26 (0, 0)) (by (with_reducible repeat (first | refine zB ?_ _ | refine zD ?_ | refine zC ?_ _)); exact BK658.out) hb); have n1_ := zA (zP (g := gb659) (o := .cells #[.int .i64 a1_0, .int .i64 a1_1] 26 (0, 0)) (by (with_reducible repeat (first | refine zB ?_ _ | refine zD ?_ | refine zC ?_ _)); exact BK659.out) hb); have n2_ := zA (zQ (by repeat (first | (with_reducible first | exact HB.out | apply zG | apply zE | apply zF | refine zH ?_ GE658.out | refine zH ?_ GE659.out) | exact HB.out)) hb); have n3_ := zA (hbox); have n4_ := zA ((by rw [hg]; exact (zR (by repeat (first | (with_reducible first | exact HB.out | apply zG | apply zE | apply zF | refine zH ?_ GE658.out | refine zH ?_ GE659.out) | exact HB.out))) : w.heap.size ≤ gb660)); have n5_ := zA ((by rw [hg]; exact (zR (by repeat (first | (with_reducible first | exact HB.out | apply zG | apply zE | apply zF | refine zH ?_ GE658.out | refine zH ?_ GE659.out) | exact HB.out))) : w.heap.size ≤ gb660)); have n6_ := zA ((by rw [hg]; exact Nat.ne_of_lt (blk_lt (g := gb658) (o := .cells #[.int .i64 a0_0, .int .i64 a0_1] 26 (0, 0)) (by (with_reducible repeat (first | refine zB ?_ _ | refine zD ?_ | refine zC ?_ _)); exact BK658.out)) : gb658 ≠ gb660)); have n7_ := zA ((by rw [hg]; exact Nat.ne_of_gt (blk_lt (g := gb658) (o := .cells #[.int .i64 a0_0, .int .i64 a0_1] 26 (0, 0)) (by (with_reducible repeat (first | refine zB ?_ _ | refine zD ?_ | refine zC ?_ _)); exact BK658.out)) : gb660 ≠ gb658)); have n8_ := zA ((by rw [hg]; exact Nat.ne_of_lt (blk_lt (g := gb659) (o := .cells #[.int .i64 a1_0, .int .i64 a1_1] 26 (0, 0)) (by (with_reducible repeat (first | refine zB ?_ _ | refine zD ?_ | refine zC ?_ _)); exact BK659.out)) : gb659 ≠ gb660)); have n9_ := zA ((by rw [hg]; exact Nat.ne_of_gt (blk_lt (g := gb659) (o := .cells #[.int .i64 a1_0, .int .i64 a1_1] 26 (0, 0)) (by (with_reducible repeat (first | refine zB ?_ _ | refine zD ?_ | refine zC ?_ _)); exact BK659.out)) : gb660 ≠ gb659)); clear BK658; clear BK659; clear HB; have BK658 := n0_; have BK659 := n1_; have HB := n2_; have BK660 := n3_; have GW660 := n4_; have GE660 := n5_; have NB658_660 := n6_; have NB660_658 := n7_; have NB659_660 := n8_; have NB660_659 := n9_; clear n0_ n1_ n2_ n3_ n4_ n5_ n6_ n7_ n8_ n9_; clear hb hbox hg; have hnb44 := NB658_659.out; have hnc44 := NB659_658.out; have hnb45 := NB658_660.out; have hnc45 := NB660_658.out; have hcz46_0 : w43.cell? ⟨gb658, 0, none⟩ = some (.int .i64 a0_0) := (zJ BK658.out 0).trans rfl; have hcz46_1 : w43.cell? ⟨gb658, 1, none⟩ = some (.int .i64 a0_1) := (zJ BK658.out 1).trans rfl; have hfz46_0 := zK BK658.out 0; have hfz46_1 := zK BK658.out 1) | ((with_reducible refine zT (f := 20) rfl ?_); refine goesL_ (some 9) rfl rfl Try.func20 (by kernel_rfl) rfl #[.agg #[.int .i64 a0_0, .int .i64 a0_1]] rfl (by (try simp only [zW, yA, yB]); first | done | rfl | (simp only [zX, zZ]; rfl)) ?_; (with_reducible refine (spec_DecOk.calls a0_0 a0_1 true _ A4.out).mono ?_); rintro e w47 ⟨rfl, hb⟩; refine ⟨_, rfl, ?_⟩; have n0_ := zA (zP (g := gb658) (o := .cells #[.int .i64 a0_0, .int .i64 a0_1] 26 (0, 0)) (by (with_reducible repeat (first | refine zB ?_ _ | refine zD ?_ | refine zC ?_ _)); exact BK658.out) hb); have n1_ := zA (zP (g := gb659) (o := .cells #[.int .i64 a1_0, .int .i64 a1_1] 26 (0, 0)) (by (with_reducible repeat (first | refine zB ?_ _ | refine zD ?_ | refine zC ?_ _)); exact BK659.out) hb); have n2_ := zA (zP (g := gb660) (o := .cells #[.int .i64 0, .int .i64 0] 26 (0, 0)) (by (with_reducible repeat (first | refine zB ?_ _ | refine zD ?_ | refine zC ?_ _)); exact BK660.out) hb); have n3_ := zA (zQ (by repeat (first | (with_reducible first | exact HB.out | apply zG | apply zE | apply zF | refine zH ?_ GE658.out | refine zH ?_ GE659.out | refine zH ?_ GE660.out) | exact HB.out)) hb); clear BK658; clear BK659; clear BK660; clear HB; have BK658 := n0_; have BK659 := n1_; have BK660 := n2_; have HB := n3_; clear n0_ n1_ n2_ n3_; (try clear hb); (try clear hb2); (try clear hk); (try clear hi); have hnb48 := NB659_660.out; have hnc48 := NB660_659.out; have hcz49_0 : w47.cell? ⟨gb659, 0, none⟩ = some (.int .i64 a1_0) := (zJ BK659.out 0).trans rfl; have hcz49_1 : w47.cell? ⟨gb659, 1, none⟩ = some (.int .i64 a1_1) := (zJ BK659.out 1).trans rfl; have hfz49_0 := zK BK659.out 0; have hfz49_1 := zK BK659.out 1) | (go_at_call 20; (with_reducible refine (spec_DecOk.calls a1_0 a1_1 true _ A6.out).mono ?_); rintro e w50 ⟨rfl, hb⟩; have n0_ := zA (zP (g := gb658) (o := .cells #[.int .i64 a0_0, .int .i64 a0_1] 26 (0, 0)) (by (with_reducible repeat (first | refine zB ?_ _ | refine zD ?_ | refine zC ?_ _)); exact BK658.out) hb); have n1_ := zA (zP (g := gb659) (o := .cells #[.int .i64 a1_0, .int .i64 a1_1] 26 (0, 0)) (by (with_reducible repeat (first | refine zB ?_ _ | refine zD ?_ | refine zC ?_ _)); exact BK659.out) hb); have n2_ := zA (zP (g := gb660) (o := .cells #[.int .i64 0, .int .i64 0] 26 (0, 0)) (by (with_reducible repeat (first | refine zB ?_ _ | refine zD ?_ | refine zC ?_ _)); exact BK660.out) hb); have n3_ := zA (zQ (by repeat (first | (with_reducible first | exact HB.out | apply zG | apply zE | apply zF | refine zH ?_ GE658.out | refine zH ?_ GE659.out | refine zH ?_ GE660.out) | exact HB.out)) hb); clear BK658; clear BK659; clear BK660; clear HB; have BK658 := n0_; have BK659 := n1_; have BK660 := n2_; have HB := n3_; clear n0_ n1_ n2_ n3_; (try clear hb); (try clear hb2); (try clear hk); (try clear hi); have hcz51_0 : w50.cell? ⟨gb659, 0, none⟩ = some (.int .i64 a1_0) := (zJ BK659.out 0).trans rfl; have hcz51_1 : w50.cell? ⟨gb659, 1, none⟩ = some (.int .i64 a1_1) := (zJ BK659.out 1).trans rfl; have hfz51_0 := zK BK659.out 0; have hfz51_1 := zK BK659.out 1) | (go_at_call 48; (with_reducible refine (spec_l1In.calls a2 0 8 false _ A21.out).mono ?_); rintro e w' ⟨rfl, ⟨nd, rfl⟩⟩; (try ((repeat rw [World.drewN_drewN]); rw [drewN_self w50]; generalize hq_ : World.drewN w50 _ = w50; have n0_ : Aside0 (w50.heap[gb658]? = some (.cells #[.int .i64 a0_0, .int .i64 a0_1] 26 (0, 0))) := ⟨by rw [← hq_]; exact (by (with_reducible repeat (first | refine zB ?_ _ | refine zD ?_ | refine zC ?_ _)); exact BK658.out)⟩; have n1_ : Aside0 (w50.heap[gb659]? = some (.cells #[.int .i64 a1_0, .int .i64 a1_1] 26 (0, 0))) := ⟨by rw [← hq_]; exact (by (with_reducible repeat (first | refine zB ?_ _ | refine zD ?_ | refine zC ?_ _)); exact BK659.out)⟩; have n2_ : Aside0 (w50.heap[gb660]? = some (.cells #[.int .i64 0, .int .i64 0] 26 (0, 0))) := ⟨by rw [← hq_]; exact (by (with_reducible repeat (first | refine zB ?_ _ | refine zD ?_ | refine zC ?_ _)); exact BK660.out)⟩; have n3_ : Aside0 (Below w.heap.size w w50) := ⟨by rw [← hq_]; exact (by repeat (first | (with_reducible first | exact HB.out | apply zG | apply zE | apply zF | refine zH ?_ GE658.out | refine zH ?_ GE659.out | refine zH ?_ GE660.out) | exact HB.out))⟩; clear BK658 BK659 BK660 HB hq_; have BK658 := n0_; have BK659 := n1_; have BK660 := n2_; have HB := n3_; clear n0_ n1_ n2_ n3_)); (try (have hcu52_0 : w50.cell? ⟨gb658, 0, none⟩ = some (.int .i64 a0_0) := (zJ BK658.out 0).trans rfl; have hfu52_0 := zK BK658.out 0)); (try (have hcu52_1 : w50.cell? ⟨gb658, 1, none⟩ = some (.int .i64 a0_1) := (zJ BK658.out 1).trans rfl; have hfu52_1 := zK BK658.out 1)); (try (have hcu53_0 : w50.cell? ⟨gb659, 0, none⟩ = some (.int .i64 a1_0) := (zJ BK659.out 0).trans rfl; have hfu53_0 := zK BK659.out 0)); (try (have hcu53_1 : w50.cell? ⟨gb659, 1, none⟩ = some (.int .i64 a1_1) := (zJ BK659.out 1).trans rfl; have hfu53_1 := zK BK659.out 1)); (try (have hcu54_0 : w50.cell? ⟨gb660, 0, none⟩ = some (.int .i64 0) := (zJ BK660.out 0).trans rfl; have hfu54_0 := zK BK660.out 0)); (try (have hcu54_1 : w50.cell? ⟨gb660, 1, none⟩ = some (.int .i64 0) := (zJ BK660.out 1).trans rfl; have hfu54_1 := zK BK660.out 1)); have hcz55_0 : w50.cell? ⟨gb660, 0, none⟩ = some (.int .i64 0) := (zJ BK660.out 0).trans rfl; have hcz55_1 : w50.cell? ⟨gb660, 1, none⟩ = some (.int .i64 0) := (zJ BK660.out 1).trans rfl; have hfz55_0 := zK BK660.out 0; have hfz55_1 := zK BK660.out 1))
     refine bodyPost_ret (results_ct rfl _ _ gb660 26 #[.int .i64 0, .int .i64 0] (0, 0) _ rfl (by (with_reducible repeat (first | refine zB ?_ _ | refine zD ?_ | refine zC ?_ _)); refine blk_put (cs := #[.int .i64 0, .int .i64 0]) ?_ 1 _ rfl; (with_reducible repeat (first | refine zB ?_ _ | refine zD ?_ | refine zC ?_ _)); refine blk_put (cs := #[.int .i64 0, .int .i64 0]) ?_ 0 _ rfl; (with_reducible repeat (first | refine zB ?_ _ | refine zD ?_ | refine zC ?_ _)); exact BK660.out) Try.underlying26 rfl (by kernel_rfl)) rfl ?_
     exact ⟨by first | rfl | (simp [errW_none, errW_some] <;> rfl) | (simp [*, errW_none, errW_some] <;> rfl), by repeat (first | (with_reducible first | exact HB.out | apply zG | apply zE | apply zF | refine zH ?_ GE658.out | refine zH ?_ GE659.out | refine zH ?_ GE660.out) | exact HB.out)⟩
  ·replace c7 := Bool.eq_false_iff.mpr c7
   subst c7
   have H1 : (some (0, 0, false)) = some (r1, r2, r3) := by rw [if_neg (show ¬ (false = true) by decide)] at H; exact H
   clear H
   have H := H1
   clear H1
   simp only [Option.some.injEq, Prod.mk.injEq] at H
   obtain ⟨rfl, rfl, rfl⟩ := H
   go_enter Try.func38, Try.ntmps38
   go_wp2_with (first | ((with_reducible refine zS (N := 3) rfl ?_); refine zV ?hg (N := 3) ?hd (cs := #[.int .i64 a0_0, .int .i64 a0_1]) (t := 26) ?hr ?_; (case hd => rfl); (case hg => rfl); (case hr => first | (go_simp; done) | (go_simp; rfl)); intro gb658 hg w56 hbox hb; have n0_ := zA (zQ (by repeat (first | (with_reducible first | exact HB.out | apply zG | apply zE | apply zF) | exact HB.out)) hb); have n1_ := zA (hbox); have n2_ := zA ((by rw [hg]; exact (zR (by repeat (first | (with_reducible first | exact HB.out | apply zG | apply zE | apply zF) | exact HB.out))) : w.heap.size ≤ gb658)); have n3_ := zA ((by rw [hg]; exact (zR (by repeat (first | (with_reducible first | exact HB.out | apply zG | apply zE | apply zF) | exact HB.out))) : w.heap.size ≤ gb658)); clear HB; have HB := n0_; have BK658 := n1_; have GW658 := n2_; have GE658 := n3_; clear n0_ n1_ n2_ n3_; clear hb hbox hg) | ((with_reducible refine zS (N := 4) rfl ?_); refine zV ?hg (N := 4) ?hd (cs := #[.int .i64 a1_0, .int .i64 a1_1]) (t := 26) ?hr ?_; (case hd => rfl); (case hg => rfl); (case hr => first | (go_simp; done) | (go_simp; rfl)); intro gb659 hg w57 hbox hb; have n0_ := zA (zP (g := gb658) (o := .cells #[.int .i64 a0_0, .int .i64 a0_1] 26 (0, 0)) (by (with_reducible repeat (first | refine zB ?_ _ | refine zD ?_ | refine zC ?_ _)); exact BK658.out) hb); have n1_ := zA (zQ (by repeat (first | (with_reducible first | exact HB.out | apply zG | apply zE | apply zF | refine zH ?_ GE658.out) | exact HB.out)) hb); have n2_ := zA (hbox); have n3_ := zA ((by rw [hg]; exact (zR (by repeat (first | (with_reducible first | exact HB.out | apply zG | apply zE | apply zF | refine zH ?_ GE658.out) | exact HB.out))) : w.heap.size ≤ gb659)); have n4_ := zA ((by rw [hg]; exact (zR (by repeat (first | (with_reducible first | exact HB.out | apply zG | apply zE | apply zF | refine zH ?_ GE658.out) | exact HB.out))) : w.heap.size ≤ gb659)); have n5_ := zA ((by rw [hg]; exact Nat.ne_of_lt (blk_lt (g := gb658) (o := .cells #[.int .i64 a0_0, .int .i64 a0_1] 26 (0, 0)) (by (with_reducible repeat (first | refine zB ?_ _ | refine zD ?_ | refine zC ?_ _)); exact BK658.out)) : gb658 ≠ gb659)); have n6_ := zA ((by rw [hg]; exact Nat.ne_of_gt (blk_lt (g := gb658) (o := .cells #[.int .i64 a0_0, .int .i64 a0_1] 26 (0, 0)) (by (with_reducible repeat (first | refine zB ?_ _ | refine zD ?_ | refine zC ?_ _)); exact BK658.out)) : gb659 ≠ gb658)); clear BK658; clear HB; have BK658 := n0_; have HB := n1_; have BK659 := n2_; have GW659 := n3_; have GE659 := n4_; have NB658_659 := n5_; have NB659_658 := n6_; clear n0_ n1_ n2_ n3_ n4_ n5_ n6_; clear hb hbox hg) | ((with_reducible refine zS (N := 6) rfl ?_); refine zV ?hg (N := 6) ?hd (cs := #[.int .i64 0, .int .i64 0]) (t := 26) ?hr ?_; (case hd => rfl); (case hg => rfl); (case hr => first | (go_simp; done) | (go_simp; rfl)); intro gb660 hg w58 hbox hb; have n0_ := zA (zP (g := gb658) (o := .cells #[.int .i64 a0_0, .int .i64 a0_1] 26 (0, 0)) (by (with_reducible repeat (first | refine zB ?_ _ | refine zD ?_ | refine zC ?_ _)); exact BK658.out) hb); have n1_ := zA (zP (g := gb659) (o := .cells #[.int .i64 a1_0, .int .i64 a1_1] 26 (0, 0)) (by (with_reducible repeat (first | refine zB ?_ _ | refine zD ?_ | refine zC ?_ _)); exact BK659.out) hb); have n2_ := zA (zQ (by repeat (first | (with_reducible first | exact HB.out | apply zG | apply zE | apply zF | refine zH ?_ GE658.out | refine zH ?_ GE659.out) | exact HB.out)) hb); have n3_ := zA (hbox); have n4_ := zA ((by rw [hg]; exact (zR (by repeat (first | (with_reducible first | exact HB.out | apply zG | apply zE | apply zF | refine zH ?_ GE658.out | refine zH ?_ GE659.out) | exact HB.out))) : w.heap.size ≤ gb660)); have n5_ := zA ((by rw [hg]; exact (zR (by repeat (first | (with_reducible first | exact HB.out | apply zG | apply zE | apply zF | refine zH ?_ GE658.out | refine zH ?_ GE659.out) | exact HB.out))) : w.heap.size ≤ gb660)); have n6_ := zA ((by rw [hg]; exact Nat.ne_of_lt (blk_lt (g := gb658) (o := .cells #[.int .i64 a0_0, .int .i64 a0_1] 26 (0, 0)) (by (with_reducible repeat (first | refine zB ?_ _ | refine zD ?_ | refine zC ?_ _)); exact BK658.out)) : gb658 ≠ gb660)); have n7_ := zA ((by rw [hg]; exact Nat.ne_of_gt (blk_lt (g := gb658) (o := .cells #[.int .i64 a0_0, .int .i64 a0_1] 26 (0, 0)) (by (with_reducible repeat (first | refine zB ?_ _ | refine zD ?_ | refine zC ?_ _)); exact BK658.out)) : gb660 ≠ gb658)); have n8_ := zA ((by rw [hg]; exact Nat.ne_of_lt (blk_lt (g := gb659) (o := .cells #[.int .i64 a1_0, .int .i64 a1_1] 26 (0, 0)) (by (with_reducible repeat (first | refine zB ?_ _ | refine zD ?_ | refine zC ?_ _)); exact BK659.out)) : gb659 ≠ gb660)); have n9_ := zA ((by rw [hg]; exact Nat.ne_of_gt (blk_lt (g := gb659) (o := .cells #[.int .i64 a1_0, .int .i64 a1_1] 26 (0, 0)) (by (with_reducible repeat (first | refine zB ?_ _ | refine zD ?_ | refine zC ?_ _)); exact BK659.out)) : gb660 ≠ gb659)); clear BK658; clear BK659; clear HB; have BK658 := n0_; have BK659 := n1_; have HB := n2_; have BK660 := n3_; have GW660 := n4_; have GE660 := n5_; have NB658_660 := n6_; have NB660_658 := n7_; have NB659_660 := n8_; have NB660_659 := n9_; clear n0_ n1_ n2_ n3_ n4_ n5_ n6_ n7_ n8_ n9_; clear hb hbox hg; have hnb59 := NB658_659.out; have hnc59 := NB659_658.out; have hnb60 := NB658_660.out; have hnc60 := NB660_658.out; have hcz61_0 : w58.cell? ⟨gb658, 0, none⟩ = some (.int .i64 a0_0) := (zJ BK658.out 0).trans rfl; have hcz61_1 : w58.cell? ⟨gb658, 1, none⟩ = some (.int .i64 a0_1) := (zJ BK658.out 1).trans rfl; have hfz61_0 := zK BK658.out 0; have hfz61_1 := zK BK658.out 1) | ((with_reducible refine zT (f := 20) rfl ?_); refine goesL_ (some 9) rfl rfl Try.func20 (by kernel_rfl) rfl #[.agg #[.int .i64 a0_0, .int .i64 a0_1]] rfl (by (try simp only [zW, yA, yB]); first | done | rfl | (simp only [zX, zZ]; rfl)) ?_; (with_reducible refine (spec_DecOk.calls a0_0 a0_1 true _ A4.out).mono ?_); rintro e w62 ⟨rfl, hb⟩; refine ⟨_, rfl, ?_⟩; have n0_ := zA (zP (g := gb658) (o := .cells #[.int .i64 a0_0, .int .i64 a0_1] 26 (0, 0)) (by (with_reducible repeat (first | refine zB ?_ _ | refine zD ?_ | refine zC ?_ _)); exact BK658.out) hb); have n1_ := zA (zP (g := gb659) (o := .cells #[.int .i64 a1_0, .int .i64 a1_1] 26 (0, 0)) (by (with_reducible repeat (first | refine zB ?_ _ | refine zD ?_ | refine zC ?_ _)); exact BK659.out) hb); have n2_ := zA (zP (g := gb660) (o := .cells #[.int .i64 0, .int .i64 0] 26 (0, 0)) (by (with_reducible repeat (first | refine zB ?_ _ | refine zD ?_ | refine zC ?_ _)); exact BK660.out) hb); have n3_ := zA (zQ (by repeat (first | (with_reducible first | exact HB.out | apply zG | apply zE | apply zF | refine zH ?_ GE658.out | refine zH ?_ GE659.out | refine zH ?_ GE660.out) | exact HB.out)) hb); clear BK658; clear BK659; clear BK660; clear HB; have BK658 := n0_; have BK659 := n1_; have BK660 := n2_; have HB := n3_; clear n0_ n1_ n2_ n3_; (try clear hb); (try clear hb2); (try clear hk); (try clear hi); have hnb63 := NB659_660.out; have hnc63 := NB660_659.out; have hcz64_0 : w62.cell? ⟨gb659, 0, none⟩ = some (.int .i64 a1_0) := (zJ BK659.out 0).trans rfl; have hcz64_1 : w62.cell? ⟨gb659, 1, none⟩ = some (.int .i64 a1_1) := (zJ BK659.out 1).trans rfl; have hfz64_0 := zK BK659.out 0; have hfz64_1 := zK BK659.out 1) | (go_at_call 20; (with_reducible refine (spec_DecOk.calls a1_0 a1_1 false _ A6.out).mono ?_); rintro e w65 ⟨rfl, hb⟩; have n0_ := zA (zP (g := gb658) (o := .cells #[.int .i64 a0_0, .int .i64 a0_1] 26 (0, 0)) (by (with_reducible repeat (first | refine zB ?_ _ | refine zD ?_ | refine zC ?_ _)); exact BK658.out) hb); have n1_ := zA (zP (g := gb659) (o := .cells #[.int .i64 a1_0, .int .i64 a1_1] 26 (0, 0)) (by (with_reducible repeat (first | refine zB ?_ _ | refine zD ?_ | refine zC ?_ _)); exact BK659.out) hb); have n2_ := zA (zP (g := gb660) (o := .cells #[.int .i64 0, .int .i64 0] 26 (0, 0)) (by (with_reducible repeat (first | refine zB ?_ _ | refine zD ?_ | refine zC ?_ _)); exact BK660.out) hb); have n3_ := zA (zQ (by repeat (first | (with_reducible first | exact HB.out | apply zG | apply zE | apply zF | refine zH ?_ GE658.out | refine zH ?_ GE659.out | refine zH ?_ GE660.out) | exact HB.out)) hb); clear BK658; clear BK659; clear BK660; clear HB; have BK658 := n0_; have BK659 := n1_; have BK660 := n2_; have HB := n3_; clear n0_ n1_ n2_ n3_; (try clear hb); (try clear hb2); (try clear hk); (try clear hi); have hcz66_0 : w65.cell? ⟨gb660, 0, none⟩ = some (.int .i64 0) := (zJ BK660.out 0).trans rfl; have hcz66_1 : w65.cell? ⟨gb660, 1, none⟩ = some (.int .i64 0) := (zJ BK660.out 1).trans rfl; have hfz66_0 := zK BK660.out 0; have hfz66_1 := zK BK660.out 1))
   refine bodyPost_ret (results_ct rfl _ _ gb660 26 #[.int .i64 0, .int .i64 0] (0, 0) _ rfl (by (with_reducible repeat (first | refine zB ?_ _ | refine zD ?_ | refine zC ?_ _)); refine blk_put (cs := #[.int .i64 0, .int .i64 0]) ?_ 1 _ rfl; (with_reducible repeat (first | refine zB ?_ _ | refine zD ?_ | refine zC ?_ _)); refine blk_put (cs := #[.int .i64 0, .int .i64 0]) ?_ 0 _ rfl; (with_reducible repeat (first | refine zB ?_ _ | refine zD ?_ | refine zC ?_ _)); exact BK660.out) Try.underlying26 rfl (by kernel_rfl)) rfl ?_
   exact ⟨by first | rfl | (simp [errW_none, errW_some] <;> rfl) | (simp [*, errW_none, errW_some] <;> rfl), by repeat (first | (with_reducible first | exact HB.out | apply zG | apply zE | apply zF | refine zH ?_ GE658.out | refine zH ?_ GE659.out | refine zH ?_ GE660.out) | exact HB.out)⟩
 ·replace c5 := Bool.eq_false_iff.mpr c5
  subst c5
  have H1 : (some (0, 0, false)) = some (r1, r2, r3) := by rw [if_neg (show ¬ (false = true) by decide)] at H; exact H
  clear H
  have H := H1
  clear H1
  simp only [Option.some.injEq, Prod.mk.injEq] at H
  obtain ⟨rfl, rfl, rfl⟩ := H
  go_enter Try.func38, Try.ntmps38
  go_wp2_with (first | ((with_reducible refine zS (N := 3) rfl ?_); refine zV ?hg (N := 3) ?hd (cs := #[.int .i64 a0_0, .int .i64 a0_1]) (t := 26) ?hr ?_; (case hd => rfl); (case hg => rfl); (case hr => first | (go_simp; done) | (go_simp; rfl)); intro gb658 hg w67 hbox hb; have n0_ := zA (zQ (by repeat (first | (with_reducible first | exact HB.out | apply zG | apply zE | apply zF) | exact HB.out)) hb); have n1_ := zA (hbox); have n2_ := zA ((by rw [hg]; exact (zR (by repeat (first | (with_reducible first | exact HB.out | apply zG | apply zE | apply zF) | exact HB.out))) : w.heap.size ≤ gb658)); have n3_ := zA ((by rw [hg]; exact (zR (by repeat (first | (with_reducible first | exact HB.out | apply zG | apply zE | apply zF) | exact HB.out))) : w.heap.size ≤ gb658)); clear HB; have HB := n0_; have BK658 := n1_; have GW658 := n2_; have GE658 := n3_; clear n0_ n1_ n2_ n3_; clear hb hbox hg) | ((with_reducible refine zS (N := 4) rfl ?_); refine zV ?hg (N := 4) ?hd (cs := #[.int .i64 a1_0, .int .i64 a1_1]) (t := 26) ?hr ?_; (case hd => rfl); (case hg => rfl); (case hr => first | (go_simp; done) | (go_simp; rfl)); intro gb659 hg w68 hbox hb; have n0_ := zA (zP (g := gb658) (o := .cells #[.int .i64 a0_0, .int .i64 a0_1] 26 (0, 0)) (by (with_reducible repeat (first | refine zB ?_ _ | refine zD ?_ | refine zC ?_ _)); exact BK658.out) hb); have n1_ := zA (zQ (by repeat (first | (with_reducible first | exact HB.out | apply zG | apply zE | apply zF | refine zH ?_ GE658.out) | exact HB.out)) hb); have n2_ := zA (hbox); have n3_ := zA ((by rw [hg]; exact (zR (by repeat (first | (with_reducible first | exact HB.out | apply zG | apply zE | apply zF | refine zH ?_ GE658.out) | exact HB.out))) : w.heap.size ≤ gb659)); have n4_ := zA ((by rw [hg]; exact (zR (by repeat (first | (with_reducible first | exact HB.out | apply zG | apply zE | apply zF | refine zH ?_ GE658.out) | exact HB.out))) : w.heap.size ≤ gb659)); have n5_ := zA ((by rw [hg]; exact Nat.ne_of_lt (blk_lt (g := gb658) (o := .cells #[.int .i64 a0_0, .int .i64 a0_1] 26 (0, 0)) (by (with_reducible repeat (first | refine zB ?_ _ | refine zD ?_ | refine zC ?_ _)); exact BK658.out)) : gb658 ≠ gb659)); have n6_ := zA ((by rw [hg]; exact Nat.ne_of_gt (blk_lt (g := gb658) (o := .cells #[.int .i64 a0_0, .int .i64 a0_1] 26 (0, 0)) (by (with_reducible repeat (first | refine zB ?_ _ | refine zD ?_ | refine zC ?_ _)); exact BK658.out)) : gb659 ≠ gb658)); clear BK658; clear HB; have BK658 := n0_; have HB := n1_; have BK659 := n2_; have GW659 := n3_; have GE659 := n4_; have NB658_659 := n5_; have NB659_658 := n6_; clear n0_ n1_ n2_ n3_ n4_ n5_ n6_; clear hb hbox hg) | ((with_reducible refine zS (N := 6) rfl ?_); refine zV ?hg (N := 6) ?hd (cs := #[.int .i64 0, .int .i64 0]) (t := 26) ?hr ?_; (case hd => rfl); (case hg => rfl); (case hr => first | (go_simp; done) | (go_simp; rfl)); intro gb660 hg w69 hbox hb; have n0_ := zA (zP (g := gb658) (o := .cells #[.int .i64 a0_0, .int .i64 a0_1] 26 (0, 0)) (by (with_reducible repeat (first | refine zB ?_ _ | refine zD ?_ | refine zC ?_ _)); exact BK658.out) hb); have n1_ := zA (zP (g := gb659) (o := .cells #[.int .i64 a1_0, .int .i64 a1_1] 26 (0, 0)) (by (with_reducible repeat (first | refine zB ?_ _ | refine zD ?_ | refine zC ?_ _)); exact BK659.out) hb); have n2_ := zA (zQ (by repeat (first | (with_reducible first | exact HB.out | apply zG | apply zE | apply zF | refine zH ?_ GE658.out | refine zH ?_ GE659.out) | exact HB.out)) hb); have n3_ := zA (hbox); have n4_ := zA ((by rw [hg]; exact (zR (by repeat (first | (with_reducible first | exact HB.out | apply zG | apply zE | apply zF | refine zH ?_ GE658.out | refine zH ?_ GE659.out) | exact HB.out))) : w.heap.size ≤ gb660)); have n5_ := zA ((by rw [hg]; exact (zR (by repeat (first | (with_reducible first | exact HB.out | apply zG | apply zE | apply zF | refine zH ?_ GE658.out | refine zH ?_ GE659.out) | exact HB.out))) : w.heap.size ≤ gb660)); have n6_ := zA ((by rw [hg]; exact Nat.ne_of_lt (blk_lt (g := gb658) (o := .cells #[.int .i64 a0_0, .int .i64 a0_1] 26 (0, 0)) (by (with_reducible repeat (first | refine zB ?_ _ | refine zD ?_ | refine zC ?_ _)); exact BK658.out)) : gb658 ≠ gb660)); have n7_ := zA ((by rw [hg]; exact Nat.ne_of_gt (blk_lt (g := gb658) (o := .cells #[.int .i64 a0_0, .int .i64 a0_1] 26 (0, 0)) (by (with_reducible repeat (first | refine zB ?_ _ | refine zD ?_ | refine zC ?_ _)); exact BK658.out)) : gb660 ≠ gb658)); have n8_ := zA ((by rw [hg]; exact Nat.ne_of_lt (blk_lt (g := gb659) (o := .cells #[.int .i64 a1_0, .int .i64 a1_1] 26 (0, 0)) (by (with_reducible repeat (first | refine zB ?_ _ | refine zD ?_ | refine zC ?_ _)); exact BK659.out)) : gb659 ≠ gb660)); have n9_ := zA ((by rw [hg]; exact Nat.ne_of_gt (blk_lt (g := gb659) (o := .cells #[.int .i64 a1_0, .int .i64 a1_1] 26 (0, 0)) (by (with_reducible repeat (first | refine zB ?_ _ | refine zD ?_ | refine zC ?_ _)); exact BK659.out)) : gb660 ≠ gb659)); clear BK658; clear BK659; clear HB; have BK658 := n0_; have BK659 := n1_; have HB := n2_; have BK660 := n3_; have GW660 := n4_; have GE660 := n5_; have NB658_660 := n6_; have NB660_658 := n7_; have NB659_660 := n8_; have NB660_659 := n9_; clear n0_ n1_ n2_ n3_ n4_ n5_ n6_ n7_ n8_ n9_; clear hb hbox hg; have hnb70 := NB658_659.out; have hnc70 := NB659_658.out; have hnb71 := NB658_660.out; have hnc71 := NB660_658.out; have hcz72_0 : w69.cell? ⟨gb658, 0, none⟩ = some (.int .i64 a0_0) := (zJ BK658.out 0).trans rfl; have hcz72_1 : w69.cell? ⟨gb658, 1, none⟩ = some (.int .i64 a0_1) := (zJ BK658.out 1).trans rfl; have hfz72_0 := zK BK658.out 0; have hfz72_1 := zK BK658.out 1) | ((with_reducible refine zT (f := 20) rfl ?_); refine goesL_ (some 9) rfl rfl Try.func20 (by kernel_rfl) rfl #[.agg #[.int .i64 a0_0, .int .i64 a0_1]] rfl (by (try simp only [zW, yA, yB]); first | done | rfl | (simp only [zX, zZ]; rfl)) ?_; (with_reducible refine (spec_DecOk.calls a0_0 a0_1 false _ A4.out).mono ?_); rintro e w73 ⟨rfl, hb⟩; refine ⟨_, rfl, ?_⟩; have n0_ := zA (zP (g := gb658) (o := .cells #[.int .i64 a0_0, .int .i64 a0_1] 26 (0, 0)) (by (with_reducible repeat (first | refine zB ?_ _ | refine zD ?_ | refine zC ?_ _)); exact BK658.out) hb); have n1_ := zA (zP (g := gb659) (o := .cells #[.int .i64 a1_0, .int .i64 a1_1] 26 (0, 0)) (by (with_reducible repeat (first | refine zB ?_ _ | refine zD ?_ | refine zC ?_ _)); exact BK659.out) hb); have n2_ := zA (zP (g := gb660) (o := .cells #[.int .i64 0, .int .i64 0] 26 (0, 0)) (by (with_reducible repeat (first | refine zB ?_ _ | refine zD ?_ | refine zC ?_ _)); exact BK660.out) hb); have n3_ := zA (zQ (by repeat (first | (with_reducible first | exact HB.out | apply zG | apply zE | apply zF | refine zH ?_ GE658.out | refine zH ?_ GE659.out | refine zH ?_ GE660.out) | exact HB.out)) hb); clear BK658; clear BK659; clear BK660; clear HB; have BK658 := n0_; have BK659 := n1_; have BK660 := n2_; have HB := n3_; clear n0_ n1_ n2_ n3_; (try clear hb); (try clear hb2); (try clear hk); (try clear hi); have hnb74 := NB660_659.out; have hnc74 := NB659_660.out; have hcz75_0 : w73.cell? ⟨gb660, 0, none⟩ = some (.int .i64 0) := (zJ BK660.out 0).trans rfl; have hcz75_1 : w73.cell? ⟨gb660, 1, none⟩ = some (.int .i64 0) := (zJ BK660.out 1).trans rfl; have hfz75_0 := zK BK660.out 0; have hfz75_1 := zK BK660.out 1))
  refine bodyPost_ret (results_ct rfl _ _ gb660 26 #[.int .i64 0, .int .i64 0] (0, 0) _ rfl (by (with_reducible repeat (first | refine zB ?_ _ | refine zD ?_ | refine zC ?_ _)); refine blk_put (cs := #[.int .i64 0, .int .i64 0]) ?_ 1 _ rfl; (with_reducible repeat (first | refine zB ?_ _ | refine zD ?_ | refine zC ?_ _)); refine blk_put (cs := #[.int .i64 0, .int .i64 0]) ?_ 0 _ rfl; (with_reducible repeat (first | refine zB ?_ _ | refine zD ?_ | refine zC ?_ _)); exact BK660.out) Try.underlying26 rfl (by kernel_rfl)) rfl ?_
  exact ⟨by first | rfl | (simp [errW_none, errW_some] <;> rfl) | (simp [*, errW_none, errW_some] <;> rfl), by repeat (first | (with_reducible first | exact HB.out | apply zG | apply zE | apply zF | refine zH ?_ GE658.out | refine zH ?_ GE659.out | refine zH ?_ GE660.out) | exact HB.out)⟩

end Go.Proofs.Ytmoaolcioihjnaa.Q

namespace Go.Proofs.Ytmoaolcioihjnaa.Q
open Go.RowKit Go.Proofs.YtmoaolcioihjnaaW.PrintWords Go.Proofs.YtmoaolcioihjnaaW.PrintLast Go.Proofs.YtmoaolcioihjnaaW.PrintMore Go.Proofs.YtmoaolcioihjnaaX
attribute [local go_sem] max2_int min2_int max_two min_two max_three min_three max_four min_four   -- for this text's walks alone
set_option linter.unusedVariables false
set_option linter.unusedSimpArgs false

def spec_l1Sign.f (a0 : Int) : Option (Int) := if a0 < 0 then (some (-1)) else (if a0 > 0 then (some 1) else (some 0))
set_option maxHeartbeats 8000000 in
set_option maxRecDepth 100000 in
theorem spec_l1Sign.calls (a0 : Int) (r : Int) (w : World) (h : spec_l1Sign.f a0 = some r) :
  Calls Try.prog 71 #[.int .i64 a0] w fun e w' => e = .returned (.int .i64 r) ∧ Drawn0 w w' := by
 have H : (if a0 < 0 then (some (-1)) else (if a0 > 0 then (some 1) else (some 0))) = some r := h
 clear h
 by_cases c2 : a0 < 0
 ·rw [if_pos c2] at H
  have c2b0 : decide (a0 < 0) = true := decide_eq_true c2
  clear c2
  obtain rfl := Option.some.inj H
  go_enter Try.func71, Try.ntmps71
  go_wp2
  go_ret
  exact ⟨by first | rfl | (simp; done) | (simp [*]; done), by repeat (first | exact Drawn0.refl _ | apply Drawn0.step)⟩
 ·rw [if_neg c2] at H
  have c2b0 : decide (a0 < 0) = false := decide_eq_false c2
  clear c2
  by_cases c3 : a0 > 0
  ·rw [if_pos c3] at H
   have c3b0 : decide (0 < a0) = true := decide_eq_true c3
   clear c3
   obtain rfl := Option.some.inj H
   go_enter Try.func71, Try.ntmps71
   go_wp2
   go_ret
   exact ⟨by first | rfl | (simp; done) | (simp [*]; done), by repeat (first | exact Drawn0.refl _ | apply Drawn0.step)⟩
  ·rw [if_neg c3] at H
   have c3b0 : decide (0 < a0) = false := decide_eq_false c3
   clear c3
   obtain rfl := Option.some.inj H
   go_enter Try.func71, Try.ntmps71
   go_wp2
   go_ret
   exact ⟨by first | rfl | (simp; done) | (simp [*]; done), by repeat (first | exact Drawn0.refl _ | apply Drawn0.step)⟩

end Go.Proofs.Ytmoaolcioihjnaa.Q

namespace Go.Proofs.Ytmoaolcioihjnaa.Q
open Go.RowKit Go.Proofs.YtmoaolcioihjnaaW.PrintWords Go.Proofs.YtmoaolcioihjnaaW.PrintLast Go.Proofs.YtmoaolcioihjnaaW.PrintMore Go.Proofs.YtmoaolcioihjnaaX
attribute [local go_sem] max2_int min2_int max_two min_two max_three min_three max_four min_four   -- for this text's walks alone
set_option linter.unusedVariables false
set_option linter.unusedSimpArgs false

def spec_l1Dec.f : Nat → Int → Option (ByteArray)
 | 0, _ => none
 | k + 1, a0 => if a0 < (-9223372036854775807) then (some (⟨#[45, 57, 50, 50, 51, 51, 55, 50, 48, 51, 54, 56, 53, 52, 55, 55, 53, 56, 48, 56]⟩ : ByteArray)) else (if a0 < 0 then ((spec_l1Dec.f k (wrap64 (-a0))).bind fun t539 => (if 1 + t539.size ≤ 9223372036854775807 then (some ((⟨#[45]⟩ : ByteArray) ++ t539)) else (none))) else (if a0 < 10 then (some (strOfNums (([(wrap64 (48 + a0)) % 256] : List Int)))) else ((spec_l1Dec.f k (wrap64 (Int.tdiv a0 10))).bind fun t543 => ((some (([(wrap64 (48 + (Int.tmod a0 10))) % 256] : List Int) : List Int)).bind fun y544 => (if t543.size + (strOfNums y544).size ≤ 9223372036854775807 then (some (t543 ++ (strOfNums y544))) else (none))))))
theorem spec_l1Dec.mono_l : ∀ k, (∀ y0, LeO (spec_l1Dec.f k y0) (spec_l1Dec.f (k + 1) y0))
 | 0 => fun _ r h => by simp [spec_l1Dec.f] at h
 | k + 1 => by
  have ih0 := spec_l1Dec.mono_l k
  ·intro y0
   unfold spec_l1Dec.f
   repeat' first
   | (with_reducible exact ih0 _)
   | (with_reducible exact LeO.refl _)
   | (with_reducible exact LeO.none _)
   | (with_reducible refine LeO.ite ?_ ?_)
   | (with_reducible refine LeO.bind ?_ (fun _ => ?_))
   | exact ih0 _
   | exact LeO.none _
   | refine LeO.ite ?_ ?_
   | refine LeO.bind ?_ (fun _ => ?_)
theorem spec_l1Dec.mono : ∀ a0 k, LeO (spec_l1Dec.f k a0) (spec_l1Dec.f (k + 1) a0) := by
 intro a0 k
 have ih0 := spec_l1Dec.mono_l k
 exact ih0 a0
def spec_l1Dec.T7 : Bool × List (List Nat × List Nat) := (true, [([], []), ([0], [0]), ([1], [1]), ([], []), ([3], [3]), ([4], [4]), ([5], [5]), ([6], [6]), ([7], [7]), ([2, 8], [2, 8]), ([9, 2, 0, 1, 2, 3, 4, 5, 6, 7, 8, 9], [9])])
def spec_l1Dec.B7 : List Nat := [0, 1, 3, 0, 8, 24, 56, 120, 248, 511, 1023]
theorem spec_l1Dec.tab7 : rtab .any (opsOf Try.f77 7) = spec_l1Dec.T7 := by kernel_rfl
theorem spec_l1Dec.bits7 : waitsOk spec_l1Dec.T7.2 spec_l1Dec.B7 = true := by kernel_rfl
set_option maxHeartbeats 8000000 in
set_option maxRecDepth 100000 in
theorem spec_l1Dec.calls (k : Nat) : ∀ (a0 : Int) (r : ByteArray) (w : World) (h : spec_l1Dec.f k a0 = some r),
  Calls Try.prog 77 #[.int .i64 a0] w fun e w' => e = .returned (.string r) ∧ Below w.heap.size w w' := by
 induction k using Nat.strongRecOn with
 | _ k ih =>
 intro a0 r w h
 cases k with
 | zero => exact absurd h (by simp [spec_l1Dec.f])
 | succ k =>
 simp only [spec_l1Dec.f] at h
 have HB := zA (Below.refl w.heap.size w)
 have H : (if a0 < (-9223372036854775807) then (some (⟨#[45, 57, 50, 50, 51, 51, 55, 50, 48, 51, 54, 56, 53, 52, 55, 55, 53, 56, 48, 56]⟩ : ByteArray)) else (if a0 < 0 then ((spec_l1Dec.f k (wrap64 (-a0))).bind fun t539 => (if 1 + t539.size ≤ 9223372036854775807 then (some ((⟨#[45]⟩ : ByteArray) ++ t539)) else (none))) else (if a0 < 10 then (some (strOfNums (([(wrap64 (48 + a0)) % 256] : List Int)))) else ((spec_l1Dec.f k (wrap64 (Int.tdiv a0 10))).bind fun t543 => ((some (([(wrap64 (48 + (Int.tmod a0 10))) % 256] : List Int) : List Int)).bind fun y544 => (if t543.size + (strOfNums y544).size ≤ 9223372036854775807 then (some (t543 ++ (strOfNums y544))) else (none))))))) = some r := h
 clear h
 by_cases c2 : a0 < (-9223372036854775807)
 ·rw [if_pos c2] at H
  have c2b0 : decide (a0 < (-9223372036854775807)) = true := decide_eq_true c2
  clear c2
  obtain rfl := Option.some.inj H
  go_enter Try.func77, Try.ntmps77
  go_wp2
  go_ret
  exact ⟨by first | rfl | (simp [errW_none, errW_some] <;> rfl) | (simp [*, errW_none, errW_some] <;> rfl), by repeat (first | (with_reducible first | exact HB.out | apply zG | apply zE | apply zF) | exact HB.out)⟩
 ·rw [if_neg c2] at H
  have c2b0 : decide (a0 < (-9223372036854775807)) = false := decide_eq_false c2
  clear c2
  by_cases c3 : a0 < 0
  ·rw [if_pos c3] at H
   have c3b0 : decide (a0 < 0) = true := decide_eq_true c3
   clear c3
   replace H := Option.bind_eq_some_iff.mp H
   obtain ⟨t539, A40, H⟩ := H
   replace H : (if 1 + t539.size ≤ 9223372036854775807 then (some ((⟨#[45]⟩ : ByteArray) ++ t539)) else (none)) = some r := H
   have A4 := zA A40
   clear A40
   by_cases c5 : 1 + t539.size ≤ 9223372036854775807
   ·rw [if_pos c5] at H
    have c5b0 := eq_true c5
    have c5b1 : decide (1 + t539.size ≤ 9223372036854775807) = true := decide_eq_true c5
    try have c5b2 : (9223372036854775807 < 1 + t539.size) = False := eq_false (Nat.not_lt.2 c5)
    obtain rfl := Option.some.inj H
    go_enter Try.func77, Try.ntmps77
    go_wp2_with (first | ((with_reducible refine zT (f := 77) rfl ?_); refine goesL_ (some 9) rfl rfl Try.func77 (by kernel_rfl) rfl #[.int .i64 (wrap64 (-a0))] rfl (by (try simp only [zW, yA, yB]); first | done | rfl | (simp only [zX, zZ]; rfl)) ?_; (with_reducible refine (ih k (by omega) (wrap64 (-a0)) t539 _ A4.out).mono ?_); rintro e w6 ⟨rfl, hb⟩; refine ⟨_, rfl, ?_⟩; have n0_ := zA (zQ (by repeat (first | (with_reducible first | exact HB.out | apply zG | apply zE | apply zF) | exact HB.out)) hb); clear HB; have HB := n0_; clear n0_; (try clear hb); (try clear hb2); (try clear hk); (try clear hi)))
    go_ret
    exact ⟨by first | rfl | (simp [errW_none, errW_some] <;> rfl) | (simp [*, errW_none, errW_some] <;> rfl), by repeat (first | (with_reducible first | exact HB.out | apply zG | apply zE | apply zF) | exact HB.out)⟩
   ·rw [if_neg c5] at H
    exact absurd H (by simp)
  ·rw [if_neg c3] at H
   have c3b0 : decide (a0 < 0) = false := decide_eq_false c3
   clear c3
   by_cases c7 : a0 < 10
   ·rw [if_pos c7] at H
    have c7b0 : decide (a0 < 10) = true := decide_eq_true c7
    clear c7
    obtain ⟨y540, hy540⟩ : ∃ y_ : List Int, y_ = (([(wrap64 (48 + a0)) % 256] : List Int)) := ⟨_, rfl⟩
    replace H : (some (strOfNums y540)) = some r := by first | (rw [hy540]; with_reducible exact H) | (have H2_ := (Option.bind_some _ _).symm.trans H; rw [hy540]; with_reducible exact H2_) | (have H2_ := (Option.bind_some _ _).symm.trans H; with_reducible exact H2_) | with_reducible exact H | (rw [hy540]; exact H) | exact H
    have Ny540 := zA hy540
    clear hy540
    obtain rfl := Option.some.inj H
    go_enter Try.func77, Try.ntmps77
    go_wp2_with (first | ((with_reducible refine zS (N := 16) rfl ?_); refine Kd.R_lit (Kd.int .u8) _ 5 ?hg (N := 16) ?hd (xs := ([(wrap64 (48 + a0)) % 256] : List Int)) (inner := [.int .u8 ((wrap64 (48 + a0)) % 256)]) (ok := fun _ => True) (okp := fun _ => True) ?hr ?hp (fun _ hk => hk) trivial (Below.refl _ _) (Nat.le_refl _) (by simp) ?_; (case hd => rfl); (case hg => rfl); (case hr => first | (go_simp; done) | (go_simp; rfl)); (case hp => exact (Reps.one (show Kd.M (Kd.int .u8) _ _ _ ((wrap64 (48 + a0)) % 256) [.int .u8 ((wrap64 (48 + a0)) % 256)] from rfl) (Reps.none _ _))); intro v541 w8 ho9 hb hg_ hnew_; clear hg_ hnew_; (first | rw [← Ny540.out] at ho9 | (simp only [Int.reduceToNat] at ho9; rw [← Ny540.out] at ho9)); have n0_ := zA (Kd.R_lower ho9 (zR (by repeat (first | (with_reducible first | exact HB.out | apply zG | apply zE | apply zF) | exact HB.out)))); have n1_ := zA (zQ (by repeat (first | (with_reducible first | exact HB.out | apply zG | apply zE | apply zF) | exact HB.out)) hb); clear HB; have HO542 := n0_; have HB := n1_; clear n0_ n1_; clear hb ho9; have hcv10 := own_string (P := Try.prog) Try.underlying22 Try.underlying5 Try.underlying9 (Kd.own_of_R HO542.out)))
    go_ret
    exact ⟨by first | rfl | (simp [errW_none, errW_some] <;> rfl) | (simp [*, errW_none, errW_some] <;> rfl), by repeat (first | (with_reducible first | exact HB.out | apply zG | apply zE | apply zF) | exact HB.out)⟩
   ·rw [if_neg c7] at H
    have c7b0 : decide (a0 < 10) = false := decide_eq_false c7
    clear c7
    replace H := Option.bind_eq_some_iff.mp H
    obtain ⟨t543, A110, H⟩ := H
    replace H : ((some (([(wrap64 (48 + (Int.tmod a0 10))) % 256] : List Int) : List Int)).bind fun y544 => (if t543.size + (strOfNums y544).size ≤ 9223372036854775807 then (some (t543 ++ (strOfNums y544))) else (none))) = some r := H
    have A11 := zA A110
    clear A110
    obtain ⟨y544, hy544⟩ : ∃ y_ : List Int, y_ = (([(wrap64 (48 + (Int.tmod a0 10))) % 256] : List Int)) := ⟨_, rfl⟩
    replace H : (if t543.size + (strOfNums y544).size ≤ 9223372036854775807 then (some (t543 ++ (strOfNums y544))) else (none)) = some r := by first | (rw [hy544]; with_reducible exact H) | (have H2_ := (Option.bind_some _ _).symm.trans H; rw [hy544]; with_reducible exact H2_) | (have H2_ := (Option.bind_some _ _).symm.trans H; with_reducible exact H2_) | with_reducible exact H | (rw [hy544]; exact H) | exact H
    have Ny544 := zA hy544
    clear hy544
    by_cases c12 : t543.size + (strOfNums y544).size ≤ 9223372036854775807
    ·rw [if_pos c12] at H
     have c12b0 := eq_true c12
     have c12b1 : decide (t543.size + (strOfNums y544).size ≤ 9223372036854775807) = true := decide_eq_true c12
     try have c12b2 : (9223372036854775807 < t543.size + (strOfNums y544).size) = False := eq_false (Nat.not_lt.2 c12)
     obtain rfl := Option.some.inj H
     go_enter Try.func77, Try.ntmps77
     try go_wp2
     have n0_ := zA (zF HB.out)
     clear HB
     have HB := n0_
     clear n0_
     refine start_ (n := 11) (S := fun w' => True) (ds := []) #[false, false, false, false, false, false, false, false, false, false, false] (by kernel_rfl) rfl rfl trivial (fun hHeld => ?_); refine with_tabW spec_l1Dec.tab7 spec_l1Dec.bits7 (fun HT_ HW_ => ?_)
     generalize w.drew = w13 at HB hHeld ⊢
     refine pure_ (i := 0) (N := some 18) (v := ?_) (a' := ?_) #[true, false, false, false, false, false, false, false, false, false, false] rfl rfl (any_of HT_.out (by kernel_rfl)) (fun _ _ _ h => h) (Or.inl ⟨by rfl, ?_⟩) ?_ ?_
     rotate_left
     ·intro w'
      go_simp
      with_reducible rfl
     rotate_left
     ·simp only [Act.put, zL, zM, zN, i64_w, i32_w]
      rfl
     refine pure_ (i := 1) (N := some 19) (v := ?_) (a' := ?_) #[true, true, false, false, false, false, false, false, false, false, false] rfl rfl (any_of HT_.out (by kernel_rfl)) (fun _ _ _ h => h) (Or.inl ⟨by rfl, ?_⟩) ?_ ?_
     rotate_left
     ·intro w'
      go_simp
      with_reducible rfl
     rotate_left
     ·simp only [Act.put, zL, zM, zN, i64_w, i32_w]
      rfl
     refine pure_ (i := 3) (N := some 21) (v := ?_) (a' := ?_) #[true, true, false, true, false, false, false, false, false, false, false] rfl rfl (any_of HT_.out (by kernel_rfl)) (fun _ _ _ h => h) (Or.inl ⟨by rfl, ?_⟩) ?_ ?_
     rotate_left
     ·intro w'
      go_simp
      with_reducible rfl
     rotate_left
     ·simp only [Act.put, zL, zM, zN, i64_w, i32_w]
      rfl
     refine pure_ (i := 4) (N := some 22) (v := ?_) (a' := ?_) #[true, true, false, true, true, false, false, false, false, false, false] rfl rfl (any_of HT_.out (by kernel_rfl)) (fun _ _ _ h => h) (Or.inl ⟨by rfl, ?_⟩) ?_ ?_
     rotate_left
     ·intro w'
      go_simp
      with_reducible rfl
     rotate_left
     ·simp only [Act.put, zL, zM, zN, i64_w, i32_w]
      rfl
     refine pure_ (i := 5) (N := some 23) (v := ?_) (a' := ?_) #[true, true, false, true, true, true, false, false, false, false, false] rfl rfl (any_of HT_.out (by kernel_rfl)) (fun _ _ _ h => h) (Or.inl ⟨by rfl, ?_⟩) ?_ ?_
     rotate_left
     ·intro w'
      go_simp
      with_reducible rfl
     rotate_left
     ·simp only [Act.put, zL, zM, zN, i64_w, i32_w]
      rfl
     refine pure_ (i := 6) (N := some 24) (v := ?_) (a' := ?_) #[true, true, false, true, true, true, true, false, false, false, false] rfl rfl (any_of HT_.out (by kernel_rfl)) (fun _ _ _ h => h) (Or.inl ⟨by rfl, ?_⟩) ?_ ?_
     rotate_left
     ·intro w'
      go_simp
      with_reducible rfl
     rotate_left
     ·simp only [Act.put, zL, zM, zN, i64_w, i32_w]
      rfl
     refine join_ (σ := Value) 2 #[true, true, true, true, true, true, true, true, true, false, false] (fun s_ => [(20, .string t543), (25, s_), (26, .string (strOfNums y544))]) (fun s_ w' => (Kd.R (Kd.int .u8) 5 w' w.heap.size (fun _ => True) s_ y544) ∧ (Below w.heap.size w w')) ?_ ?_
     rotate_left
     ·intro hCont
      refine two_ (i := 2) (j := 7) (Ni := some 20) (Nj := some 25) #[true, true, true, true, true, true, true, false, false, false, false] #[true, true, false, true, true, true, true, true, false, false, false] rfl rfl rfl rfl (two_of HT_.out (by kernel_rfl)) (by decide) (by decide) (fun K hK => ?_) (fun K hK => ?_)
      ·skip
       refine goes_ Try.func77 (by kernel_rfl) rfl #[.int .i64 (wrap64 (Int.tdiv a0 10))] (by rfl) rfl rfl (by (try simp only [zW, yA, yB]); first | done | rfl | (simp only [zX, zZ]; rfl)) ?_
       with_reducible refine (ih k (by omega) (wrap64 (Int.tdiv a0 10)) t543 _ A11.out).mono ?_
       rintro e w14 ⟨rfl, hb⟩
       refine ⟨_, rfl, ?_⟩
       have n0_ := zA (zQ (by repeat (first | (with_reducible first | exact HB.out | apply zG | apply zE | apply zF) | exact HB.out)) hb)
       clear HB
       have HB := n0_
       clear n0_
       (try clear hb)
       (try clear hb2)
       (try clear hk)
       (try clear hi)
       refine hK.out _ _ trivial (fun hHeld => ?_)
       clear hK K
       refine norm_ (a' := ?_) ?_ ?_
       rotate_left
       ·show Act.put _ (some 20) _ = _
        simp only [Act.put, zL, zM, zN, i64_w, i32_w]
        rfl
       refine one_ (i := 7) (N := some 25) #[true, true, true, true, true, true, true, true, false, false, false] rfl rfl (one_of HT_.out (by kernel_rfl)) (by decide) (fun K hK => ?_)
       refine Kd.R_lit_step (Kd.int .u8) _ 5 ?hg (N := 25) ?hd (xs := ([(wrap64 (48 + (Int.tmod a0 10))) % 256] : List Int)) (inner := [.int .u8 ((wrap64 (48 + (Int.tmod a0 10))) % 256)]) (ok := fun _ => True) (okp := fun _ => True) ?hr ?hp (fun _ hk => hk) trivial (Below.refl _ _) (Nat.le_refl _) (by simp) ?_; (case hd => rfl); (case hg => rfl); (case hr => first | (go_simp; done) | (go_simp; rfl)); (case hp => exact (Reps.one (show Kd.M (Kd.int .u8) _ _ _ ((wrap64 (48 + (Int.tmod a0 10))) % 256) [.int .u8 ((wrap64 (48 + (Int.tmod a0 10))) % 256)] from rfl) (Reps.none _ _)))
       intro v545 w15 ho16 hb hg_ hnew_
       clear hg_ hnew_
       (first | rw [← Ny544.out] at ho16 | (simp only [Int.reduceToNat] at ho16; rw [← Ny544.out] at ho16))
       have n0_ := zA (Kd.R_lower ho16 (zR (by repeat (first | (with_reducible first | exact HB.out | apply zG | apply zE | apply zF) | exact HB.out))))
       have n1_ := zA (zQ (by repeat (first | (with_reducible first | exact HB.out | apply zG | apply zE | apply zF) | exact HB.out)) hb)
       clear HB
       have HO546 := n0_
       have HB := n1_
       clear n0_ n1_
       clear hb ho16
       refine hK.out _ _ trivial (fun hHeld => ?_)
       clear hK K
       refine norm_ (a' := ?_) ?_ ?_
       rotate_left
       ·show Act.put _ (some 25) _ = _
        simp only [Act.put, zL, zM, zN, i64_w, i32_w]
        rfl
       refine one_ (i := 8) (N := some 26) #[true, true, true, true, true, true, true, true, true, false, false] rfl rfl (one_of HT_.out (by kernel_rfl)) (by decide) (fun K hK => ?_)
       have hcv17 := own_string (P := Try.prog) Try.underlying22 Try.underlying5 Try.underlying9 (Kd.own_of_R HO546.out)
       refine value_ (w1 := ?_) (v := ?_) (by rfl) rfl ?_ ?_
       rotate_left 2
       ·go_simp
        constructor
        ·rfl
        ·rfl
       clear hcv17
       refine hK.out _ _ trivial (fun hHeld => ?_)
       clear hK K
       refine norm_ (a' := ?_) ?_ ?_
       rotate_left
       ·show Act.put _ (some 26) _ = _
        simp only [Act.put, zL, zM, zN, i64_w, i32_w]
        rfl
       exact norm_ (by simp only [putAll, Act.put, zL, zM, zN]) (hCont (v545) _ ⟨(by (with_reducible repeat (first | apply Kd.R_alloc | apply Kd.R_drewN | apply Kd.R_drew)); exact HO546.out), (by repeat (first | (with_reducible first | exact HB.out | apply zG | apply zE | apply zF) | exact HB.out))⟩)
      ·skip
       refine Kd.R_lit_step (Kd.int .u8) _ 5 ?hg (N := 25) ?hd (xs := ([(wrap64 (48 + (Int.tmod a0 10))) % 256] : List Int)) (inner := [.int .u8 ((wrap64 (48 + (Int.tmod a0 10))) % 256)]) (ok := fun _ => True) (okp := fun _ => True) ?hr ?hp (fun _ hk => hk) trivial (Below.refl _ _) (Nat.le_refl _) (by simp) ?_; (case hd => rfl); (case hg => rfl); (case hr => first | (go_simp; done) | (go_simp; rfl)); (case hp => exact (Reps.one (show Kd.M (Kd.int .u8) _ _ _ ((wrap64 (48 + (Int.tmod a0 10))) % 256) [.int .u8 ((wrap64 (48 + (Int.tmod a0 10))) % 256)] from rfl) (Reps.none _ _)))
       intro v545 w14 ho15 hb hg_ hnew_
       clear hg_ hnew_
       (first | rw [← Ny544.out] at ho15 | (simp only [Int.reduceToNat] at ho15; rw [← Ny544.out] at ho15))
       have n0_ := zA (Kd.R_lower ho15 (zR (by repeat (first | (with_reducible first | exact HB.out | apply zG | apply zE | apply zF) | exact HB.out))))
       have n1_ := zA (zQ (by repeat (first | (with_reducible first | exact HB.out | apply zG | apply zE | apply zF) | exact HB.out)) hb)
       clear HB
       have HO546 := n0_
       have HB := n1_
       clear n0_ n1_
       clear hb ho15
       refine hK.out _ _ trivial (fun hHeld => ?_)
       clear hK K
       refine norm_ (a' := ?_) ?_ ?_
       rotate_left
       ·show Act.put _ (some 25) _ = _
        simp only [Act.put, zL, zM, zN, i64_w, i32_w]
        rfl
       refine two_ (i := 2) (j := 8) (Ni := some 20) (Nj := some 26) #[true, true, true, true, true, true, true, true, false, false, false] #[true, true, false, true, true, true, true, true, true, false, false] rfl rfl rfl rfl (two_of HT_.out (by kernel_rfl)) (by decide) (by decide) (fun K hK => ?_) (fun K hK => ?_)
       ·skip
        refine goes_ Try.func77 (by kernel_rfl) rfl #[.int .i64 (wrap64 (Int.tdiv a0 10))] (by rfl) rfl rfl (by (try simp only [zW, yA, yB]); first | done | rfl | (simp only [zX, zZ]; rfl)) ?_
        with_reducible refine (ih k (by omega) (wrap64 (Int.tdiv a0 10)) t543 _ A11.out).mono ?_
        rintro e w16 ⟨rfl, hb⟩
        refine ⟨_, rfl, ?_⟩
        have n0_ := zA (Kd.R_below (by (with_reducible repeat (first | apply Kd.R_alloc | apply Kd.R_drewN | apply Kd.R_drew)); exact HO546.out) hb)
        have n1_ := zA (zQ (by repeat (first | (with_reducible first | exact HB.out | apply zG | apply zE | apply zF) | exact HB.out)) hb)
        clear HO546
        clear HB
        have HO546 := n0_
        have HB := n1_
        clear n0_ n1_
        (try clear hb)
        (try clear hb2)
        (try clear hk)
        (try clear hi)
        refine hK.out _ _ trivial (fun hHeld => ?_)
        clear hK K
        refine norm_ (a' := ?_) ?_ ?_
        rotate_left
        ·show Act.put _ (some 20) _ = _
         simp only [Act.put, zL, zM, zN, i64_w, i32_w]
         rfl
        refine one_ (i := 8) (N := some 26) #[true, true, true, true, true, true, true, true, true, false, false] rfl rfl (one_of HT_.out (by kernel_rfl)) (by decide) (fun K hK => ?_)
        have hcv17 := own_string (P := Try.prog) Try.underlying22 Try.underlying5 Try.underlying9 (Kd.own_of_R HO546.out)
        refine value_ (w1 := ?_) (v := ?_) (by rfl) rfl ?_ ?_
        rotate_left 2
        ·go_simp
         constructor
         ·rfl
         ·rfl
        clear hcv17
        refine hK.out _ _ trivial (fun hHeld => ?_)
        clear hK K
        refine norm_ (a' := ?_) ?_ ?_
        rotate_left
        ·show Act.put _ (some 26) _ = _
         simp only [Act.put, zL, zM, zN, i64_w, i32_w]
         rfl
        exact norm_ (by simp only [putAll, Act.put, zL, zM, zN]) (hCont (v545) _ ⟨(by (with_reducible repeat (first | apply Kd.R_alloc | apply Kd.R_drewN | apply Kd.R_drew)); exact HO546.out), (by repeat (first | (with_reducible first | exact HB.out | apply zG | apply zE | apply zF) | exact HB.out))⟩)
       ·skip
        have hcv16 := own_string (P := Try.prog) Try.underlying22 Try.underlying5 Try.underlying9 (Kd.own_of_R HO546.out)
        refine value_ (w1 := ?_) (v := ?_) (by rfl) rfl ?_ ?_
        rotate_left 2
        ·go_simp
         constructor
         ·rfl
         ·rfl
        clear hcv16
        refine hK.out _ _ trivial (fun hHeld => ?_)
        clear hK K
        refine norm_ (a' := ?_) ?_ ?_
        rotate_left
        ·show Act.put _ (some 26) _ = _
         simp only [Act.put, zL, zM, zN, i64_w, i32_w]
         rfl
        refine one_ (i := 2) (N := some 20) #[true, true, true, true, true, true, true, true, true, false, false] rfl rfl (one_of HT_.out (by kernel_rfl)) (by decide) (fun K hK => ?_)
        refine goes_ Try.func77 (by kernel_rfl) rfl #[.int .i64 (wrap64 (Int.tdiv a0 10))] (by rfl) rfl rfl (by (try simp only [zW, yA, yB]); first | done | rfl | (simp only [zX, zZ]; rfl)) ?_
        with_reducible refine (ih k (by omega) (wrap64 (Int.tdiv a0 10)) t543 _ A11.out).mono ?_
        rintro e w17 ⟨rfl, hb⟩
        refine ⟨_, rfl, ?_⟩
        have n0_ := zA (Kd.R_below (by (with_reducible repeat (first | apply Kd.R_alloc | apply Kd.R_drewN | apply Kd.R_drew)); exact HO546.out) hb)
        have n1_ := zA (zQ (by repeat (first | (with_reducible first | exact HB.out | apply zG | apply zE | apply zF) | exact HB.out)) hb)
        clear HO546
        clear HB
        have HO546 := n0_
        have HB := n1_
        clear n0_ n1_
        (try clear hb)
        (try clear hb2)
        (try clear hk)
        (try clear hi)
        refine hK.out _ _ trivial (fun hHeld => ?_)
        clear hK K
        refine norm_ (a' := ?_) ?_ ?_
        rotate_left
        ·show Act.put _ (some 20) _ = _
         simp only [Act.put, zL, zM, zN, i64_w, i32_w]
         rfl
        exact norm_ (by simp only [putAll, Act.put, zL, zM, zN]) (hCont (v545) _ ⟨(by (with_reducible repeat (first | apply Kd.R_alloc | apply Kd.R_drewN | apply Kd.R_drew)); exact HO546.out), (by repeat (first | (with_reducible first | exact HB.out | apply zG | apply zE | apply zF) | exact HB.out))⟩)
     rintro v545 w18 ⟨h0_, h1_⟩
     have n0_ : Aside0 (Kd.R (Kd.int .u8) 5 w18 w.heap.size (fun _ => True) v545 y544) := ⟨h0_⟩
     have n1_ : Aside0 (Below w.heap.size w w18) := ⟨h1_⟩
     clear HB
     clear h0_ h1_
     have HO546 := n0_
     have HB := n1_
     clear n0_ n1_
     have hHeld := trivial
     refine norm_ (a' := ?_) ?_ ?_
     rotate_left
     ·simp only [putAll, Act.put, zL, zM, zN]
      rfl
     refine pure_ (i := 9) (N := some 27) (v := ?_) (a' := ?_) #[true, true, true, true, true, true, true, true, true, true, false] rfl rfl (any_of HT_.out (by kernel_rfl)) (fun _ _ _ h => h) (Or.inl ⟨by rfl, ?_⟩) ?_ ?_
     rotate_left
     ·intro w'
      go_simp
      with_reducible rfl
     rotate_left
     ·simp only [Act.put, zL, zM, zN, i64_w, i32_w]
      rfl
     refine pure_ (i := 10) (N := some 2) (v := ?_) (a' := ?_) #[true, true, true, true, true, true, true, true, true, true, true] rfl rfl (any_of HT_.out (by kernel_rfl)) (fun _ _ _ h => h) (Or.inl ⟨by rfl, ?_⟩) ?_ ?_
     rotate_left
     ·intro w'
      go_simp
      with_reducible rfl
     rotate_left
     ·simp only [Act.put, zL, zM, zN, i64_w, i32_w]
      rfl
     refine done_ (done_of HT_.out (by kernel_rfl)) ?_
     try go_wp2
     go_ret
     exact ⟨by first | rfl | (simp [errW_none, errW_some] <;> rfl) | (simp [*, errW_none, errW_some] <;> rfl), by repeat (first | (with_reducible first | exact HB.out | apply zG | apply zE | apply zF) | exact HB.out)⟩
    ·rw [if_neg c12] at H
     exact absurd H (by simp)

end Go.Proofs.Ytmoaolcioihjnaa.Q

namespace Go.Proofs.Ytmoaolcioihjnaa.Q
open Go.RowKit Go.Proofs.YtmoaolcioihjnaaW.PrintWords Go.Proofs.YtmoaolcioihjnaaW.PrintLast Go.Proofs.YtmoaolcioihjnaaW.PrintMore Go.Proofs.YtmoaolcioihjnaaX
attribute [local go_sem] max2_int min2_int max_two min_two max_three min_three max_four min_four   -- for this text's walks alone
set_option linter.unusedVariables false
set_option linter.unusedSimpArgs false

def spec_l1Digits.f (k : Nat) (a0 : Int) : Option (Int) := (spec_l1Dec.f k a0).bind fun t547 => (some (t547.size : Int))
theorem spec_l1Digits.mono : ∀ a0 k, LeO (spec_l1Digits.f k a0) (spec_l1Digits.f (k + 1) a0) := by
 intro a0 k
 unfold spec_l1Digits.f
 repeat' first
   | (with_reducible exact spec_l1Dec.mono _ _)
   | (with_reducible exact LeO.refl _)
   | (with_reducible exact LeO.none _)
   | (with_reducible refine LeO.ite ?_ ?_)
   | (with_reducible refine LeO.bind ?_ (fun _ => ?_))
   | exact spec_l1Dec.mono _ _
   | exact LeO.none _
   | refine LeO.ite ?_ ?_
   | refine LeO.bind ?_ (fun _ => ?_)
set_option maxHeartbeats 8000000 in
set_option maxRecDepth 100000 in
theorem spec_l1Digits.calls (k : Nat) (a0 : Int) (r : Int) (w : World) (h : spec_l1Digits.f k a0 = some r) :
  Calls Try.prog 72 #[.int .i64 a0] w fun e w' => e = .returned (.int .i64 r) ∧ Below w.heap.size w w' := by
 have HB := zA (Below.refl w.heap.size w)
 have H : ((spec_l1Dec.f k a0).bind fun t547 => (some (t547.size : Int))) = some r := h
 clear h
 replace H := Option.bind_eq_some_iff.mp H
 obtain ⟨t547, A20, H⟩ := H
 replace H : (some (t547.size : Int)) = some r := H
 have A2 := zA A20
 clear A20
 obtain rfl := Option.some.inj H
 go_enter Try.func72, Try.ntmps72
 go_wp2_with (first | ((with_reducible refine zT (f := 77) rfl ?_); refine goesL_ (some 4) rfl rfl Try.func77 (by kernel_rfl) rfl #[.int .i64 a0] rfl (by (try simp only [zW, yA, yB]); first | done | rfl | (simp only [zX, zZ]; rfl)) ?_; (with_reducible refine (spec_l1Dec.calls k a0 t547 _ A2.out).mono ?_); rintro e w3 ⟨rfl, hb⟩; refine ⟨_, rfl, ?_⟩; have n0_ := zA (zQ (by repeat (first | (with_reducible first | exact HB.out | apply zG | apply zE | apply zF) | exact HB.out)) hb); clear HB; have HB := n0_; clear n0_; (try clear hb); (try clear hb2); (try clear hk); (try clear hi)))
 go_ret
 exact ⟨by first | rfl | (simp [errW_none, errW_some] <;> rfl) | (simp [*, errW_none, errW_some] <;> rfl), by repeat (first | (with_reducible first | exact HB.out | apply zG | apply zE | apply zF) | exact HB.out)⟩

end Go.Proofs.Ytmoaolcioihjnaa.Q

namespace Go.Proofs.Ytmoaolcioihjnaa.Q
open Go.RowKit Go.Proofs.YtmoaolcioihjnaaW.PrintWords Go.Proofs.YtmoaolcioihjnaaW.PrintLast Go.Proofs.YtmoaolcioihjnaaW.PrintMore Go.Proofs.YtmoaolcioihjnaaX
attribute [local go_sem] max2_int min2_int max_two min_two max_three min_three max_four min_four   -- for this text's walks alone
set_option linter.unusedVariables false
set_option linter.unusedSimpArgs false

mutual
def spec_l1Cmp.l0 : Nat → Int → Int → Int → Int → Int → Int → Int → Option (Int)
 | 0, _, _, _, _, _, _, _ => none
 | k + 1, x7, x8, x9, x549000, x549001, x550000, x550001 => if x9 > x550001 then (spec_l1Cmp.l0 k (wrap64 (x7 * 10)) x8 (wrap64 (x9 - 1)) x549000 x549001 x550000 x550001) else (spec_l1Cmp.l1 k x7 x8 x550001 x549000 x549001)
def spec_l1Cmp.l1 : Nat → Int → Int → Int → Int → Int → Option (Int)
 | 0, _, _, _, _, _ => none
 | k + 1, x7, x8, x10, x549000, x549001 => if x10 > x549001 then (spec_l1Cmp.l1 k x7 (wrap64 (x8 * 10)) (wrap64 (x10 - 1)) x549000 x549001) else ((spec_l1Sign.f (wrap64 (x7 - x8))).bind fun t561 => (some t561))
end
def spec_l1Cmp.f (k : Nat) (a0_0 : Int) (a0_1 : Int) (a1_0 : Int) (a1_1 : Int) : Option (Int) := (spec_l1Sign.f a0_0).bind fun t550 => ((spec_l1Sign.f a1_0).bind fun t551 => (if t550 = t551 then (if a0_0 = 0 then (some 0) else ((spec_l1Abs.f a0_0).bind fun t555 => ((spec_l1Digits.f k t555).bind fun t556 => ((spec_l1Abs.f a1_0).bind fun t557 => ((spec_l1Digits.f k t557).bind fun t558 => (if (wrap64 (t556 + a0_1)) = (wrap64 (t558 + a1_1)) then (spec_l1Cmp.l0 k a0_0 a1_0 a0_1 a0_0 a0_1 a1_0 a1_1) else ((spec_l1Sign.f (wrap64 ((wrap64 (t556 + a0_1)) - (wrap64 (t558 + a1_1))))).bind fun t559 => ((spec_l1Sign.f a0_0).bind fun t560 => (some (wrap64 (t559 * t560))))))))))) else ((spec_l1Sign.f a0_0).bind fun t552 => ((spec_l1Sign.f a1_0).bind fun t553 => ((spec_l1Sign.f (wrap64 (t552 - t553))).bind fun t554 => (some t554))))))
theorem spec_l1Cmp.mono_l : ∀ k, (∀ y0 y1 y2 y3 y4 y5 y6, LeO (spec_l1Cmp.l0 k y0 y1 y2 y3 y4 y5 y6) (spec_l1Cmp.l0 (k + 1) y0 y1 y2 y3 y4 y5 y6)) ∧ (∀ y0 y1 y2 y3 y4, LeO (spec_l1Cmp.l1 k y0 y1 y2 y3 y4) (spec_l1Cmp.l1 (k + 1) y0 y1 y2 y3 y4))
 | 0 => ⟨fun _ _ _ _ _ _ _ r h => by simp [spec_l1Cmp.l0] at h, fun _ _ _ _ _ r h => by simp [spec_l1Cmp.l1] at h⟩
 | k + 1 => by
  obtain ⟨ih0, ih1⟩ := spec_l1Cmp.mono_l k
  refine ⟨?_, ?_⟩
  ·intro y0 y1 y2 y3 y4 y5 y6
   unfold spec_l1Cmp.l0
   repeat' first
   | (with_reducible exact ih0 _ _ _ _ _ _ _)
   | (with_reducible exact ih1 _ _ _ _ _)
   | (with_reducible exact spec_l1Digits.mono _ _)
   | (with_reducible exact LeO.refl _)
   | (with_reducible exact LeO.none _)
   | (with_reducible refine LeO.ite ?_ ?_)
   | (with_reducible refine LeO.bind ?_ (fun _ => ?_))
   | exact ih0 _ _ _ _ _ _ _
   | exact ih1 _ _ _ _ _
   | exact spec_l1Digits.mono _ _
   | exact LeO.none _
   | refine LeO.ite ?_ ?_
   | refine LeO.bind ?_ (fun _ => ?_)
  ·intro y0 y1 y2 y3 y4
   unfold spec_l1Cmp.l1
   repeat' first
   | (with_reducible exact ih0 _ _ _ _ _ _ _)
   | (with_reducible exact ih1 _ _ _ _ _)
   | (with_reducible exact spec_l1Digits.mono _ _)
   | (with_reducible exact LeO.refl _)
   | (with_reducible exact LeO.none _)
   | (with_reducible refine LeO.ite ?_ ?_)
   | (with_reducible refine LeO.bind ?_ (fun _ => ?_))
   | exact ih0 _ _ _ _ _ _ _
   | exact ih1 _ _ _ _ _
   | exact spec_l1Digits.mono _ _
   | exact LeO.none _
   | refine LeO.ite ?_ ?_
   | refine LeO.bind ?_ (fun _ => ?_)
theorem spec_l1Cmp.mono : ∀ a0 a1 a2 a3 k, LeO (spec_l1Cmp.f k a0 a1 a2 a3) (spec_l1Cmp.f (k + 1) a0 a1 a2 a3) := by
 intro a0 a1 a2 a3 k
 obtain ⟨ih0, ih1⟩ := spec_l1Cmp.mono_l k
 unfold spec_l1Cmp.f
 repeat' first
   | (with_reducible exact ih0 _ _ _ _ _ _ _)
   | (with_reducible exact ih1 _ _ _ _ _)
   | (with_reducible exact spec_l1Digits.mono _ _)
   | (with_reducible exact LeO.refl _)
   | (with_reducible exact LeO.none _)
   | (with_reducible refine LeO.ite ?_ ?_)
   | (with_reducible refine LeO.bind ?_ (fun _ => ?_))
   | exact ih0 _ _ _ _ _ _ _
   | exact ih1 _ _ _ _ _
   | exact spec_l1Digits.mono _ _
   | exact LeO.none _
   | refine LeO.ite ?_ ?_
   | refine LeO.bind ?_ (fun _ => ?_)
def spec_l1Cmp.T2 : Bool × List (List Nat × List Nat) := (true, [([], []), ([0], [0]), ([1], [1]), ([], []), ([3], [3]), ([4, 2], [4]), ([2, 5], [2, 5]), ([6, 5], [6]), ([7, 7, 0, 1, 2, 3, 4, 5, 6, 7], [7])])
def spec_l1Cmp.B2 : List Nat := [0, 1, 3, 0, 8, 31, 63, 127, 255]
theorem spec_l1Cmp.tab2 : rtab .any (opsOf Try.f62 2) = spec_l1Cmp.T2 := by kernel_rfl
theorem spec_l1Cmp.bits2 : waitsOk spec_l1Cmp.T2.2 spec_l1Cmp.B2 = true := by kernel_rfl
def spec_l1Cmp.T5 : Bool × List (List Nat × List Nat) := (true, [([], []), ([0], [0]), ([1], [1]), ([2, 2], [2]), ([], []), ([4], [4]), ([3, 5], [3, 5]), ([6, 3, 0, 1, 2, 3, 4, 5, 6], [6])])
def spec_l1Cmp.B5 : List Nat := [0, 1, 3, 7, 0, 16, 63, 127]
theorem spec_l1Cmp.tab5 : rtab .any (opsOf Try.f62 5) = spec_l1Cmp.T5 := by kernel_rfl
theorem spec_l1Cmp.bits5 : waitsOk spec_l1Cmp.T5.2 spec_l1Cmp.B5 = true := by kernel_rfl
def spec_l1Cmp.T6 : Bool × List (List Nat × List Nat) := (true, [([], []), ([0], [0]), ([1], [1]), ([2, 2], [2]), ([], []), ([4], [4]), ([3, 5], [3, 5]), ([6, 3, 0, 1, 2, 3, 4, 5, 6], [6])])
def spec_l1Cmp.B6 : List Nat := [0, 1, 3, 7, 0, 16, 63, 127]
theorem spec_l1Cmp.tab6 : rtab .any (opsOf Try.f62 6) = spec_l1Cmp.T6 := by kernel_rfl
theorem spec_l1Cmp.bits6 : waitsOk spec_l1Cmp.T6.2 spec_l1Cmp.B6 = true := by kernel_rfl
def spec_l1Cmp.T8 : Bool × List (List Nat × List Nat) := (true, [([], []), ([], []), ([0, 1], [0, 1]), ([2], [2]), ([], []), ([4], [4]), ([5, 3], [5]), ([3, 6], [3, 6]), ([7, 6, 0, 1, 2, 3, 4, 5, 6, 7], [7])])
def spec_l1Cmp.B8 : List Nat := [0, 0, 3, 7, 0, 16, 63, 127, 255]
theorem spec_l1Cmp.tab8 : rtab .any (opsOf Try.f62 8) = spec_l1Cmp.T8 := by kernel_rfl
theorem spec_l1Cmp.bits8 : waitsOk spec_l1Cmp.T8.2 spec_l1Cmp.B8 = true := by kernel_rfl
set_option maxHeartbeats 8000000 in
set_option maxRecDepth 100000 in
theorem spec_l1Cmp.calls (k : Nat) (a0_0 : Int) (a0_1 : Int) (a1_0 : Int) (a1_1 : Int) (r : Int) (w : World) (h : spec_l1Cmp.f k a0_0 a0_1 a1_0 a1_1 = some r) :
  Calls Try.prog 62 #[.agg #[.int .i64 a0_0, .int .i64 a0_1], .agg #[.int .i64 a1_0, .int .i64 a1_1]] w fun e w' => e = .returned (.int .i64 r) ∧ Below w.heap.size w w' := by
 have hu26 := Try.underlying26
 have HB := zA (Below.refl w.heap.size w)
 have H : ((spec_l1Sign.f a0_0).bind fun t550 => ((spec_l1Sign.f a1_0).bind fun t551 => (if t550 = t551 then (if a0_0 = 0 then (some 0) else ((spec_l1Abs.f a0_0).bind fun t555 => ((spec_l1Digits.f k t555).bind fun t556 => ((spec_l1Abs.f a1_0).bind fun t557 => ((spec_l1Digits.f k t557).bind fun t558 => (if (wrap64 (t556 + a0_1)) = (wrap64 (t558 + a1_1)) then (spec_l1Cmp.l0 k a0_0 a1_0 a0_1 a0_0 a0_1 a1_0 a1_1) else ((spec_l1Sign.f (wrap64 ((wrap64 (t556 + a0_1)) - (wrap64 (t558 + a1_1))))).bind fun t559 => ((spec_l1Sign.f a0_0).bind fun t560 => (some (wrap64 (t559 * t560))))))))))) else ((spec_l1Sign.f a0_0).bind fun t552 => ((spec_l1Sign.f a1_0).bind fun t553 => ((spec_l1Sign.f (wrap64 (t552 - t553))).bind fun t554 => (some t554))))))) = some r := h
 clear h
 replace H := Option.bind_eq_some_iff.mp H
 obtain ⟨t550, A30, H⟩ := H
 replace H : ((spec_l1Sign.f a1_0).bind fun t551 => (if t550 = t551 then (if a0_0 = 0 then (some 0) else ((spec_l1Abs.f a0_0).bind fun t555 => ((spec_l1Digits.f k t555).bind fun t556 => ((spec_l1Abs.f a1_0).bind fun t557 => ((spec_l1Digits.f k t557).bind fun t558 => (if (wrap64 (t556 + a0_1)) = (wrap64 (t558 + a1_1)) then (spec_l1Cmp.l0 k a0_0 a1_0 a0_1 a0_0 a0_1 a1_0 a1_1) else ((spec_l1Sign.f (wrap64 ((wrap64 (t556 + a0_1)) - (wrap64 (t558 + a1_1))))).bind fun t559 => ((spec_l1Sign.f a0_0).bind fun t560 => (some (wrap64 (t559 * t560))))))))))) else ((spec_l1Sign.f a0_0).bind fun t552 => ((spec_l1Sign.f a1_0).bind fun t553 => ((spec_l1Sign.f (wrap64 (t552 - t553))).bind fun t554 => (some t554)))))) = some r := H
 have A3 := zA A30
 clear A30
 replace H := Option.bind_eq_some_iff.mp H
 obtain ⟨t551, A40, H⟩ := H
 replace H : (if t550 = t551 then (if a0_0 = 0 then (some 0) else ((spec_l1Abs.f a0_0).bind fun t555 => ((spec_l1Digits.f k t555).bind fun t556 => ((spec_l1Abs.f a1_0).bind fun t557 => ((spec_l1Digits.f k t557).bind fun t558 => (if (wrap64 (t556 + a0_1)) = (wrap64 (t558 + a1_1)) then (spec_l1Cmp.l0 k a0_0 a1_0 a0_1 a0_0 a0_1 a1_0 a1_1) else ((spec_l1Sign.f (wrap64 ((wrap64 (t556 + a0_1)) - (wrap64 (t558 + a1_1))))).bind fun t559 => ((spec_l1Sign.f a0_0).bind fun t560 => (some (wrap64 (t559 * t560))))))))))) else ((spec_l1Sign.f a0_0).bind fun t552 => ((spec_l1Sign.f a1_0).bind fun t553 => ((spec_l1Sign.f (wrap64 (t552 - t553))).bind fun t554 => (some t554))))) = some r := H
 have A4 := zA A40
 clear A40
 by_cases c5 : t550 = t551
 ·rw [if_pos c5] at H
  have c5b0 : (t550 == t551) = true := beq_iff_eq.mpr c5
  have c5b1 : (t550 != t551) = false := bne_eq_false_iff_eq.mpr c5
  clear c5
  by_cases c6 : a0_0 = 0
  ·rw [if_pos c6] at H
   have c6b0 : (a0_0 == 0) = true := beq_iff_eq.mpr c6
   have c6b1 : (a0_0 != 0) = false := bne_eq_false_iff_eq.mpr c6
   clear c6
   obtain rfl := Option.some.inj H
   go_enter Try.func62, Try.ntmps62
   try go_wp2_with (first | ((with_reducible refine zS (N := 2) rfl ?_); refine zV ?hg (N := 2) ?hd (cs := #[.int .i64 a0_0, .int .i64 a0_1]) (t := 26) ?hr ?_; (case hd => rfl); (case hg => rfl); (case hr => first | (go_simp; done) | (go_simp; rfl)); intro gb548 hg w7 hbox hb; have n0_ := zA (zQ (by repeat (first | (with_reducible first | exact HB.out | apply zG | apply zE | apply zF) | exact HB.out)) hb); have n1_ := zA (hbox); have n2_ := zA ((by rw [hg]; exact (zR (by repeat (first | (with_reducible first | exact HB.out | apply zG | apply zE | apply zF) | exact HB.out))) : w.heap.size ≤ gb548)); have n3_ := zA ((by rw [hg]; exact (zR (by repeat (first | (with_reducible first | exact HB.out | apply zG | apply zE | apply zF) | exact HB.out))) : w.heap.size ≤ gb548)); clear HB; have HB := n0_; have BK548 := n1_; have GW548 := n2_; have GE548 := n3_; clear n0_ n1_ n2_ n3_; clear hb hbox hg) | ((with_reducible refine zS (N := 3) rfl ?_); refine zV ?hg (N := 3) ?hd (cs := #[.int .i64 a1_0, .int .i64 a1_1]) (t := 26) ?hr ?_; (case hd => rfl); (case hg => rfl); (case hr => first | (go_simp; done) | (go_simp; rfl)); intro gb549 hg w8 hbox hb; have n0_ := zA (zP (g := gb548) (o := .cells #[.int .i64 a0_0, .int .i64 a0_1] 26 (0, 0)) (by (with_reducible repeat (first | refine zB ?_ _ | refine zD ?_ | refine zC ?_ _)); exact BK548.out) hb); have n1_ := zA (zQ (by repeat (first | (with_reducible first | exact HB.out | apply zG | apply zE | apply zF | refine zH ?_ GE548.out) | exact HB.out)) hb); have n2_ := zA (hbox); have n3_ := zA ((by rw [hg]; exact (zR (by repeat (first | (with_reducible first | exact HB.out | apply zG | apply zE | apply zF | refine zH ?_ GE548.out) | exact HB.out))) : w.heap.size ≤ gb549)); have n4_ := zA ((by rw [hg]; exact (zR (by repeat (first | (with_reducible first | exact HB.out | apply zG | apply zE | apply zF | refine zH ?_ GE548.out) | exact HB.out))) : w.heap.size ≤ gb549)); have n5_ := zA ((by rw [hg]; exact Nat.ne_of_lt (blk_lt (g := gb548) (o := .cells #[.int .i64 a0_0, .int .i64 a0_1] 26 (0, 0)) (by (with_reducible repeat (first | refine zB ?_ _ | refine zD ?_ | refine zC ?_ _)); exact BK548.out)) : gb548 ≠ gb549)); have n6_ := zA ((by rw [hg]; exact Nat.ne_of_gt (blk_lt (g := gb548) (o := .cells #[.int .i64 a0_0, .int .i64 a0_1] 26 (0, 0)) (by (with_reducible repeat (first | refine zB ?_ _ | refine zD ?_ | refine zC ?_ _)); exact BK548.out)) : gb549 ≠ gb548)); clear BK548; clear HB; have BK548 := n0_; have HB := n1_; have BK549 := n2_; have GW549 := n3_; have GE549 := n4_; have NB548_549 := n5_; have NB549_548 := n6_; clear n0_ n1_ n2_ n3_ n4_ n5_ n6_; clear hb hbox hg))
   have n0_ := zA (zD BK548.out)
   have n1_ := zA (zD BK549.out)
   have n2_ := zA (zF HB.out)
   clear BK548
   clear BK549
   clear HB
   have BK548 := n0_
   have BK549 := n1_
   have HB := n2_
   clear n0_ n1_ n2_
   refine start_ (n := 7) (S := fun w' => w'.cell? ⟨gb548, 0, none⟩ = some (.int .i64 a0_0) ∧ w'.cell? ⟨gb548, 1, none⟩ = some (.int .i64 a0_1) ∧ w'.cell? ⟨gb549, 0, none⟩ = some (.int .i64 a1_0) ∧ w'.cell? ⟨gb549, 1, none⟩ = some (.int .i64 a1_1)) (ds := []) #[false, false, false, false, false, false, false] (by kernel_rfl) rfl rfl ⟨(zJ BK548.out 0).trans rfl, (zJ BK548.out 1).trans rfl, (zJ BK549.out 0).trans rfl, (zJ BK549.out 1).trans rfl⟩ (fun hHeld => ?_)
   generalize w8.drew = w9 at BK548 BK549 HB hHeld ⊢
   refine pure_ (i := 0) (N := some 11) (v := ?_) (a' := ?_) #[true, false, false, false, false, false, false] rfl rfl (by kernel_rfl) (fun _ _ _ h => h) (Or.inl ⟨by rfl, ?_⟩) ?_ ?_
   rotate_left
   ·intro w'
    go_simp
    with_reducible rfl
   rotate_left
   ·simp only [Act.put, zL, zM, zN, i64_w, i32_w]
    rfl
   refine pure_ (i := 3) (N := some 14) (v := ?_) (a' := ?_) #[true, false, false, true, false, false, false] rfl rfl (by kernel_rfl) (fun _ _ _ h => h) (Or.inl ⟨by rfl, ?_⟩) ?_ ?_
   rotate_left
   ·intro w'
    go_simp
    with_reducible rfl
   rotate_left
   ·simp only [Act.put, zL, zM, zN, i64_w, i32_w]
    rfl
   refine take_ (i := 1) (N := some 12) (v := ?_) (a' := ?_) #[true, true, false, true, false, false, false] rfl rfl (by kernel_rfl) (fun _ _ _ h => h) (Or.inl ⟨by rfl, ?_⟩) hHeld ?_ ?_
   rotate_left
   ·rintro w' ⟨s0, s1, s2, s3⟩
    go_simp
    with_reducible rfl
   rotate_left
   ·simp only [Act.put, zL, zM, zN, i64_w, i32_w]
    rfl
   refine take_ (i := 4) (N := some 15) (v := ?_) (a' := ?_) #[true, true, false, true, true, false, false] rfl rfl (by kernel_rfl) (fun _ _ _ h => h) (Or.inl ⟨by rfl, ?_⟩) hHeld ?_ ?_
   rotate_left
   ·rintro w' ⟨s0, s1, s2, s3⟩
    go_simp
    with_reducible rfl
   rotate_left
   ·simp only [Act.put, zL, zM, zN, i64_w, i32_w]
    rfl
   refine one_ (i := 2) (N := some 13) #[true, true, true, true, true, false, false] rfl rfl (by kernel_rfl) (by decide) (fun K hK => ?_)
   refine goes_ Try.func71 (by kernel_rfl) rfl #[.int .i64 a0_0] (by rfl) rfl rfl (by (try simp only [zW, yA, yB]); first | done | rfl | (simp only [zX, zZ]; rfl)) ?_
   with_reducible refine (spec_l1Sign.calls a0_0 t550 _ A3.out).mono ?_
   rintro e w' ⟨rfl, ⟨nd, rfl⟩⟩
   refine ⟨_, rfl, ?_⟩
   refine hK.out _ _ ⟨(zJ BK548.out 0).trans rfl, (zJ BK548.out 1).trans rfl, (zJ BK549.out 0).trans rfl, (zJ BK549.out 1).trans rfl⟩ (fun hHeld => ?_)
   clear hK K
   refine norm_ (a' := ?_) ?_ ?_
   rotate_left
   ·show Act.put _ (some 13) _ = _
    simp only [Act.put, zL, zM, zN, i64_w, i32_w]
    rfl
   refine one_ (i := 5) (N := some 16) #[true, true, true, true, true, true, false] rfl rfl (by kernel_rfl) (by decide) (fun K hK => ?_)
   refine goes_ Try.func71 (by kernel_rfl) rfl #[.int .i64 a1_0] (by rfl) rfl rfl (by (try simp only [zW, yA, yB]); first | done | rfl | (simp only [zX, zZ]; rfl)) ?_
   with_reducible refine (spec_l1Sign.calls a1_0 t551 _ A4.out).mono ?_
   rintro e w' ⟨rfl, ⟨nd, rfl⟩⟩
   refine ⟨_, rfl, ?_⟩
   refine hK.out _ _ ⟨(zJ BK548.out 0).trans rfl, (zJ BK548.out 1).trans rfl, (zJ BK549.out 0).trans rfl, (zJ BK549.out 1).trans rfl⟩ (fun hHeld => ?_)
   clear hK K
   refine norm_ (a' := ?_) ?_ ?_
   rotate_left
   ·show Act.put _ (some 16) _ = _
    simp only [Act.put, zL, zM, zN, i64_w, i32_w]
    rfl
   refine pure_ (i := 6) (N := some 17) (v := ?_) (a' := ?_) #[true, true, true, true, true, true, true] rfl rfl (by kernel_rfl) (fun _ _ _ h => h) (Or.inl ⟨by rfl, ?_⟩) ?_ ?_
   rotate_left
   ·intro w'
    go_simp
    with_reducible rfl
   rotate_left
   ·simp only [Act.put, zL, zM, zN, i64_w, i32_w]
    rfl
   refine done_ (by kernel_rfl) ?_
   have hnb10 := NB548_549.out
   have hnc10 := NB549_548.out
   have hcz11_0 : w9.cell? ⟨gb548, 0, none⟩ = some (.int .i64 a0_0) := (zJ BK548.out 0).trans rfl
   have hcz11_1 : w9.cell? ⟨gb548, 1, none⟩ = some (.int .i64 a0_1) := (zJ BK548.out 1).trans rfl
   have hfz11_0 := zK BK548.out 0
   have hfz11_1 := zK BK548.out 1
   try go_wp2
   go_ret
   exact ⟨by first | rfl | (simp [errW_none, errW_some] <;> rfl) | (simp [*, errW_none, errW_some] <;> rfl), by repeat (first | (with_reducible first | exact HB.out | apply zG | apply zE | apply zF | refine zH ?_ GE548.out | refine zH ?_ GE549.out) | exact HB.out)⟩
  ·rw [if_neg c6] at H
   have c6b0 : (a0_0 == 0) = false := beq_eq_false_iff_ne.mpr c6
   have c6b1 : (a0_0 != 0) = true := bne_iff_ne.mpr c6
   replace H := Option.bind_eq_some_iff.mp H
   obtain ⟨t555, A120, H⟩ := H
   replace H : ((spec_l1Digits.f k t555).bind fun t556 => ((spec_l1Abs.f a1_0).bind fun t557 => ((spec_l1Digits.f k t557).bind fun t558 => (if (wrap64 (t556 + a0_1)) = (wrap64 (t558 + a1_1)) then (spec_l1Cmp.l0 k a0_0 a1_0 a0_1 a0_0 a0_1 a1_0 a1_1) else ((spec_l1Sign.f (wrap64 ((wrap64 (t556 + a0_1)) - (wrap64 (t558 + a1_1))))).bind fun t559 => ((spec_l1Sign.f a0_0).bind fun t560 => (some (wrap64 (t559 * t560))))))))) = some r := H
   have A12 := zA A120
   clear A120
   replace H := Option.bind_eq_some_iff.mp H
   obtain ⟨t556, A130, H⟩ := H
   replace H : ((spec_l1Abs.f a1_0).bind fun t557 => ((spec_l1Digits.f k t557).bind fun t558 => (if (wrap64 (t556 + a0_1)) = (wrap64 (t558 + a1_1)) then (spec_l1Cmp.l0 k a0_0 a1_0 a0_1 a0_0 a0_1 a1_0 a1_1) else ((spec_l1Sign.f (wrap64 ((wrap64 (t556 + a0_1)) - (wrap64 (t558 + a1_1))))).bind fun t559 => ((spec_l1Sign.f a0_0).bind fun t560 => (some (wrap64 (t559 * t560)))))))) = some r := H
   have A13 := zA A130
   clear A130
   replace H := Option.bind_eq_some_iff.mp H
   obtain ⟨t557, A140, H⟩ := H
   replace H : ((spec_l1Digits.f k t557).bind fun t558 => (if (wrap64 (t556 + a0_1)) = (wrap64 (t558 + a1_1)) then (spec_l1Cmp.l0 k a0_0 a1_0 a0_1 a0_0 a0_1 a1_0 a1_1) else ((spec_l1Sign.f (wrap64 ((wrap64 (t556 + a0_1)) - (wrap64 (t558 + a1_1))))).bind fun t559 => ((spec_l1Sign.f a0_0).bind fun t560 => (some (wrap64 (t559 * t560))))))) = some r := H
   have A14 := zA A140
   clear A140
   replace H := Option.bind_eq_some_iff.mp H
   obtain ⟨t558, A150, H⟩ := H
   replace H : (if (wrap64 (t556 + a0_1)) = (wrap64 (t558 + a1_1)) then (spec_l1Cmp.l0 k a0_0 a1_0 a0_1 a0_0 a0_1 a1_0 a1_1) else ((spec_l1Sign.f (wrap64 ((wrap64 (t556 + a0_1)) - (wrap64 (t558 + a1_1))))).bind fun t559 => ((spec_l1Sign.f a0_0).bind fun t560 => (some (wrap64 (t559 * t560)))))) = some r := H
   have A15 := zA A150
   clear A150
   by_cases c16 : (wrap64 (t556 + a0_1)) = (wrap64 (t558 + a1_1))
   ·rw [if_pos c16] at H
    have c16b0 : ((wrap64 (t556 + a0_1)) == (wrap64 (t558 + a1_1))) = true := beq_iff_eq.mpr c16
    have c16b1 : ((wrap64 (t556 + a0_1)) != (wrap64 (t558 + a1_1))) = false := bne_eq_false_iff_eq.mpr c16
    clear c16
    have H' := zA H
    clear H
    go_enter Try.func62, Try.ntmps62
    try go_wp2_with (first | ((with_reducible refine zS (N := 2) rfl ?_); refine zV ?hg (N := 2) ?hd (cs := #[.int .i64 a0_0, .int .i64 a0_1]) (t := 26) ?hr ?_; (case hd => rfl); (case hg => rfl); (case hr => first | (go_simp; done) | (go_simp; rfl)); intro gb548 hg w17 hbox hb; have n0_ := zA (zQ (by repeat (first | (with_reducible first | exact HB.out | apply zG | apply zE | apply zF) | exact HB.out)) hb); have n1_ := zA (hbox); have n2_ := zA ((by rw [hg]; exact (zR (by repeat (first | (with_reducible first | exact HB.out | apply zG | apply zE | apply zF) | exact HB.out))) : w.heap.size ≤ gb548)); have n3_ := zA ((by rw [hg]; exact (zR (by repeat (first | (with_reducible first | exact HB.out | apply zG | apply zE | apply zF) | exact HB.out))) : w.heap.size ≤ gb548)); clear HB; have HB := n0_; have BK548 := n1_; have GW548 := n2_; have GE548 := n3_; clear n0_ n1_ n2_ n3_; clear hb hbox hg) | ((with_reducible refine zS (N := 3) rfl ?_); refine zV ?hg (N := 3) ?hd (cs := #[.int .i64 a1_0, .int .i64 a1_1]) (t := 26) ?hr ?_; (case hd => rfl); (case hg => rfl); (case hr => first | (go_simp; done) | (go_simp; rfl)); intro gb549 hg w18 hbox hb; have n0_ := zA (zP (g := gb548) (o := .cells #[.int .i64 a0_0, .int .i64 a0_1] 26 (0, 0)) (by (with_reducible repeat (first | refine zB ?_ _ | refine zD ?_ | refine zC ?_ _)); exact BK548.out) hb); have n1_ := zA (zQ (by repeat (first | (with_reducible first | exact HB.out | apply zG | apply zE | apply zF | refine zH ?_ GE548.out) | exact HB.out)) hb); have n2_ := zA (hbox); have n3_ := zA ((by rw [hg]; exact (zR (by repeat (first | (with_reducible first | exact HB.out | apply zG | apply zE | apply zF | refine zH ?_ GE548.out) | exact HB.out))) : w.heap.size ≤ gb549)); have n4_ := zA ((by rw [hg]; exact (zR (by repeat (first | (with_reducible first | exact HB.out | apply zG | apply zE | apply zF | refine zH ?_ GE548.out) | exact HB.out))) : w.heap.size ≤ gb549)); have n5_ := zA ((by rw [hg]; exact Nat.ne_of_lt (blk_lt (g := gb548) (o := .cells #[.int .i64 a0_0, .int .i64 a0_1] 26 (0, 0)) (by (with_reducible repeat (first | refine zB ?_ _ | refine zD ?_ | refine zC ?_ _)); exact BK548.out)) : gb548 ≠ gb549)); have n6_ := zA ((by rw [hg]; exact Nat.ne_of_gt (blk_lt (g := gb548) (o := .cells #[.int .i64 a0_0, .int .i64 a0_1] 26 (0, 0)) (by (with_reducible repeat (first | refine zB ?_ _ | refine zD ?_ | refine zC ?_ _)); exact BK548.out)) : gb549 ≠ gb548)); clear BK548; clear HB; have BK548 := n0_; have HB := n1_; have BK549 := n2_; have GW549 := n3_; have GE549 := n4_; have NB548_549 := n5_; have NB549_548 := n6_; clear n0_ n1_ n2_ n3_ n4_ n5_ n6_; clear hb hbox hg))
    have n0_ := zA (zD BK548.out)
    have n1_ := zA (zD BK549.out)
    have n2_ := zA (zF HB.out)
    clear BK548
    clear BK549
    clear HB
    have BK548 := n0_
    have BK549 := n1_
    have HB := n2_
    clear n0_ n1_ n2_
    refine start_ (n := 7) (S := fun w' => w'.cell? ⟨gb548, 0, none⟩ = some (.int .i64 a0_0) ∧ w'.cell? ⟨gb548, 1, none⟩ = some (.int .i64 a0_1) ∧ w'.cell? ⟨gb549, 0, none⟩ = some (.int .i64 a1_0) ∧ w'.cell? ⟨gb549, 1, none⟩ = some (.int .i64 a1_1)) (ds := []) #[false, false, false, false, false, false, false] (by kernel_rfl) rfl rfl ⟨(zJ BK548.out 0).trans rfl, (zJ BK548.out 1).trans rfl, (zJ BK549.out 0).trans rfl, (zJ BK549.out 1).trans rfl⟩ (fun hHeld => ?_)
    generalize w18.drew = w19 at BK548 BK549 HB hHeld ⊢
    refine pure_ (i := 0) (N := some 11) (v := ?_) (a' := ?_) #[true, false, false, false, false, false, false] rfl rfl (by kernel_rfl) (fun _ _ _ h => h) (Or.inl ⟨by rfl, ?_⟩) ?_ ?_
    rotate_left
    ·intro w'
     go_simp
     with_reducible rfl
    rotate_left
    ·simp only [Act.put, zL, zM, zN, i64_w, i32_w]
     rfl
    refine pure_ (i := 3) (N := some 14) (v := ?_) (a' := ?_) #[true, false, false, true, false, false, false] rfl rfl (by kernel_rfl) (fun _ _ _ h => h) (Or.inl ⟨by rfl, ?_⟩) ?_ ?_
    rotate_left
    ·intro w'
     go_simp
     with_reducible rfl
    rotate_left
    ·simp only [Act.put, zL, zM, zN, i64_w, i32_w]
     rfl
    refine take_ (i := 1) (N := some 12) (v := ?_) (a' := ?_) #[true, true, false, true, false, false, false] rfl rfl (by kernel_rfl) (fun _ _ _ h => h) (Or.inl ⟨by rfl, ?_⟩) hHeld ?_ ?_
    rotate_left
    ·rintro w' ⟨s0, s1, s2, s3⟩
     go_simp
     with_reducible rfl
    rotate_left
    ·simp only [Act.put, zL, zM, zN, i64_w, i32_w]
     rfl
    refine take_ (i := 4) (N := some 15) (v := ?_) (a' := ?_) #[true, true, false, true, true, false, false] rfl rfl (by kernel_rfl) (fun _ _ _ h => h) (Or.inl ⟨by rfl, ?_⟩) hHeld ?_ ?_
    rotate_left
    ·rintro w' ⟨s0, s1, s2, s3⟩
     go_simp
     with_reducible rfl
    rotate_left
    ·simp only [Act.put, zL, zM, zN, i64_w, i32_w]
     rfl
    refine one_ (i := 2) (N := some 13) #[true, true, true, true, true, false, false] rfl rfl (by kernel_rfl) (by decide) (fun K hK => ?_)
    refine goes_ Try.func71 (by kernel_rfl) rfl #[.int .i64 a0_0] (by rfl) rfl rfl (by (try simp only [zW, yA, yB]); first | done | rfl | (simp only [zX, zZ]; rfl)) ?_
    with_reducible refine (spec_l1Sign.calls a0_0 t550 _ A3.out).mono ?_
    rintro e w' ⟨rfl, ⟨nd, rfl⟩⟩
    refine ⟨_, rfl, ?_⟩
    refine hK.out _ _ ⟨(zJ BK548.out 0).trans rfl, (zJ BK548.out 1).trans rfl, (zJ BK549.out 0).trans rfl, (zJ BK549.out 1).trans rfl⟩ (fun hHeld => ?_)
    clear hK K
    refine norm_ (a' := ?_) ?_ ?_
    rotate_left
    ·show Act.put _ (some 13) _ = _
     simp only [Act.put, zL, zM, zN, i64_w, i32_w]
     rfl
    refine one_ (i := 5) (N := some 16) #[true, true, true, true, true, true, false] rfl rfl (by kernel_rfl) (by decide) (fun K hK => ?_)
    refine goes_ Try.func71 (by kernel_rfl) rfl #[.int .i64 a1_0] (by rfl) rfl rfl (by (try simp only [zW, yA, yB]); first | done | rfl | (simp only [zX, zZ]; rfl)) ?_
    with_reducible refine (spec_l1Sign.calls a1_0 t551 _ A4.out).mono ?_
    rintro e w' ⟨rfl, ⟨nd, rfl⟩⟩
    refine ⟨_, rfl, ?_⟩
    refine hK.out _ _ ⟨(zJ BK548.out 0).trans rfl, (zJ BK548.out 1).trans rfl, (zJ BK549.out 0).trans rfl, (zJ BK549.out 1).trans rfl⟩ (fun hHeld => ?_)
    clear hK K
    refine norm_ (a' := ?_) ?_ ?_
    rotate_left
    ·show Act.put _ (some 16) _ = _
     simp only [Act.put, zL, zM, zN, i64_w, i32_w]
     rfl
    refine pure_ (i := 6) (N := some 17) (v := ?_) (a' := ?_) #[true, true, true, true, true, true, true] rfl rfl (by kernel_rfl) (fun _ _ _ h => h) (Or.inl ⟨by rfl, ?_⟩) ?_ ?_
    rotate_left
    ·intro w'
     go_simp
     with_reducible rfl
    rotate_left
    ·simp only [Act.put, zL, zM, zN, i64_w, i32_w]
     rfl
    refine done_ (by kernel_rfl) ?_
    have hnb20 := NB548_549.out
    have hnc20 := NB549_548.out
    have hcz21_0 : w19.cell? ⟨gb548, 0, none⟩ = some (.int .i64 a0_0) := (zJ BK548.out 0).trans rfl
    have hcz21_1 : w19.cell? ⟨gb548, 1, none⟩ = some (.int .i64 a0_1) := (zJ BK548.out 1).trans rfl
    have hfz21_0 := zK BK548.out 0
    have hfz21_1 := zK BK548.out 1
    try go_wp2
    (try ((repeat rw [World.drewN_drewN]); rw [drewN_self w19]; generalize hq_ : World.drewN w19 _ = w19; have n0_ : Aside0 (w19.heap[gb548]? = some (.cells #[.int .i64 a0_0, .int .i64 a0_1] 26 (0, 0))) := ⟨by rw [← hq_]; exact (by (with_reducible repeat (first | refine zB ?_ _ | refine zD ?_ | refine zC ?_ _)); exact BK548.out)⟩; have n1_ : Aside0 (w19.heap[gb549]? = some (.cells #[.int .i64 a1_0, .int .i64 a1_1] 26 (0, 0))) := ⟨by rw [← hq_]; exact (by (with_reducible repeat (first | refine zB ?_ _ | refine zD ?_ | refine zC ?_ _)); exact BK549.out)⟩; have n2_ : Aside0 (Below w.heap.size w w19) := ⟨by rw [← hq_]; exact (by repeat (first | (with_reducible first | exact HB.out | apply zG | apply zE | apply zF | refine zH ?_ GE548.out | refine zH ?_ GE549.out) | exact HB.out))⟩; clear BK548 BK549 HB hq_; have BK548 := n0_; have BK549 := n1_; have HB := n2_; clear n0_ n1_ n2_))
    (try (have hcu22_0 : w19.cell? ⟨gb548, 0, none⟩ = some (.int .i64 a0_0) := (zJ BK548.out 0).trans rfl; have hfu22_0 := zK BK548.out 0))
    (try (have hcu22_1 : w19.cell? ⟨gb548, 1, none⟩ = some (.int .i64 a0_1) := (zJ BK548.out 1).trans rfl; have hfu22_1 := zK BK548.out 1))
    (try (have hcu23_0 : w19.cell? ⟨gb549, 0, none⟩ = some (.int .i64 a1_0) := (zJ BK549.out 0).trans rfl; have hfu23_0 := zK BK549.out 0))
    (try (have hcu23_1 : w19.cell? ⟨gb549, 1, none⟩ = some (.int .i64 a1_1) := (zJ BK549.out 1).trans rfl; have hfu23_1 := zK BK549.out 1))
    have n0_ := zA (zD BK548.out)
    have n1_ := zA (zD BK549.out)
    have n2_ := zA (zF HB.out)
    clear BK548
    clear BK549
    clear HB
    have BK548 := n0_
    have BK549 := n1_
    have HB := n2_
    clear n0_ n1_ n2_
    refine start_ (n := 8) (S := fun w' => w'.cell? ⟨gb548, 0, none⟩ = some (.int .i64 a0_0) ∧ w'.cell? ⟨gb548, 1, none⟩ = some (.int .i64 a0_1)) (ds := []) #[false, false, false, false, false, false, false, false] (by kernel_rfl) rfl rfl ⟨(zJ BK548.out 0).trans rfl, (zJ BK548.out 1).trans rfl⟩ (fun hHeld => ?_); refine with_tabW spec_l1Cmp.tab5 spec_l1Cmp.bits5 (fun HT_ HW_ => ?_)
    generalize w19.drew = w24 at BK548 BK549 HB hHeld ⊢
    refine pure_ (i := 0) (N := some 29) (v := ?_) (a' := ?_) #[true, false, false, false, false, false, false, false] rfl rfl (any_of HT_.out (by kernel_rfl)) (fun _ _ _ h => h) (Or.inl ⟨by rfl, ?_⟩) ?_ ?_
    rotate_left
    ·intro w'
     go_simp
     with_reducible rfl
    rotate_left
    ·simp only [Act.put, zL, zM, zN, i64_w, i32_w]
     rfl
    refine pure_ (i := 4) (N := some 33) (v := ?_) (a' := ?_) #[true, false, false, false, true, false, false, false] rfl rfl (any_of HT_.out (by kernel_rfl)) (fun _ _ _ h => h) (Or.inl ⟨by rfl, ?_⟩) ?_ ?_
    rotate_left
    ·intro w'
     go_simp
     with_reducible rfl
    rotate_left
    ·simp only [Act.put, zL, zM, zN, i64_w, i32_w]
     rfl
    refine take_ (i := 1) (N := some 30) (v := ?_) (a' := ?_) #[true, true, false, false, true, false, false, false] rfl rfl (take_ofW HT_.out HW_.out (by kernel_rfl)) (fun _ _ _ h => h) (Or.inl ⟨by rfl, ?_⟩) hHeld ?_ ?_
    rotate_left
    ·rintro w' ⟨s0, s1⟩
     go_simp
     with_reducible rfl
    rotate_left
    ·simp only [Act.put, zL, zM, zN, i64_w, i32_w]
     rfl
    refine take_ (i := 5) (N := some 34) (v := ?_) (a' := ?_) #[true, true, false, false, true, true, false, false] rfl rfl (take_ofW HT_.out HW_.out (by kernel_rfl)) (fun _ _ _ h => h) (Or.inl ⟨by rfl, ?_⟩) hHeld ?_ ?_
    rotate_left
    ·rintro w' ⟨s0, s1⟩
     go_simp
     with_reducible rfl
    rotate_left
    ·simp only [Act.put, zL, zM, zN, i64_w, i32_w]
     rfl
    refine one_ (i := 2) (N := some 31) #[true, true, true, false, true, true, false, false] rfl rfl (one_of HT_.out (by kernel_rfl)) (by decide) (fun K hK => ?_)
    refine goes_ Try.func73 (by kernel_rfl) rfl #[.int .i64 a0_0] (by rfl) rfl rfl (by (try simp only [zW, yA, yB]); first | done | rfl | (simp only [zX, zZ]; rfl)) ?_
    with_reducible refine (spec_l1Abs.calls a0_0 t555 _ A12.out).mono ?_
    rintro e w' ⟨rfl, ⟨nd, rfl⟩⟩
    refine ⟨_, rfl, ?_⟩
    refine hK.out _ _ ⟨(zJ BK548.out 0).trans rfl, (zJ BK548.out 1).trans rfl⟩ (fun hHeld => ?_)
    clear hK K
    refine norm_ (a' := ?_) ?_ ?_
    rotate_left
    ·show Act.put _ (some 31) _ = _
     simp only [Act.put, zL, zM, zN, i64_w, i32_w]
     rfl
    refine one_ (i := 3) (N := some 32) #[true, true, true, true, true, true, false, false] rfl rfl (one_of HT_.out (by kernel_rfl)) (by decide) (fun K hK => ?_)
    refine goes_ Try.func72 (by kernel_rfl) rfl #[.int .i64 t555] (by rfl) rfl rfl (by (try simp only [zW, yA, yB]); first | done | rfl | (simp only [zX, zZ]; rfl)) ?_
    with_reducible refine (spec_l1Digits.calls k t555 t556 _ A13.out).mono ?_
    rintro e w25 ⟨rfl, hb⟩
    refine ⟨_, rfl, ?_⟩
    have n0_ := zA (zP (g := gb548) (o := .cells #[.int .i64 a0_0, .int .i64 a0_1] 26 (0, 0)) (by (with_reducible repeat (first | refine zB ?_ _ | refine zD ?_ | refine zC ?_ _)); exact BK548.out) hb)
    have n1_ := zA (zP (g := gb549) (o := .cells #[.int .i64 a1_0, .int .i64 a1_1] 26 (0, 0)) (by (with_reducible repeat (first | refine zB ?_ _ | refine zD ?_ | refine zC ?_ _)); exact BK549.out) hb)
    have n2_ := zA (zQ (by repeat (first | (with_reducible first | exact HB.out | apply zG | apply zE | apply zF | refine zH ?_ GE548.out | refine zH ?_ GE549.out) | exact HB.out)) hb)
    clear BK548
    clear BK549
    clear HB
    have BK548 := n0_
    have BK549 := n1_
    have HB := n2_
    clear n0_ n1_ n2_
    (try clear hb)
    (try clear hb2)
    (try clear hk)
    (try clear hi)
    refine hK.out _ _ ⟨(zJ BK548.out 0).trans rfl, (zJ BK548.out 1).trans rfl⟩ (fun hHeld => ?_)
    clear hK K
    refine norm_ (a' := ?_) ?_ ?_
    rotate_left
    ·show Act.put _ (some 32) _ = _
     simp only [Act.put, zL, zM, zN, i64_w, i32_w]
     rfl
    refine pure_ (i := 6) (N := some 35) (v := ?_) (a' := ?_) #[true, true, true, true, true, true, true, false] rfl rfl (any_of HT_.out (by kernel_rfl)) (fun _ _ _ h => h) (Or.inl ⟨by rfl, ?_⟩) ?_ ?_
    rotate_left
    ·intro w'
     go_simp
     with_reducible rfl
    rotate_left
    ·simp only [Act.put, zL, zM, zN, i64_w, i32_w]
     rfl
    refine pure_ (i := 7) (N := some 5) (v := ?_) (a' := ?_) #[true, true, true, true, true, true, true, true] rfl rfl (any_of HT_.out (by kernel_rfl)) (fun _ _ _ h => h) (Or.inl ⟨by rfl, ?_⟩) ?_ ?_
    rotate_left
    ·intro w'
     go_simp
     with_reducible rfl
    rotate_left
    ·simp only [Act.put, zL, zM, zN, i64_w, i32_w]
     rfl
    refine done_ (done_of HT_.out (by kernel_rfl)) ?_
    try go_wp2
    have n0_ := zA (zD BK548.out)
    have n1_ := zA (zD BK549.out)
    have n2_ := zA (zF HB.out)
    clear BK548
    clear BK549
    clear HB
    have BK548 := n0_
    have BK549 := n1_
    have HB := n2_
    clear n0_ n1_ n2_
    refine start_ (n := 8) (S := fun w' => w'.cell? ⟨gb549, 0, none⟩ = some (.int .i64 a1_0) ∧ w'.cell? ⟨gb549, 1, none⟩ = some (.int .i64 a1_1)) (ds := []) #[false, false, false, false, false, false, false, false] (by kernel_rfl) rfl rfl ⟨(zJ BK549.out 0).trans rfl, (zJ BK549.out 1).trans rfl⟩ (fun hHeld => ?_); refine with_tabW spec_l1Cmp.tab6 spec_l1Cmp.bits6 (fun HT_ HW_ => ?_)
    generalize w25.drew = w26 at BK548 BK549 HB hHeld ⊢
    refine pure_ (i := 0) (N := some 36) (v := ?_) (a' := ?_) #[true, false, false, false, false, false, false, false] rfl rfl (any_of HT_.out (by kernel_rfl)) (fun _ _ _ h => h) (Or.inl ⟨by rfl, ?_⟩) ?_ ?_
    rotate_left
    ·intro w'
     go_simp
     with_reducible rfl
    rotate_left
    ·simp only [Act.put, zL, zM, zN, i64_w, i32_w]
     rfl
    refine pure_ (i := 4) (N := some 40) (v := ?_) (a' := ?_) #[true, false, false, false, true, false, false, false] rfl rfl (any_of HT_.out (by kernel_rfl)) (fun _ _ _ h => h) (Or.inl ⟨by rfl, ?_⟩) ?_ ?_
    rotate_left
    ·intro w'
     go_simp
     with_reducible rfl
    rotate_left
    ·simp only [Act.put, zL, zM, zN, i64_w, i32_w]
     rfl
    refine take_ (i := 1) (N := some 37) (v := ?_) (a' := ?_) #[true, true, false, false, true, false, false, false] rfl rfl (take_ofW HT_.out HW_.out (by kernel_rfl)) (fun _ _ _ h => h) (Or.inl ⟨by rfl, ?_⟩) hHeld ?_ ?_
    rotate_left
    ·rintro w' ⟨s0, s1⟩
     go_simp
     with_reducible rfl
    rotate_left
    ·simp only [Act.put, zL, zM, zN, i64_w, i32_w]
     rfl
    refine take_ (i := 5) (N := some 41) (v := ?_) (a' := ?_) #[true, true, false, false, true, true, false, false] rfl rfl (take_ofW HT_.out HW_.out (by kernel_rfl)) (fun _ _ _ h => h) (Or.inl ⟨by rfl, ?_⟩) hHeld ?_ ?_
    rotate_left
    ·rintro w' ⟨s0, s1⟩
     go_simp
     with_reducible rfl
    rotate_left
    ·simp only [Act.put, zL, zM, zN, i64_w, i32_w]
     rfl
    refine one_ (i := 2) (N := some 38) #[true, true, true, false, true, true, false, false] rfl rfl (one_of HT_.out (by kernel_rfl)) (by decide) (fun K hK => ?_)
    refine goes_ Try.func73 (by kernel_rfl) rfl #[.int .i64 a1_0] (by rfl) rfl rfl (by (try simp only [zW, yA, yB]); first | done | rfl | (simp only [zX, zZ]; rfl)) ?_
    with_reducible refine (spec_l1Abs.calls a1_0 t557 _ A14.out).mono ?_
    rintro e w' ⟨rfl, ⟨nd, rfl⟩⟩
    refine ⟨_, rfl, ?_⟩
    refine hK.out _ _ ⟨(zJ BK549.out 0).trans rfl, (zJ BK549.out 1).trans rfl⟩ (fun hHeld => ?_)
    clear hK K
    refine norm_ (a' := ?_) ?_ ?_
    rotate_left
    ·show Act.put _ (some 38) _ = _
     simp only [Act.put, zL, zM, zN, i64_w, i32_w]
     rfl
    refine one_ (i := 3) (N := some 39) #[true, true, true, true, true, true, false, false] rfl rfl (one_of HT_.out (by kernel_rfl)) (by decide) (fun K hK => ?_)
    refine goes_ Try.func72 (by kernel_rfl) rfl #[.int .i64 t557] (by rfl) rfl rfl (by (try simp only [zW, yA, yB]); first | done | rfl | (simp only [zX, zZ]; rfl)) ?_
    with_reducible refine (spec_l1Digits.calls k t557 t558 _ A15.out).mono ?_
    rintro e w27 ⟨rfl, hb⟩
    refine ⟨_, rfl, ?_⟩
    have n0_ := zA (zP (g := gb548) (o := .cells #[.int .i64 a0_0, .int .i64 a0_1] 26 (0, 0)) (by (with_reducible repeat (first | refine zB ?_ _ | refine zD ?_ | refine zC ?_ _)); exact BK548.out) hb)
    have n1_ := zA (zP (g := gb549) (o := .cells #[.int .i64 a1_0, .int .i64 a1_1] 26 (0, 0)) (by (with_reducible repeat (first | refine zB ?_ _ | refine zD ?_ | refine zC ?_ _)); exact BK549.out) hb)
    have n2_ := zA (zQ (by repeat (first | (with_reducible first | exact HB.out | apply zG | apply zE | apply zF | refine zH ?_ GE548.out | refine zH ?_ GE549.out) | exact HB.out)) hb)
    clear BK548
    clear BK549
    clear HB
    have BK548 := n0_
    have BK549 := n1_
    have HB := n2_
    clear n0_ n1_ n2_
    (try clear hb)
    (try clear hb2)
    (try clear hk)
    (try clear hi)
    refine hK.out _ _ ⟨(zJ BK549.out 0).trans rfl, (zJ BK549.out 1).trans rfl⟩ (fun hHeld => ?_)
    clear hK K
    refine norm_ (a' := ?_) ?_ ?_
    rotate_left
    ·show Act.put _ (some 39) _ = _
     simp only [Act.put, zL, zM, zN, i64_w, i32_w]
     rfl
    refine pure_ (i := 6) (N := some 42) (v := ?_) (a' := ?_) #[true, true, true, true, true, true, true, false] rfl rfl (any_of HT_.out (by kernel_rfl)) (fun _ _ _ h => h) (Or.inl ⟨by rfl, ?_⟩) ?_ ?_
    rotate_left
    ·intro w'
     go_simp
     with_reducible rfl
    rotate_left
    ·simp only [Act.put, zL, zM, zN, i64_w, i32_w]
     rfl
    refine pure_ (i := 7) (N := some 6) (v := ?_) (a' := ?_) #[true, true, true, true, true, true, true, true] rfl rfl (any_of HT_.out (by kernel_rfl)) (fun _ _ _ h => h) (Or.inl ⟨by rfl, ?_⟩) ?_ ?_
    rotate_left
    ·intro w'
     go_simp
     with_reducible rfl
    rotate_left
    ·simp only [Act.put, zL, zM, zN, i64_w, i32_w]
     rfl
    refine done_ (done_of HT_.out (by kernel_rfl)) ?_
    have hcz28_0 : w27.cell? ⟨gb548, 0, none⟩ = some (.int .i64 a0_0) := (zJ BK548.out 0).trans rfl
    have hcz28_1 : w27.cell? ⟨gb548, 1, none⟩ = some (.int .i64 a0_1) := (zJ BK548.out 1).trans rfl
    have hfz28_0 := zK BK548.out 0
    have hfz28_1 := zK BK548.out 1
    have hcz29_0 : w27.cell? ⟨gb549, 0, none⟩ = some (.int .i64 a1_0) := (zJ BK549.out 0).trans rfl
    have hcz29_1 : w27.cell? ⟨gb549, 1, none⟩ = some (.int .i64 a1_1) := (zJ BK549.out 1).trans rfl
    have hfz29_0 := zK BK549.out 0
    have hfz29_1 := zK BK549.out 1
    try go_wp2
    go_loopg [7, 9] k (fun kq v7 v9 w' => ∃ (x7_1 : Int) (x9_1 : Int), v7 = .int .i64 x7_1 ∧ v9 = .int .i64 x9_1 ∧ Aside0 (spec_l1Cmp.l0 kq x7_1 a1_0 x9_1 a0_0 a0_1 a1_0 a1_1 = some r) ∧ Aside0 (kq ≤ k) ∧ Aside0 (w'.heap[gb548]? = some (.cells #[.int .i64 a0_0, .int .i64 a0_1] 26 (0, 0))) ∧ Aside0 (w'.heap[gb549]? = some (.cells #[.int .i64 a1_0, .int .i64 a1_1] 26 (0, 0))) ∧ Aside0 (Below w.heap.size w w'))
    case atStart => exact ⟨(a0_0), (a0_1), (by first | rfl | (simp; done) | (simp [*]; done)), (by first | rfl | (simp; done) | (simp [*]; done)), H', ⟨Nat.le_refl _⟩, ⟨by (with_reducible repeat (first | refine zB ?_ _ | refine zD ?_ | refine zC ?_ _)); exact BK548.out⟩, ⟨by (with_reducible repeat (first | refine zB ?_ _ | refine zD ?_ | refine zC ?_ _)); exact BK549.out⟩, ⟨by repeat (first | (with_reducible first | exact HB.out | apply zG | apply zE | apply zF | refine zH ?_ GE548.out | refine zH ?_ GE549.out) | exact HB.out)⟩⟩
    case round =>
     clear H'
     try clear c1
     try clear c2
     try clear p2
     try clear c5
     try clear c5b0
     try clear c5b1
     try clear c6
     try clear c6b0
     try clear c6b1
     try clear p6
     try clear c7
     try clear c10
     try clear c16
     try clear c16b0
     try clear c16b1
     try clear c20
     try clear hcz11_0
     try clear hcz11_1
     try clear hcz21_0
     try clear hcz21_1
     try clear hcz28_0
     try clear hcz28_1
     try clear hcz29_0
     try clear hcz29_1
     try clear hfz11_0
     try clear hfz11_1
     try clear hfz21_0
     try clear hfz21_1
     try clear hfz28_0
     try clear hfz28_1
     try clear hfz29_0
     try clear hfz29_1
     obtain ⟨x7_1, x9_1, rfl, rfl, HA, HK1, BK548, BK549, HB⟩ := hrel
     cases gk with
     | zero => exact absurd HA.out (by simp [spec_l1Cmp.l0])
     | succ k1 =>
      have H := HA.out
      clear HA
      simp only [spec_l1Cmp.l0] at H
      by_cases c30 : x9_1 > a1_1
      ·rw [if_pos c30] at H
       have c30b0 : decide (a1_1 < x9_1) = true := decide_eq_true c30
       clear c30
       have H' := zA H
       clear H
       have hnb31 := NB549_548.out
       have hnc31 := NB548_549.out
       have hcz32_0 : wr.cell? ⟨gb549, 0, none⟩ = some (.int .i64 a1_0) := (zJ BK549.out 0).trans rfl
       have hcz32_1 : wr.cell? ⟨gb549, 1, none⟩ = some (.int .i64 a1_1) := (zJ BK549.out 1).trans rfl
       have hfz32_0 := zK BK549.out 0
       have hfz32_1 := zK BK549.out 1
       go_wp2
       go_roundg k1
       case measure => have := HK1.out; omega
       case rel => exact ⟨(wrap64 (x7_1 * 10)), (wrap64 (x9_1 - 1)), (by first | rfl | (simp; done) | (simp [*]; done)), (by first | rfl | (simp; done) | (simp [*]; done)), H', ⟨by have := HK1.out; omega⟩, ⟨by (with_reducible repeat (first | refine zB ?_ _ | refine zD ?_ | refine zC ?_ _)); exact BK548.out⟩, ⟨by (with_reducible repeat (first | refine zB ?_ _ | refine zD ?_ | refine zC ?_ _)); exact BK549.out⟩, ⟨by repeat (first | (with_reducible first | exact HB.out | apply zG | apply zE | apply zF | refine zH ?_ GE548.out | refine zH ?_ GE549.out) | exact HB.out)⟩⟩
      ·rw [if_neg c30] at H
       have c30b0 : decide (a1_1 < x9_1) = false := decide_eq_false c30
       clear c30
       have H' := zA H
       clear H
       have hnb33 := NB549_548.out
       have hnc33 := NB548_549.out
       have hcz34_0 : wr.cell? ⟨gb549, 0, none⟩ = some (.int .i64 a1_0) := (zJ BK549.out 0).trans rfl
       have hcz34_1 : wr.cell? ⟨gb549, 1, none⟩ = some (.int .i64 a1_1) := (zJ BK549.out 1).trans rfl
       have hfz34_0 := zK BK549.out 0
       have hfz34_1 := zK BK549.out 1
       go_wp2
       go_loopg [8, 10] k1 (fun kq v8 v10 w' => ∃ (x8_2 : Int) (x10_2 : Int), v8 = .int .i64 x8_2 ∧ v10 = .int .i64 x10_2 ∧ Aside0 (spec_l1Cmp.l1 kq x7_1 x8_2 x10_2 a0_0 a0_1 = some r) ∧ Aside0 (kq ≤ k1) ∧ Aside0 (w'.heap[gb548]? = some (.cells #[.int .i64 a0_0, .int .i64 a0_1] 26 (0, 0))) ∧ Aside0 (w'.heap[gb549]? = some (.cells #[.int .i64 a1_0, .int .i64 a1_1] 26 (0, 0))) ∧ Aside0 (Below w.heap.size w w'))
       case atStart => exact ⟨(a1_0), (a1_1), (by first | rfl | (simp; done) | (simp [*]; done)), (by first | rfl | (simp; done) | (simp [*]; done)), H', ⟨Nat.le_refl _⟩, ⟨by (with_reducible repeat (first | refine zB ?_ _ | refine zD ?_ | refine zC ?_ _)); exact BK548.out⟩, ⟨by (with_reducible repeat (first | refine zB ?_ _ | refine zD ?_ | refine zC ?_ _)); exact BK549.out⟩, ⟨by repeat (first | (with_reducible first | exact HB.out | apply zG | apply zE | apply zF | refine zH ?_ GE548.out | refine zH ?_ GE549.out) | exact HB.out)⟩⟩
       case round =>
        clear H'
        try clear c1
        try clear c2
        try clear p2
        try clear c3
        try clear c5
        try clear c5b0
        try clear c5b1
        try clear c6
        try clear c6b0
        try clear c6b1
        try clear p6
        try clear c7
        try clear c10
        try clear c16
        try clear c16b0
        try clear c16b1
        try clear c20
        try clear c30
        try clear c30b0
        try clear c31
        try clear c33
        try clear hcz11_0
        try clear hcz11_1
        try clear hcz21_0
        try clear hcz21_1
        try clear hcz28_0
        try clear hcz28_1
        try clear hcz29_0
        try clear hcz29_1
        try clear hcz32_0
        try clear hcz32_1
        try clear hcz34_0
        try clear hcz34_1
        try clear hfz11_0
        try clear hfz11_1
        try clear hfz21_0
        try clear hfz21_1
        try clear hfz28_0
        try clear hfz28_1
        try clear hfz29_0
        try clear hfz29_1
        try clear hfz32_0
        try clear hfz32_1
        try clear hfz34_0
        try clear hfz34_1
        try clear p2
        try clear p6
        obtain ⟨x8_2, x10_2, rfl, rfl, HA, HK2, BK548, BK549, HB⟩ := hrel
        cases gk with
        | zero => exact absurd HA.out (by simp [spec_l1Cmp.l1])
        | succ k2 =>
         have H := HA.out
         clear HA
         simp only [spec_l1Cmp.l1] at H
         by_cases c35 : x10_2 > a0_1
         ·rw [if_pos c35] at H
          have c35b0 : decide (a0_1 < x10_2) = true := decide_eq_true c35
          clear c35
          have H' := zA H
          clear H
          have hnb36 := NB548_549.out
          have hnc36 := NB549_548.out
          have hcz37_0 : wr.cell? ⟨gb548, 0, none⟩ = some (.int .i64 a0_0) := (zJ BK548.out 0).trans rfl
          have hcz37_1 : wr.cell? ⟨gb548, 1, none⟩ = some (.int .i64 a0_1) := (zJ BK548.out 1).trans rfl
          have hfz37_0 := zK BK548.out 0
          have hfz37_1 := zK BK548.out 1
          go_wp2
          go_roundg k2
          case measure => have := HK1.out; have := HK2.out; omega
          case rel => exact ⟨(wrap64 (x8_2 * 10)), (wrap64 (x10_2 - 1)), (by first | rfl | (simp; done) | (simp [*]; done)), (by first | rfl | (simp; done) | (simp [*]; done)), H', ⟨by have := HK1.out; have := HK2.out; omega⟩, ⟨by (with_reducible repeat (first | refine zB ?_ _ | refine zD ?_ | refine zC ?_ _)); exact BK548.out⟩, ⟨by (with_reducible repeat (first | refine zB ?_ _ | refine zD ?_ | refine zC ?_ _)); exact BK549.out⟩, ⟨by repeat (first | (with_reducible first | exact HB.out | apply zG | apply zE | apply zF | refine zH ?_ GE548.out | refine zH ?_ GE549.out) | exact HB.out)⟩⟩
         ·rw [if_neg c35] at H
          have c35b0 : decide (a0_1 < x10_2) = false := decide_eq_false c35
          clear c35
          replace H := Option.bind_eq_some_iff.mp H
          obtain ⟨t561, A380, H⟩ := H
          replace H : (some t561) = some r := H
          have A38 := zA A380
          clear A380
          obtain rfl := Option.some.inj H
          have hnb39 := NB548_549.out
          have hnc39 := NB549_548.out
          have hcz40_0 : wr.cell? ⟨gb548, 0, none⟩ = some (.int .i64 a0_0) := (zJ BK548.out 0).trans rfl
          have hcz40_1 : wr.cell? ⟨gb548, 1, none⟩ = some (.int .i64 a0_1) := (zJ BK548.out 1).trans rfl
          have hfz40_0 := zK BK548.out 0
          have hfz40_1 := zK BK548.out 1
          go_wp2_with (first | ((with_reducible refine zT (f := 71) rfl ?_); refine goesL_ (some 81) rfl rfl Try.func71 (by kernel_rfl) rfl #[.int .i64 (wrap64 (x7_1 - x8_2))] rfl (by (try simp only [zW, yA, yB]); first | done | rfl | (simp only [zX, zZ]; rfl)) ?_; (with_reducible refine (spec_l1Sign.calls (wrap64 (x7_1 - x8_2)) t561 _ A38.out).mono ?_); rintro e w' ⟨rfl, ⟨nd, rfl⟩⟩; refine ⟨_, rfl, ?_⟩))
          go_ret
          exact ⟨by first | rfl | (simp [errW_none, errW_some] <;> rfl) | (simp [*, errW_none, errW_some] <;> rfl), by repeat (first | (with_reducible first | exact HB.out | apply zG | apply zE | apply zF | refine zH ?_ GE548.out | refine zH ?_ GE549.out) | exact HB.out)⟩
   ·rw [if_neg c16] at H
    have c16b0 : ((wrap64 (t556 + a0_1)) == (wrap64 (t558 + a1_1))) = false := beq_eq_false_iff_ne.mpr c16
    have c16b1 : ((wrap64 (t556 + a0_1)) != (wrap64 (t558 + a1_1))) = true := bne_iff_ne.mpr c16
    replace H := Option.bind_eq_some_iff.mp H
    obtain ⟨t559, A410, H⟩ := H
    replace H : ((spec_l1Sign.f a0_0).bind fun t560 => (some (wrap64 (t559 * t560)))) = some r := H
    have A41 := zA A410
    clear A410
    replace H := Option.bind_eq_some_iff.mp H
    obtain ⟨t560, A420, H⟩ := H
    replace H : (some (wrap64 (t559 * t560))) = some r := H
    have A42 := zA A420
    clear A420
    obtain rfl := Option.some.inj H
    go_enter Try.func62, Try.ntmps62
    try go_wp2_with (first | ((with_reducible refine zS (N := 2) rfl ?_); refine zV ?hg (N := 2) ?hd (cs := #[.int .i64 a0_0, .int .i64 a0_1]) (t := 26) ?hr ?_; (case hd => rfl); (case hg => rfl); (case hr => first | (go_simp; done) | (go_simp; rfl)); intro gb548 hg w43 hbox hb; have n0_ := zA (zQ (by repeat (first | (with_reducible first | exact HB.out | apply zG | apply zE | apply zF) | exact HB.out)) hb); have n1_ := zA (hbox); have n2_ := zA ((by rw [hg]; exact (zR (by repeat (first | (with_reducible first | exact HB.out | apply zG | apply zE | apply zF) | exact HB.out))) : w.heap.size ≤ gb548)); have n3_ := zA ((by rw [hg]; exact (zR (by repeat (first | (with_reducible first | exact HB.out | apply zG | apply zE | apply zF) | exact HB.out))) : w.heap.size ≤ gb548)); clear HB; have HB := n0_; have BK548 := n1_; have GW548 := n2_; have GE548 := n3_; clear n0_ n1_ n2_ n3_; clear hb hbox hg) | ((with_reducible refine zS (N := 3) rfl ?_); refine zV ?hg (N := 3) ?hd (cs := #[.int .i64 a1_0, .int .i64 a1_1]) (t := 26) ?hr ?_; (case hd => rfl); (case hg => rfl); (case hr => first | (go_simp; done) | (go_simp; rfl)); intro gb549 hg w44 hbox hb; have n0_ := zA (zP (g := gb548) (o := .cells #[.int .i64 a0_0, .int .i64 a0_1] 26 (0, 0)) (by (with_reducible repeat (first | refine zB ?_ _ | refine zD ?_ | refine zC ?_ _)); exact BK548.out) hb); have n1_ := zA (zQ (by repeat (first | (with_reducible first | exact HB.out | apply zG | apply zE | apply zF | refine zH ?_ GE548.out) | exact HB.out)) hb); have n2_ := zA (hbox); have n3_ := zA ((by rw [hg]; exact (zR (by repeat (first | (with_reducible first | exact HB.out | apply zG | apply zE | apply zF | refine zH ?_ GE548.out) | exact HB.out))) : w.heap.size ≤ gb549)); have n4_ := zA ((by rw [hg]; exact (zR (by repeat (first | (with_reducible first | exact HB.out | apply zG | apply zE | apply zF | refine zH ?_ GE548.out) | exact HB.out))) : w.heap.size ≤ gb549)); have n5_ := zA ((by rw [hg]; exact Nat.ne_of_lt (blk_lt (g := gb548) (o := .cells #[.int .i64 a0_0, .int .i64 a0_1] 26 (0, 0)) (by (with_reducible repeat (first | refine zB ?_ _ | refine zD ?_ | refine zC ?_ _)); exact BK548.out)) : gb548 ≠ gb549)); have n6_ := zA ((by rw [hg]; exact Nat.ne_of_gt (blk_lt (g := gb548) (o := .cells #[.int .i64 a0_0, .int .i64 a0_1] 26 (0, 0)) (by (with_reducible repeat (first | refine zB ?_ _ | refine zD ?_ | refine zC ?_ _)); exact BK548.out)) : gb549 ≠ gb548)); clear BK548; clear HB; have BK548 := n0_; have HB := n1_; have BK549 := n2_; have GW549 := n3_; have GE549 := n4_; have NB548_549 := n5_; have NB549_548 := n6_; clear n0_ n1_ n2_ n3_ n4_ n5_ n6_; clear hb hbox hg))
    have n0_ := zA (zD BK548.out)
    have n1_ := zA (zD BK549.out)
    have n2_ := zA (zF HB.out)
    clear BK548
    clear BK549
    clear HB
    have BK548 := n0_
    have BK549 := n1_
    have HB := n2_
    clear n0_ n1_ n2_
    refine start_ (n := 7) (S := fun w' => w'.cell? ⟨gb548, 0, none⟩ = some (.int .i64 a0_0) ∧ w'.cell? ⟨gb548, 1, none⟩ = some (.int .i64 a0_1) ∧ w'.cell? ⟨gb549, 0, none⟩ = some (.int .i64 a1_0) ∧ w'.cell? ⟨gb549, 1, none⟩ = some (.int .i64 a1_1)) (ds := []) #[false, false, false, false, false, false, false] (by kernel_rfl) rfl rfl ⟨(zJ BK548.out 0).trans rfl, (zJ BK548.out 1).trans rfl, (zJ BK549.out 0).trans rfl, (zJ BK549.out 1).trans rfl⟩ (fun hHeld => ?_)
    generalize w44.drew = w45 at BK548 BK549 HB hHeld ⊢
    refine pure_ (i := 0) (N := some 11) (v := ?_) (a' := ?_) #[true, false, false, false, false, false, false] rfl rfl (by kernel_rfl) (fun _ _ _ h => h) (Or.inl ⟨by rfl, ?_⟩) ?_ ?_
    rotate_left
    ·intro w'
     go_simp
     with_reducible rfl
    rotate_left
    ·simp only [Act.put, zL, zM, zN, i64_w, i32_w]
     rfl
    refine pure_ (i := 3) (N := some 14) (v := ?_) (a' := ?_) #[true, false, false, true, false, false, false] rfl rfl (by kernel_rfl) (fun _ _ _ h => h) (Or.inl ⟨by rfl, ?_⟩) ?_ ?_
    rotate_left
    ·intro w'
     go_simp
     with_reducible rfl
    rotate_left
    ·simp only [Act.put, zL, zM, zN, i64_w, i32_w]
     rfl
    refine take_ (i := 1) (N := some 12) (v := ?_) (a' := ?_) #[true, true, false, true, false, false, false] rfl rfl (by kernel_rfl) (fun _ _ _ h => h) (Or.inl ⟨by rfl, ?_⟩) hHeld ?_ ?_
    rotate_left
    ·rintro w' ⟨s0, s1, s2, s3⟩
     go_simp
     with_reducible rfl
    rotate_left
    ·simp only [Act.put, zL, zM, zN, i64_w, i32_w]
     rfl
    refine take_ (i := 4) (N := some 15) (v := ?_) (a' := ?_) #[true, true, false, true, true, false, false] rfl rfl (by kernel_rfl) (fun _ _ _ h => h) (Or.inl ⟨by rfl, ?_⟩) hHeld ?_ ?_
    rotate_left
    ·rintro w' ⟨s0, s1, s2, s3⟩
     go_simp
     with_reducible rfl
    rotate_left
    ·simp only [Act.put, zL, zM, zN, i64_w, i32_w]
     rfl
    refine one_ (i := 2) (N := some 13) #[true, true, true, true, true, false, false] rfl rfl (by kernel_rfl) (by decide) (fun K hK => ?_)
    refine goes_ Try.func71 (by kernel_rfl) rfl #[.int .i64 a0_0] (by rfl) rfl rfl (by (try simp only [zW, yA, yB]); first | done | rfl | (simp only [zX, zZ]; rfl)) ?_
    with_reducible refine (spec_l1Sign.calls a0_0 t550 _ A3.out).mono ?_
    rintro e w' ⟨rfl, ⟨nd, rfl⟩⟩
    refine ⟨_, rfl, ?_⟩
    refine hK.out _ _ ⟨(zJ BK548.out 0).trans rfl, (zJ BK548.out 1).trans rfl, (zJ BK549.out 0).trans rfl, (zJ BK549.out 1).trans rfl⟩ (fun hHeld => ?_)
    clear hK K
    refine norm_ (a' := ?_) ?_ ?_
    rotate_left
    ·show Act.put _ (some 13) _ = _
     simp only [Act.put, zL, zM, zN, i64_w, i32_w]
     rfl
    refine one_ (i := 5) (N := some 16) #[true, true, true, true, true, true, false] rfl rfl (by kernel_rfl) (by decide) (fun K hK => ?_)
    refine goes_ Try.func71 (by kernel_rfl) rfl #[.int .i64 a1_0] (by rfl) rfl rfl (by (try simp only [zW, yA, yB]); first | done | rfl | (simp only [zX, zZ]; rfl)) ?_
    with_reducible refine (spec_l1Sign.calls a1_0 t551 _ A4.out).mono ?_
    rintro e w' ⟨rfl, ⟨nd, rfl⟩⟩
    refine ⟨_, rfl, ?_⟩
    refine hK.out _ _ ⟨(zJ BK548.out 0).trans rfl, (zJ BK548.out 1).trans rfl, (zJ BK549.out 0).trans rfl, (zJ BK549.out 1).trans rfl⟩ (fun hHeld => ?_)
    clear hK K
    refine norm_ (a' := ?_) ?_ ?_
    rotate_left
    ·show Act.put _ (some 16) _ = _
     simp only [Act.put, zL, zM, zN, i64_w, i32_w]
     rfl
    refine pure_ (i := 6) (N := some 17) (v := ?_) (a' := ?_) #[true, true, true, true, true, true, true] rfl rfl (by kernel_rfl) (fun _ _ _ h => h) (Or.inl ⟨by rfl, ?_⟩) ?_ ?_
    rotate_left
    ·intro w'
     go_simp
     with_reducible rfl
    rotate_left
    ·simp only [Act.put, zL, zM, zN, i64_w, i32_w]
     rfl
    refine done_ (by kernel_rfl) ?_
    have hnb46 := NB548_549.out
    have hnc46 := NB549_548.out
    have hcz47_0 : w45.cell? ⟨gb548, 0, none⟩ = some (.int .i64 a0_0) := (zJ BK548.out 0).trans rfl
    have hcz47_1 : w45.cell? ⟨gb548, 1, none⟩ = some (.int .i64 a0_1) := (zJ BK548.out 1).trans rfl
    have hfz47_0 := zK BK548.out 0
    have hfz47_1 := zK BK548.out 1
    try go_wp2
    (try ((repeat rw [World.drewN_drewN]); rw [drewN_self w45]; generalize hq_ : World.drewN w45 _ = w45; have n0_ : Aside0 (w45.heap[gb548]? = some (.cells #[.int .i64 a0_0, .int .i64 a0_1] 26 (0, 0))) := ⟨by rw [← hq_]; exact (by (with_reducible repeat (first | refine zB ?_ _ | refine zD ?_ | refine zC ?_ _)); exact BK548.out)⟩; have n1_ : Aside0 (w45.heap[gb549]? = some (.cells #[.int .i64 a1_0, .int .i64 a1_1] 26 (0, 0))) := ⟨by rw [← hq_]; exact (by (with_reducible repeat (first | refine zB ?_ _ | refine zD ?_ | refine zC ?_ _)); exact BK549.out)⟩; have n2_ : Aside0 (Below w.heap.size w w45) := ⟨by rw [← hq_]; exact (by repeat (first | (with_reducible first | exact HB.out | apply zG | apply zE | apply zF | refine zH ?_ GE548.out | refine zH ?_ GE549.out) | exact HB.out))⟩; clear BK548 BK549 HB hq_; have BK548 := n0_; have BK549 := n1_; have HB := n2_; clear n0_ n1_ n2_))
    (try (have hcu48_0 : w45.cell? ⟨gb548, 0, none⟩ = some (.int .i64 a0_0) := (zJ BK548.out 0).trans rfl; have hfu48_0 := zK BK548.out 0))
    (try (have hcu48_1 : w45.cell? ⟨gb548, 1, none⟩ = some (.int .i64 a0_1) := (zJ BK548.out 1).trans rfl; have hfu48_1 := zK BK548.out 1))
    (try (have hcu49_0 : w45.cell? ⟨gb549, 0, none⟩ = some (.int .i64 a1_0) := (zJ BK549.out 0).trans rfl; have hfu49_0 := zK BK549.out 0))
    (try (have hcu49_1 : w45.cell? ⟨gb549, 1, none⟩ = some (.int .i64 a1_1) := (zJ BK549.out 1).trans rfl; have hfu49_1 := zK BK549.out 1))
    have n0_ := zA (zD BK548.out)
    have n1_ := zA (zD BK549.out)
    have n2_ := zA (zF HB.out)
    clear BK548
    clear BK549
    clear HB
    have BK548 := n0_
    have BK549 := n1_
    have HB := n2_
    clear n0_ n1_ n2_
    refine start_ (n := 8) (S := fun w' => w'.cell? ⟨gb548, 0, none⟩ = some (.int .i64 a0_0) ∧ w'.cell? ⟨gb548, 1, none⟩ = some (.int .i64 a0_1)) (ds := []) #[false, false, false, false, false, false, false, false] (by kernel_rfl) rfl rfl ⟨(zJ BK548.out 0).trans rfl, (zJ BK548.out 1).trans rfl⟩ (fun hHeld => ?_); refine with_tabW spec_l1Cmp.tab5 spec_l1Cmp.bits5 (fun HT_ HW_ => ?_)
    generalize w45.drew = w50 at BK548 BK549 HB hHeld ⊢
    refine pure_ (i := 0) (N := some 29) (v := ?_) (a' := ?_) #[true, false, false, false, false, false, false, false] rfl rfl (any_of HT_.out (by kernel_rfl)) (fun _ _ _ h => h) (Or.inl ⟨by rfl, ?_⟩) ?_ ?_
    rotate_left
    ·intro w'
     go_simp
     with_reducible rfl
    rotate_left
    ·simp only [Act.put, zL, zM, zN, i64_w, i32_w]
     rfl
    refine pure_ (i := 4) (N := some 33) (v := ?_) (a' := ?_) #[true, false, false, false, true, false, false, false] rfl rfl (any_of HT_.out (by kernel_rfl)) (fun _ _ _ h => h) (Or.inl ⟨by rfl, ?_⟩) ?_ ?_
    rotate_left
    ·intro w'
     go_simp
     with_reducible rfl
    rotate_left
    ·simp only [Act.put, zL, zM, zN, i64_w, i32_w]
     rfl
    refine take_ (i := 1) (N := some 30) (v := ?_) (a' := ?_) #[true, true, false, false, true, false, false, false] rfl rfl (take_ofW HT_.out HW_.out (by kernel_rfl)) (fun _ _ _ h => h) (Or.inl ⟨by rfl, ?_⟩) hHeld ?_ ?_
    rotate_left
    ·rintro w' ⟨s0, s1⟩
     go_simp
     with_reducible rfl
    rotate_left
    ·simp only [Act.put, zL, zM, zN, i64_w, i32_w]
     rfl
    refine take_ (i := 5) (N := some 34) (v := ?_) (a' := ?_) #[true, true, false, false, true, true, false, false] rfl rfl (take_ofW HT_.out HW_.out (by kernel_rfl)) (fun _ _ _ h => h) (Or.inl ⟨by rfl, ?_⟩) hHeld ?_ ?_
    rotate_left
    ·rintro w' ⟨s0, s1⟩
     go_simp
     with_reducible rfl
    rotate_left
    ·simp only [Act.put, zL, zM, zN, i64_w, i32_w]
     rfl
    refine one_ (i := 2) (N := some 31) #[true, true, true, false, true, true, false, false] rfl rfl (one_of HT_.out (by kernel_rfl)) (by decide) (fun K hK => ?_)
    refine goes_ Try.func73 (by kernel_rfl) rfl #[.int .i64 a0_0] (by rfl) rfl rfl (by (try simp only [zW, yA, yB]); first | done | rfl | (simp only [zX, zZ]; rfl)) ?_
    with_reducible refine (spec_l1Abs.calls a0_0 t555 _ A12.out).mono ?_
    rintro e w' ⟨rfl, ⟨nd, rfl⟩⟩
    refine ⟨_, rfl, ?_⟩
    refine hK.out _ _ ⟨(zJ BK548.out 0).trans rfl, (zJ BK548.out 1).trans rfl⟩ (fun hHeld => ?_)
    clear hK K
    refine norm_ (a' := ?_) ?_ ?_
    rotate_left
    ·show Act.put _ (some 31) _ = _
     simp only [Act.put, zL, zM, zN, i64_w, i32_w]
     rfl
    refine one_ (i := 3) (N := some 32) #[true, true, true, true, true, true, false, false] rfl rfl (one_of HT_.out (by kernel_rfl)) (by decide) (fun K hK => ?_)
    refine goes_ Try.func72 (by kernel_rfl) rfl #[.int .i64 t555] (by rfl) rfl rfl (by (try simp only [zW, yA, yB]); first | done | rfl | (simp only [zX, zZ]; rfl)) ?_
    with_reducible refine (spec_l1Digits.calls k t555 t556 _ A13.out).mono ?_
    rintro e w51 ⟨rfl, hb⟩
    refine ⟨_, rfl, ?_⟩
    have n0_ := zA (zP (g := gb548) (o := .cells #[.int .i64 a0_0, .int .i64 a0_1] 26 (0, 0)) (by (with_reducible repeat (first | refine zB ?_ _ | refine zD ?_ | refine zC ?_ _)); exact BK548.out) hb)
    have n1_ := zA (zP (g := gb549) (o := .cells #[.int .i64 a1_0, .int .i64 a1_1] 26 (0, 0)) (by (with_reducible repeat (first | refine zB ?_ _ | refine zD ?_ | refine zC ?_ _)); exact BK549.out) hb)
    have n2_ := zA (zQ (by repeat (first | (with_reducible first | exact HB.out | apply zG | apply zE | apply zF | refine zH ?_ GE548.out | refine zH ?_ GE549.out) | exact HB.out)) hb)
    clear BK548
    clear BK549
    clear HB
    have BK548 := n0_
    have BK549 := n1_
    have HB := n2_
    clear n0_ n1_ n2_
    (try clear hb)
    (try clear hb2)
    (try clear hk)
    (try clear hi)
    refine hK.out _ _ ⟨(zJ BK548.out 0).trans rfl, (zJ BK548.out 1).trans rfl⟩ (fun hHeld => ?_)
    clear hK K
    refine norm_ (a' := ?_) ?_ ?_
    rotate_left
    ·show Act.put _ (some 32) _ = _
     simp only [Act.put, zL, zM, zN, i64_w, i32_w]
     rfl
    refine pure_ (i := 6) (N := some 35) (v := ?_) (a' := ?_) #[true, true, true, true, true, true, true, false] rfl rfl (any_of HT_.out (by kernel_rfl)) (fun _ _ _ h => h) (Or.inl ⟨by rfl, ?_⟩) ?_ ?_
    rotate_left
    ·intro w'
     go_simp
     with_reducible rfl
    rotate_left
    ·simp only [Act.put, zL, zM, zN, i64_w, i32_w]
     rfl
    refine pure_ (i := 7) (N := some 5) (v := ?_) (a' := ?_) #[true, true, true, true, true, true, true, true] rfl rfl (any_of HT_.out (by kernel_rfl)) (fun _ _ _ h => h) (Or.inl ⟨by rfl, ?_⟩) ?_ ?_
    rotate_left
    ·intro w'
     go_simp
     with_reducible rfl
    rotate_left
    ·simp only [Act.put, zL, zM, zN, i64_w, i32_w]
     rfl
    refine done_ (done_of HT_.out (by kernel_rfl)) ?_
    try go_wp2
    have n0_ := zA (zD BK548.out)
    have n1_ := zA (zD BK549.out)
    have n2_ := zA (zF HB.out)
    clear BK548
    clear BK549
    clear HB
    have BK548 := n0_
    have BK549 := n1_
    have HB := n2_
    clear n0_ n1_ n2_
    refine start_ (n := 8) (S := fun w' => w'.cell? ⟨gb549, 0, none⟩ = some (.int .i64 a1_0) ∧ w'.cell? ⟨gb549, 1, none⟩ = some (.int .i64 a1_1)) (ds := []) #[false, false, false, false, false, false, false, false] (by kernel_rfl) rfl rfl ⟨(zJ BK549.out 0).trans rfl, (zJ BK549.out 1).trans rfl⟩ (fun hHeld => ?_); refine with_tabW spec_l1Cmp.tab6 spec_l1Cmp.bits6 (fun HT_ HW_ => ?_)
    generalize w51.drew = w52 at BK548 BK549 HB hHeld ⊢
    refine pure_ (i := 0) (N := some 36) (v := ?_) (a' := ?_) #[true, false, false, false, false, false, false, false] rfl rfl (any_of HT_.out (by kernel_rfl)) (fun _ _ _ h => h) (Or.inl ⟨by rfl, ?_⟩) ?_ ?_
    rotate_left
    ·intro w'
     go_simp
     with_reducible rfl
    rotate_left
    ·simp only [Act.put, zL, zM, zN, i64_w, i32_w]
     rfl
    refine pure_ (i := 4) (N := some 40) (v := ?_) (a' := ?_) #[true, false, false, false, true, false, false, false] rfl rfl (any_of HT_.out (by kernel_rfl)) (fun _ _ _ h => h) (Or.inl ⟨by rfl, ?_⟩) ?_ ?_
    rotate_left
    ·intro w'
     go_simp
     with_reducible rfl
    rotate_left
    ·simp only [Act.put, zL, zM, zN, i64_w, i32_w]
     rfl
    refine take_ (i := 1) (N := some 37) (v := ?_) (a' := ?_) #[true, true, false, false, true, false, false, false] rfl rfl (take_ofW HT_.out HW_.out (by kernel_rfl)) (fun _ _ _ h => h) (Or.inl ⟨by rfl, ?_⟩) hHeld ?_ ?_
    rotate_left
    ·rintro w' ⟨s0, s1⟩
     go_simp
     with_reducible rfl
    rotate_left
    ·simp only [Act.put, zL, zM, zN, i64_w, i32_w]
     rfl
    refine take_ (i := 5) (N := some 41) (v := ?_) (a' := ?_) #[true, true, false, false, true, true, false, false] rfl rfl (take_ofW HT_.out HW_.out (by kernel_rfl)) (fun _ _ _ h => h) (Or.inl ⟨by rfl, ?_⟩) hHeld ?_ ?_
    rotate_left
    ·rintro w' ⟨s0, s1⟩
     go_simp
     with_reducible rfl
    rotate_left
    ·simp only [Act.put, zL, zM, zN, i64_w, i32_w]
     rfl
    refine one_ (i := 2) (N := some 38) #[true, true, true, false, true, true, false, false] rfl rfl (one_of HT_.out (by kernel_rfl)) (by decide) (fun K hK => ?_)
    refine goes_ Try.func73 (by kernel_rfl) rfl #[.int .i64 a1_0] (by rfl) rfl rfl (by (try simp only [zW, yA, yB]); first | done | rfl | (simp only [zX, zZ]; rfl)) ?_
    with_reducible refine (spec_l1Abs.calls a1_0 t557 _ A14.out).mono ?_
    rintro e w' ⟨rfl, ⟨nd, rfl⟩⟩
    refine ⟨_, rfl, ?_⟩
    refine hK.out _ _ ⟨(zJ BK549.out 0).trans rfl, (zJ BK549.out 1).trans rfl⟩ (fun hHeld => ?_)
    clear hK K
    refine norm_ (a' := ?_) ?_ ?_
    rotate_left
    ·show Act.put _ (some 38) _ = _
     simp only [Act.put, zL, zM, zN, i64_w, i32_w]
     rfl
    refine one_ (i := 3) (N := some 39) #[true, true, true, true, true, true, false, false] rfl rfl (one_of HT_.out (by kernel_rfl)) (by decide) (fun K hK => ?_)
    refine goes_ Try.func72 (by kernel_rfl) rfl #[.int .i64 t557] (by rfl) rfl rfl (by (try simp only [zW, yA, yB]); first | done | rfl | (simp only [zX, zZ]; rfl)) ?_
    with_reducible refine (spec_l1Digits.calls k t557 t558 _ A15.out).mono ?_
    rintro e w53 ⟨rfl, hb⟩
    refine ⟨_, rfl, ?_⟩
    have n0_ := zA (zP (g := gb548) (o := .cells #[.int .i64 a0_0, .int .i64 a0_1] 26 (0, 0)) (by (with_reducible repeat (first | refine zB ?_ _ | refine zD ?_ | refine zC ?_ _)); exact BK548.out) hb)
    have n1_ := zA (zP (g := gb549) (o := .cells #[.int .i64 a1_0, .int .i64 a1_1] 26 (0, 0)) (by (with_reducible repeat (first | refine zB ?_ _ | refine zD ?_ | refine zC ?_ _)); exact BK549.out) hb)
    have n2_ := zA (zQ (by repeat (first | (with_reducible first | exact HB.out | apply zG | apply zE | apply zF | refine zH ?_ GE548.out | refine zH ?_ GE549.out) | exact HB.out)) hb)
    clear BK548
    clear BK549
    clear HB
    have BK548 := n0_
    have BK549 := n1_
    have HB := n2_
    clear n0_ n1_ n2_
    (try clear hb)
    (try clear hb2)
    (try clear hk)
    (try clear hi)
    refine hK.out _ _ ⟨(zJ BK549.out 0).trans rfl, (zJ BK549.out 1).trans rfl⟩ (fun hHeld => ?_)
    clear hK K
    refine norm_ (a' := ?_) ?_ ?_
    rotate_left
    ·show Act.put _ (some 39) _ = _
     simp only [Act.put, zL, zM, zN, i64_w, i32_w]
     rfl
    refine pure_ (i := 6) (N := some 42) (v := ?_) (a' := ?_) #[true, true, true, true, true, true, true, false] rfl rfl (any_of HT_.out (by kernel_rfl)) (fun _ _ _ h => h) (Or.inl ⟨by rfl, ?_⟩) ?_ ?_
    rotate_left
    ·intro w'
     go_simp
     with_reducible rfl
    rotate_left
    ·simp only [Act.put, zL, zM, zN, i64_w, i32_w]
     rfl
    refine pure_ (i := 7) (N := some 6) (v := ?_) (a' := ?_) #[true, true, true, true, true, true, true, true] rfl rfl (any_of HT_.out (by kernel_rfl)) (fun _ _ _ h => h) (Or.inl ⟨by rfl, ?_⟩) ?_ ?_
    rotate_left
    ·intro w'
     go_simp
     with_reducible rfl
    rotate_left
    ·simp only [Act.put, zL, zM, zN, i64_w, i32_w]
     rfl
    refine done_ (done_of HT_.out (by kernel_rfl)) ?_
    try go_wp2
    have n0_ := zA (zD BK548.out)
    have n1_ := zA (zD BK549.out)
    have n2_ := zA (zF HB.out)
    clear BK548
    clear BK549
    clear HB
    have BK548 := n0_
    have BK549 := n1_
    have HB := n2_
    clear n0_ n1_ n2_
    refine start_ (n := 9) (S := fun w' => w'.cell? ⟨gb548, 0, none⟩ = some (.int .i64 a0_0) ∧ w'.cell? ⟨gb548, 1, none⟩ = some (.int .i64 a0_1)) (ds := []) #[false, false, false, false, false, false, false, false, false] (by kernel_rfl) rfl rfl ⟨(zJ BK548.out 0).trans rfl, (zJ BK548.out 1).trans rfl⟩ (fun hHeld => ?_); refine with_tabW spec_l1Cmp.tab8 spec_l1Cmp.bits8 (fun HT_ HW_ => ?_)
    generalize w53.drew = w54 at BK548 BK549 HB hHeld ⊢
    refine pure_ (i := 0) (N := some 46) (v := ?_) (a' := ?_) #[true, false, false, false, false, false, false, false, false] rfl rfl (any_of HT_.out (by kernel_rfl)) (fun _ _ _ h => h) (Or.inl ⟨by rfl, ?_⟩) ?_ ?_
    rotate_left
    ·intro w'
     go_simp
     with_reducible rfl
    rotate_left
    ·simp only [Act.put, zL, zM, zN, i64_w, i32_w]
     rfl
    refine pure_ (i := 1) (N := some 47) (v := ?_) (a' := ?_) #[true, true, false, false, false, false, false, false, false] rfl rfl (any_of HT_.out (by kernel_rfl)) (fun _ _ _ h => h) (Or.inl ⟨by rfl, ?_⟩) ?_ ?_
    rotate_left
    ·intro w'
     go_simp
     with_reducible rfl
    rotate_left
    ·simp only [Act.put, zL, zM, zN, i64_w, i32_w]
     rfl
    refine pure_ (i := 2) (N := some 48) (v := ?_) (a' := ?_) #[true, true, true, false, false, false, false, false, false] rfl rfl (any_of HT_.out (by kernel_rfl)) (fun _ _ _ h => h) (Or.inl ⟨by rfl, ?_⟩) ?_ ?_
    rotate_left
    ·intro w'
     go_simp
     with_reducible rfl
    rotate_left
    ·simp only [Act.put, zL, zM, zN, i64_w, i32_w]
     rfl
    refine pure_ (i := 4) (N := some 50) (v := ?_) (a' := ?_) #[true, true, true, false, true, false, false, false, false] rfl rfl (any_of HT_.out (by kernel_rfl)) (fun _ _ _ h => h) (Or.inl ⟨by rfl, ?_⟩) ?_ ?_
    rotate_left
    ·intro w'
     go_simp
     with_reducible rfl
    rotate_left
    ·simp only [Act.put, zL, zM, zN, i64_w, i32_w]
     rfl
    refine take_ (i := 5) (N := some 51) (v := ?_) (a' := ?_) #[true, true, true, false, true, true, false, false, false] rfl rfl (take_ofW HT_.out HW_.out (by kernel_rfl)) (fun _ _ _ h => h) (Or.inl ⟨by rfl, ?_⟩) hHeld ?_ ?_
    rotate_left
    ·rintro w' ⟨s0, s1⟩
     go_simp
     with_reducible rfl
    rotate_left
    ·simp only [Act.put, zL, zM, zN, i64_w, i32_w]
     rfl
    refine one_ (i := 3) (N := some 49) #[true, true, true, true, true, true, false, false, false] rfl rfl (one_of HT_.out (by kernel_rfl)) (by decide) (fun K hK => ?_)
    refine goes_ Try.func71 (by kernel_rfl) rfl #[.int .i64 (wrap64 ((wrap64 (t556 + a0_1)) - (wrap64 (t558 + a1_1))))] (by rfl) rfl rfl (by (try simp only [zW, yA, yB]); first | done | rfl | (simp only [zX, zZ]; rfl)) ?_
    with_reducible refine (spec_l1Sign.calls (wrap64 ((wrap64 (t556 + a0_1)) - (wrap64 (t558 + a1_1)))) t559 _ A41.out).mono ?_
    rintro e w' ⟨rfl, ⟨nd, rfl⟩⟩
    refine ⟨_, rfl, ?_⟩
    refine hK.out _ _ ⟨(zJ BK548.out 0).trans rfl, (zJ BK548.out 1).trans rfl⟩ (fun hHeld => ?_)
    clear hK K
    refine norm_ (a' := ?_) ?_ ?_
    rotate_left
    ·show Act.put _ (some 49) _ = _
     simp only [Act.put, zL, zM, zN, i64_w, i32_w]
     rfl
    refine one_ (i := 6) (N := some 52) #[true, true, true, true, true, true, true, false, false] rfl rfl (one_of HT_.out (by kernel_rfl)) (by decide) (fun K hK => ?_)
    refine goes_ Try.func71 (by kernel_rfl) rfl #[.int .i64 a0_0] (by rfl) rfl rfl (by (try simp only [zW, yA, yB]); first | done | rfl | (simp only [zX, zZ]; rfl)) ?_
    with_reducible refine (spec_l1Sign.calls a0_0 t560 _ A42.out).mono ?_
    rintro e w' ⟨rfl, ⟨nd, rfl⟩⟩
    refine ⟨_, rfl, ?_⟩
    refine hK.out _ _ ⟨(zJ BK548.out 0).trans rfl, (zJ BK548.out 1).trans rfl⟩ (fun hHeld => ?_)
    clear hK K
    refine norm_ (a' := ?_) ?_ ?_
    rotate_left
    ·show Act.put _ (some 52) _ = _
     simp only [Act.put, zL, zM, zN, i64_w, i32_w]
     rfl
    refine pure_ (i := 7) (N := some 53) (v := ?_) (a' := ?_) #[true, true, true, true, true, true, true, true, false] rfl rfl (any_of HT_.out (by kernel_rfl)) (fun _ _ _ h => h) (Or.inl ⟨by rfl, ?_⟩) ?_ ?_
    rotate_left
    ·intro w'
     go_simp
     with_reducible rfl
    rotate_left
    ·simp only [Act.put, zL, zM, zN, i64_w, i32_w]
     rfl
    refine pure_ (i := 8) (N := some 4) (v := ?_) (a' := ?_) #[true, true, true, true, true, true, true, true, true] rfl rfl (any_of HT_.out (by kernel_rfl)) (fun _ _ _ h => h) (Or.inl ⟨by rfl, ?_⟩) ?_ ?_
    rotate_left
    ·intro w'
     go_simp
     with_reducible rfl
    rotate_left
    ·simp only [Act.put, zL, zM, zN, i64_w, i32_w]
     rfl
    refine done_ (done_of HT_.out (by kernel_rfl)) ?_
    try go_wp2
    go_ret
    exact ⟨by first | rfl | (simp [errW_none, errW_some] <;> rfl) | (simp [*, errW_none, errW_some] <;> rfl), by repeat (first | (with_reducible first | exact HB.out | apply zG | apply zE | apply zF | refine zH ?_ GE548.out | refine zH ?_ GE549.out) | exact HB.out)⟩
 ·rw [if_neg c5] at H
  have c5b0 : (t550 == t551) = false := beq_eq_false_iff_ne.mpr c5
  have c5b1 : (t550 != t551) = true := bne_iff_ne.mpr c5
  replace H := Option.bind_eq_some_iff.mp H
  obtain ⟨t552, A550, H⟩ := H
  replace H : ((spec_l1Sign.f a1_0).bind fun t553 => ((spec_l1Sign.f (wrap64 (t552 - t553))).bind fun t554 => (some t554))) = some r := H
  have A55 := zA A550
  clear A550
  replace H := Option.bind_eq_some_iff.mp H
  obtain ⟨t553, A560, H⟩ := H
  replace H : ((spec_l1Sign.f (wrap64 (t552 - t553))).bind fun t554 => (some t554)) = some r := H
  have A56 := zA A560
  clear A560
  replace H := Option.bind_eq_some_iff.mp H
  obtain ⟨t554, A570, H⟩ := H
  replace H : (some t554) = some r := H
  have A57 := zA A570
  clear A570
  obtain rfl := Option.some.inj H
  go_enter Try.func62, Try.ntmps62
  try go_wp2_with (first | ((with_reducible refine zS (N := 2) rfl ?_); refine zV ?hg (N := 2) ?hd (cs := #[.int .i64 a0_0, .int .i64 a0_1]) (t := 26) ?hr ?_; (case hd => rfl); (case hg => rfl); (case hr => first | (go_simp; done) | (go_simp; rfl)); intro gb548 hg w58 hbox hb; have n0_ := zA (zQ (by repeat (first | (with_reducible first | exact HB.out | apply zG | apply zE | apply zF) | exact HB.out)) hb); have n1_ := zA (hbox); have n2_ := zA ((by rw [hg]; exact (zR (by repeat (first | (with_reducible first | exact HB.out | apply zG | apply zE | apply zF) | exact HB.out))) : w.heap.size ≤ gb548)); have n3_ := zA ((by rw [hg]; exact (zR (by repeat (first | (with_reducible first | exact HB.out | apply zG | apply zE | apply zF) | exact HB.out))) : w.heap.size ≤ gb548)); clear HB; have HB := n0_; have BK548 := n1_; have GW548 := n2_; have GE548 := n3_; clear n0_ n1_ n2_ n3_; clear hb hbox hg) | ((with_reducible refine zS (N := 3) rfl ?_); refine zV ?hg (N := 3) ?hd (cs := #[.int .i64 a1_0, .int .i64 a1_1]) (t := 26) ?hr ?_; (case hd => rfl); (case hg => rfl); (case hr => first | (go_simp; done) | (go_simp; rfl)); intro gb549 hg w59 hbox hb; have n0_ := zA (zP (g := gb548) (o := .cells #[.int .i64 a0_0, .int .i64 a0_1] 26 (0, 0)) (by (with_reducible repeat (first | refine zB ?_ _ | refine zD ?_ | refine zC ?_ _)); exact BK548.out) hb); have n1_ := zA (zQ (by repeat (first | (with_reducible first | exact HB.out | apply zG | apply zE | apply zF | refine zH ?_ GE548.out) | exact HB.out)) hb); have n2_ := zA (hbox); have n3_ := zA ((by rw [hg]; exact (zR (by repeat (first | (with_reducible first | exact HB.out | apply zG | apply zE | apply zF | refine zH ?_ GE548.out) | exact HB.out))) : w.heap.size ≤ gb549)); have n4_ := zA ((by rw [hg]; exact (zR (by repeat (first | (with_reducible first | exact HB.out | apply zG | apply zE | apply zF | refine zH ?_ GE548.out) | exact HB.out))) : w.heap.size ≤ gb549)); have n5_ := zA ((by rw [hg]; exact Nat.ne_of_lt (blk_lt (g := gb548) (o := .cells #[.int .i64 a0_0, .int .i64 a0_1] 26 (0, 0)) (by (with_reducible repeat (first | refine zB ?_ _ | refine zD ?_ | refine zC ?_ _)); exact BK548.out)) : gb548 ≠ gb549)); have n6_ := zA ((by rw [hg]; exact Nat.ne_of_gt (blk_lt (g := gb548) (o := .cells #[.int .i64 a0_0, .int .i64 a0_1] 26 (0, 0)) (by (with_reducible repeat (first | refine zB ?_ _ | refine zD ?_ | refine zC ?_ _)); exact BK548.out)) : gb549 ≠ gb548)); clear BK548; clear HB; have BK548 := n0_; have HB := n1_; have BK549 := n2_; have GW549 := n3_; have GE549 := n4_; have NB548_549 := n5_; have NB549_548 := n6_; clear n0_ n1_ n2_ n3_ n4_ n5_ n6_; clear hb hbox hg))
  have n0_ := zA (zD BK548.out)
  have n1_ := zA (zD BK549.out)
  have n2_ := zA (zF HB.out)
  clear BK548
  clear BK549
  clear HB
  have BK548 := n0_
  have BK549 := n1_
  have HB := n2_
  clear n0_ n1_ n2_
  refine start_ (n := 7) (S := fun w' => w'.cell? ⟨gb548, 0, none⟩ = some (.int .i64 a0_0) ∧ w'.cell? ⟨gb548, 1, none⟩ = some (.int .i64 a0_1) ∧ w'.cell? ⟨gb549, 0, none⟩ = some (.int .i64 a1_0) ∧ w'.cell? ⟨gb549, 1, none⟩ = some (.int .i64 a1_1)) (ds := []) #[false, false, false, false, false, false, false] (by kernel_rfl) rfl rfl ⟨(zJ BK548.out 0).trans rfl, (zJ BK548.out 1).trans rfl, (zJ BK549.out 0).trans rfl, (zJ BK549.out 1).trans rfl⟩ (fun hHeld => ?_)
  generalize w59.drew = w60 at BK548 BK549 HB hHeld ⊢
  refine pure_ (i := 0) (N := some 11) (v := ?_) (a' := ?_) #[true, false, false, false, false, false, false] rfl rfl (by kernel_rfl) (fun _ _ _ h => h) (Or.inl ⟨by rfl, ?_⟩) ?_ ?_
  rotate_left
  ·intro w'
   go_simp
   with_reducible rfl
  rotate_left
  ·simp only [Act.put, zL, zM, zN, i64_w, i32_w]
   rfl
  refine pure_ (i := 3) (N := some 14) (v := ?_) (a' := ?_) #[true, false, false, true, false, false, false] rfl rfl (by kernel_rfl) (fun _ _ _ h => h) (Or.inl ⟨by rfl, ?_⟩) ?_ ?_
  rotate_left
  ·intro w'
   go_simp
   with_reducible rfl
  rotate_left
  ·simp only [Act.put, zL, zM, zN, i64_w, i32_w]
   rfl
  refine take_ (i := 1) (N := some 12) (v := ?_) (a' := ?_) #[true, true, false, true, false, false, false] rfl rfl (by kernel_rfl) (fun _ _ _ h => h) (Or.inl ⟨by rfl, ?_⟩) hHeld ?_ ?_
  rotate_left
  ·rintro w' ⟨s0, s1, s2, s3⟩
   go_simp
   with_reducible rfl
  rotate_left
  ·simp only [Act.put, zL, zM, zN, i64_w, i32_w]
   rfl
  refine take_ (i := 4) (N := some 15) (v := ?_) (a' := ?_) #[true, true, false, true, true, false, false] rfl rfl (by kernel_rfl) (fun _ _ _ h => h) (Or.inl ⟨by rfl, ?_⟩) hHeld ?_ ?_
  rotate_left
  ·rintro w' ⟨s0, s1, s2, s3⟩
   go_simp
   with_reducible rfl
  rotate_left
  ·simp only [Act.put, zL, zM, zN, i64_w, i32_w]
   rfl
  refine one_ (i := 2) (N := some 13) #[true, true, true, true, true, false, false] rfl rfl (by kernel_rfl) (by decide) (fun K hK => ?_)
  refine goes_ Try.func71 (by kernel_rfl) rfl #[.int .i64 a0_0] (by rfl) rfl rfl (by (try simp only [zW, yA, yB]); first | done | rfl | (simp only [zX, zZ]; rfl)) ?_
  with_reducible refine (spec_l1Sign.calls a0_0 t550 _ A3.out).mono ?_
  rintro e w' ⟨rfl, ⟨nd, rfl⟩⟩
  refine ⟨_, rfl, ?_⟩
  refine hK.out _ _ ⟨(zJ BK548.out 0).trans rfl, (zJ BK548.out 1).trans rfl, (zJ BK549.out 0).trans rfl, (zJ BK549.out 1).trans rfl⟩ (fun hHeld => ?_)
  clear hK K
  refine norm_ (a' := ?_) ?_ ?_
  rotate_left
  ·show Act.put _ (some 13) _ = _
   simp only [Act.put, zL, zM, zN, i64_w, i32_w]
   rfl
  refine one_ (i := 5) (N := some 16) #[true, true, true, true, true, true, false] rfl rfl (by kernel_rfl) (by decide) (fun K hK => ?_)
  refine goes_ Try.func71 (by kernel_rfl) rfl #[.int .i64 a1_0] (by rfl) rfl rfl (by (try simp only [zW, yA, yB]); first | done | rfl | (simp only [zX, zZ]; rfl)) ?_
  with_reducible refine (spec_l1Sign.calls a1_0 t551 _ A4.out).mono ?_
  rintro e w' ⟨rfl, ⟨nd, rfl⟩⟩
  refine ⟨_, rfl, ?_⟩
  refine hK.out _ _ ⟨(zJ BK548.out 0).trans rfl, (zJ BK548.out 1).trans rfl, (zJ BK549.out 0).trans rfl, (zJ BK549.out 1).trans rfl⟩ (fun hHeld => ?_)
  clear hK K
  refine norm_ (a' := ?_) ?_ ?_
  rotate_left
  ·show Act.put _ (some 16) _ = _
   simp only [Act.put, zL, zM, zN, i64_w, i32_w]
   rfl
  refine pure_ (i := 6) (N := some 17) (v := ?_) (a' := ?_) #[true, true, true, true, true, true, true] rfl rfl (by kernel_rfl) (fun _ _ _ h => h) (Or.inl ⟨by rfl, ?_⟩) ?_ ?_
  rotate_left
  ·intro w'
   go_simp
   with_reducible rfl
  rotate_left
  ·simp only [Act.put, zL, zM, zN, i64_w, i32_w]
   rfl
  refine done_ (by kernel_rfl) ?_
  try go_wp2
  (try ((repeat rw [World.drewN_drewN]); rw [drewN_self w60]; generalize hq_ : World.drewN w60 _ = w60; have n0_ : Aside0 (w60.heap[gb548]? = some (.cells #[.int .i64 a0_0, .int .i64 a0_1] 26 (0, 0))) := ⟨by rw [← hq_]; exact (by (with_reducible repeat (first | refine zB ?_ _ | refine zD ?_ | refine zC ?_ _)); exact BK548.out)⟩; have n1_ : Aside0 (w60.heap[gb549]? = some (.cells #[.int .i64 a1_0, .int .i64 a1_1] 26 (0, 0))) := ⟨by rw [← hq_]; exact (by (with_reducible repeat (first | refine zB ?_ _ | refine zD ?_ | refine zC ?_ _)); exact BK549.out)⟩; have n2_ : Aside0 (Below w.heap.size w w60) := ⟨by rw [← hq_]; exact (by repeat (first | (with_reducible first | exact HB.out | apply zG | apply zE | apply zF | refine zH ?_ GE548.out | refine zH ?_ GE549.out) | exact HB.out))⟩; clear BK548 BK549 HB hq_; have BK548 := n0_; have BK549 := n1_; have HB := n2_; clear n0_ n1_ n2_))
  (try (have hcu61_0 : w60.cell? ⟨gb548, 0, none⟩ = some (.int .i64 a0_0) := (zJ BK548.out 0).trans rfl; have hfu61_0 := zK BK548.out 0))
  (try (have hcu61_1 : w60.cell? ⟨gb548, 1, none⟩ = some (.int .i64 a0_1) := (zJ BK548.out 1).trans rfl; have hfu61_1 := zK BK548.out 1))
  (try (have hcu62_0 : w60.cell? ⟨gb549, 0, none⟩ = some (.int .i64 a1_0) := (zJ BK549.out 0).trans rfl; have hfu62_0 := zK BK549.out 0))
  (try (have hcu62_1 : w60.cell? ⟨gb549, 1, none⟩ = some (.int .i64 a1_1) := (zJ BK549.out 1).trans rfl; have hfu62_1 := zK BK549.out 1))
  have n0_ := zA (zD BK548.out)
  have n1_ := zA (zD BK549.out)
  have n2_ := zA (zF HB.out)
  clear BK548
  clear BK549
  clear HB
  have BK548 := n0_
  have BK549 := n1_
  have HB := n2_
  clear n0_ n1_ n2_
  refine start_ (n := 9) (S := fun w' => w'.cell? ⟨gb548, 0, none⟩ = some (.int .i64 a0_0) ∧ w'.cell? ⟨gb548, 1, none⟩ = some (.int .i64 a0_1) ∧ w'.cell? ⟨gb549, 0, none⟩ = some (.int .i64 a1_0) ∧ w'.cell? ⟨gb549, 1, none⟩ = some (.int .i64 a1_1)) (ds := []) #[false, false, false, false, false, false, false, false, false] (by kernel_rfl) rfl rfl ⟨(zJ BK548.out 0).trans rfl, (zJ BK548.out 1).trans rfl, (zJ BK549.out 0).trans rfl, (zJ BK549.out 1).trans rfl⟩ (fun hHeld => ?_); refine with_tabW spec_l1Cmp.tab2 spec_l1Cmp.bits2 (fun HT_ HW_ => ?_)
  generalize w60.drew = w63 at BK548 BK549 HB hHeld ⊢
  refine pure_ (i := 0) (N := some 18) (v := ?_) (a' := ?_) #[true, false, false, false, false, false, false, false, false] rfl rfl (any_of HT_.out (by kernel_rfl)) (fun _ _ _ h => h) (Or.inl ⟨by rfl, ?_⟩) ?_ ?_
  rotate_left
  ·intro w'
   go_simp
   with_reducible rfl
  rotate_left
  ·simp only [Act.put, zL, zM, zN, i64_w, i32_w]
   rfl
  refine pure_ (i := 3) (N := some 21) (v := ?_) (a' := ?_) #[true, false, false, true, false, false, false, false, false] rfl rfl (any_of HT_.out (by kernel_rfl)) (fun _ _ _ h => h) (Or.inl ⟨by rfl, ?_⟩) ?_ ?_
  rotate_left
  ·intro w'
   go_simp
   with_reducible rfl
  rotate_left
  ·simp only [Act.put, zL, zM, zN, i64_w, i32_w]
   rfl
  refine take_ (i := 1) (N := some 19) (v := ?_) (a' := ?_) #[true, true, false, true, false, false, false, false, false] rfl rfl (take_ofW HT_.out HW_.out (by kernel_rfl)) (fun _ _ _ h => h) (Or.inl ⟨by rfl, ?_⟩) hHeld ?_ ?_
  rotate_left
  ·rintro w' ⟨s0, s1, s2, s3⟩
   go_simp
   with_reducible rfl
  rotate_left
  ·simp only [Act.put, zL, zM, zN, i64_w, i32_w]
   rfl
  refine take_ (i := 4) (N := some 22) (v := ?_) (a' := ?_) #[true, true, false, true, true, false, false, false, false] rfl rfl (take_ofW HT_.out HW_.out (by kernel_rfl)) (fun _ _ _ h => h) (Or.inl ⟨by rfl, ?_⟩) hHeld ?_ ?_
  rotate_left
  ·rintro w' ⟨s0, s1, s2, s3⟩
   go_simp
   with_reducible rfl
  rotate_left
  ·simp only [Act.put, zL, zM, zN, i64_w, i32_w]
   rfl
  refine one_ (i := 2) (N := some 20) #[true, true, true, true, true, false, false, false, false] rfl rfl (one_of HT_.out (by kernel_rfl)) (by decide) (fun K hK => ?_)
  refine goes_ Try.func71 (by kernel_rfl) rfl #[.int .i64 a0_0] (by rfl) rfl rfl (by (try simp only [zW, yA, yB]); first | done | rfl | (simp only [zX, zZ]; rfl)) ?_
  with_reducible refine (spec_l1Sign.calls a0_0 t552 _ A55.out).mono ?_
  rintro e w' ⟨rfl, ⟨nd, rfl⟩⟩
  refine ⟨_, rfl, ?_⟩
  refine hK.out _ _ ⟨(zJ BK548.out 0).trans rfl, (zJ BK548.out 1).trans rfl, (zJ BK549.out 0).trans rfl, (zJ BK549.out 1).trans rfl⟩ (fun hHeld => ?_)
  clear hK K
  refine norm_ (a' := ?_) ?_ ?_
  rotate_left
  ·show Act.put _ (some 20) _ = _
   simp only [Act.put, zL, zM, zN, i64_w, i32_w]
   rfl
  refine one_ (i := 5) (N := some 23) #[true, true, true, true, true, true, false, false, false] rfl rfl (one_of HT_.out (by kernel_rfl)) (by decide) (fun K hK => ?_)
  refine goes_ Try.func71 (by kernel_rfl) rfl #[.int .i64 a1_0] (by rfl) rfl rfl (by (try simp only [zW, yA, yB]); first | done | rfl | (simp only [zX, zZ]; rfl)) ?_
  with_reducible refine (spec_l1Sign.calls a1_0 t553 _ A56.out).mono ?_
  rintro e w' ⟨rfl, ⟨nd, rfl⟩⟩
  refine ⟨_, rfl, ?_⟩
  refine hK.out _ _ ⟨(zJ BK548.out 0).trans rfl, (zJ BK548.out 1).trans rfl, (zJ BK549.out 0).trans rfl, (zJ BK549.out 1).trans rfl⟩ (fun hHeld => ?_)
  clear hK K
  refine norm_ (a' := ?_) ?_ ?_
  rotate_left
  ·show Act.put _ (some 23) _ = _
   simp only [Act.put, zL, zM, zN, i64_w, i32_w]
   rfl
  refine pure_ (i := 6) (N := some 24) (v := ?_) (a' := ?_) #[true, true, true, true, true, true, true, false, false] rfl rfl (any_of HT_.out (by kernel_rfl)) (fun _ _ _ h => h) (Or.inl ⟨by rfl, ?_⟩) ?_ ?_
  rotate_left
  ·intro w'
   go_simp
   with_reducible rfl
  rotate_left
  ·simp only [Act.put, zL, zM, zN, i64_w, i32_w]
   rfl
  refine one_ (i := 7) (N := some 25) #[true, true, true, true, true, true, true, true, false] rfl rfl (one_of HT_.out (by kernel_rfl)) (by decide) (fun K hK => ?_)
  refine goes_ Try.func71 (by kernel_rfl) rfl #[.int .i64 (wrap64 (t552 - t553))] (by rfl) rfl rfl (by (try simp only [zW, yA, yB]); first | done | rfl | (simp only [zX, zZ]; rfl)) ?_
  with_reducible refine (spec_l1Sign.calls (wrap64 (t552 - t553)) t554 _ A57.out).mono ?_
  rintro e w' ⟨rfl, ⟨nd, rfl⟩⟩
  refine ⟨_, rfl, ?_⟩
  refine hK.out _ _ ⟨(zJ BK548.out 0).trans rfl, (zJ BK548.out 1).trans rfl, (zJ BK549.out 0).trans rfl, (zJ BK549.out 1).trans rfl⟩ (fun hHeld => ?_)
  clear hK K
  refine norm_ (a' := ?_) ?_ ?_
  rotate_left
  ·show Act.put _ (some 25) _ = _
   simp only [Act.put, zL, zM, zN, i64_w, i32_w]
   rfl
  refine pure_ (i := 8) (N := some 4) (v := ?_) (a' := ?_) #[true, true, true, true, true, true, true, true, true] rfl rfl (any_of HT_.out (by kernel_rfl)) (fun _ _ _ h => h) (Or.inl ⟨by rfl, ?_⟩) ?_ ?_
  rotate_left
  ·intro w'
   go_simp
   with_reducible rfl
  rotate_left
  ·simp only [Act.put, zL, zM, zN, i64_w, i32_w]
   rfl
  refine done_ (done_of HT_.out (by kernel_rfl)) ?_
  try go_wp2
  go_ret
  exact ⟨by first | rfl | (simp [errW_none, errW_some] <;> rfl) | (simp [*, errW_none, errW_some] <;> rfl), by repeat (first | (with_reducible first | exact HB.out | apply zG | apply zE | apply zF | refine zH ?_ GE548.out | refine zH ?_ GE549.out) | exact HB.out)⟩

end Go.Proofs.Ytmoaolcioihjnaa.Q

namespace Go.Proofs.Ytmoaolcioihjnaa.Q
open Go.RowKit Go.Proofs.YtmoaolcioihjnaaW.PrintWords Go.Proofs.YtmoaolcioihjnaaW.PrintLast Go.Proofs.YtmoaolcioihjnaaW.PrintMore Go.Proofs.YtmoaolcioihjnaaX
attribute [local go_sem] max2_int min2_int max_two min_two max_three min_three max_four min_four   -- for this text's walks alone
set_option linter.unusedVariables false
set_option linter.unusedSimpArgs false

def spec_DecCmp.f (k : Nat) (a0_0 : Int) (a0_1 : Int) (a1_0 : Int) (a1_1 : Int) : Option (Int) := (spec_DecOk.f a0_0 a0_1).bind fun t564 => (if t564 = true then ((spec_DecOk.f a1_0 a1_1).bind fun t565 => (if t565 = true then ((spec_l1Cmp.f k a0_0 a0_1 a1_0 a1_1).bind fun t566 => (some t566)) else (some 0))) else (some 0))
theorem spec_DecCmp.mono : ∀ a0 a1 a2 a3 k, LeO (spec_DecCmp.f k a0 a1 a2 a3) (spec_DecCmp.f (k + 1) a0 a1 a2 a3) := by
 intro a0 a1 a2 a3 k
 unfold spec_DecCmp.f
 repeat' first
   | (with_reducible exact spec_l1Cmp.mono _ _ _ _ _)
   | (with_reducible exact LeO.refl _)
   | (with_reducible exact LeO.none _)
   | (with_reducible refine LeO.ite ?_ ?_)
   | (with_reducible refine LeO.bind ?_ (fun _ => ?_))
   | exact spec_l1Cmp.mono _ _ _ _ _
   | exact LeO.none _
   | refine LeO.ite ?_ ?_
   | refine LeO.bind ?_ (fun _ => ?_)
set_option maxHeartbeats 8000000 in
set_option maxRecDepth 100000 in
theorem spec_DecCmp.calls (k : Nat) (a0_0 : Int) (a0_1 : Int) (a1_0 : Int) (a1_1 : Int) (r : Int) (w : World) (h : spec_DecCmp.f k a0_0 a0_1 a1_0 a1_1 = some r) :
  Calls Try.prog 35 #[.agg #[.int .i64 a0_0, .int .i64 a0_1], .agg #[.int .i64 a1_0, .int .i64 a1_1]] w fun e w' => e = .returned (.int .i64 r) ∧ Below w.heap.size w w' := by
 have hu26 := Try.underlying26
 have HB := zA (Below.refl w.heap.size w)
 have H : ((spec_DecOk.f a0_0 a0_1).bind fun t564 => (if t564 = true then ((spec_DecOk.f a1_0 a1_1).bind fun t565 => (if t565 = true then ((spec_l1Cmp.f k a0_0 a0_1 a1_0 a1_1).bind fun t566 => (some t566)) else (some 0))) else (some 0))) = some r := h
 clear h
 replace H := Option.bind_eq_some_iff.mp H
 obtain ⟨t564, A30, H⟩ := H
 replace H : (if t564 = true then ((spec_DecOk.f a1_0 a1_1).bind fun t565 => (if t565 = true then ((spec_l1Cmp.f k a0_0 a0_1 a1_0 a1_1).bind fun t566 => (some t566)) else (some 0))) else (some 0)) = some r := H
 have A3 := zA A30
 clear A30
 by_cases c4 : t564 = true
 ·subst c4
  have H1 : ((spec_DecOk.f a1_0 a1_1).bind fun t565 => (if t565 = true then ((spec_l1Cmp.f k a0_0 a0_1 a1_0 a1_1).bind fun t566 => (some t566)) else (some 0))) = some r := by rw [if_pos rfl] at H; exact H
  clear H
  have H := H1
  clear H1
  replace H := Option.bind_eq_some_iff.mp H
  obtain ⟨t565, A50, H⟩ := H
  replace H : (if t565 = true then ((spec_l1Cmp.f k a0_0 a0_1 a1_0 a1_1).bind fun t566 => (some t566)) else (some 0)) = some r := H
  have A5 := zA A50
  clear A50
  by_cases c6 : t565 = true
  ·subst c6
   have H1 : ((spec_l1Cmp.f k a0_0 a0_1 a1_0 a1_1).bind fun t566 => (some t566)) = some r := by rw [if_pos rfl] at H; exact H
   clear H
   have H := H1
   clear H1
   replace H := Option.bind_eq_some_iff.mp H
   obtain ⟨t566, A70, H⟩ := H
   replace H : (some t566) = some r := H
   have A7 := zA A70
   clear A70
   obtain rfl := Option.some.inj H
   go_enter Try.func35, Try.ntmps35
   go_wp2_with (first | ((with_reducible refine zS (N := 2) rfl ?_); refine zV ?hg (N := 2) ?hd (cs := #[.int .i64 a0_0, .int .i64 a0_1]) (t := 26) ?hr ?_; (case hd => rfl); (case hg => rfl); (case hr => first | (go_simp; done) | (go_simp; rfl)); intro gb562 hg w8 hbox hb; have n0_ := zA (zQ (by repeat (first | (with_reducible first | exact HB.out | apply zG | apply zE | apply zF) | exact HB.out)) hb); have n1_ := zA (hbox); have n2_ := zA ((by rw [hg]; exact (zR (by repeat (first | (with_reducible first | exact HB.out | apply zG | apply zE | apply zF) | exact HB.out))) : w.heap.size ≤ gb562)); have n3_ := zA ((by rw [hg]; exact (zR (by repeat (first | (with_reducible first | exact HB.out | apply zG | apply zE | apply zF) | exact HB.out))) : w.heap.size ≤ gb562)); clear HB; have HB := n0_; have BK562 := n1_; have GW562 := n2_; have GE562 := n3_; clear n0_ n1_ n2_ n3_; clear hb hbox hg) | ((with_reducible refine zS (N := 3) rfl ?_); refine zV ?hg (N := 3) ?hd (cs := #[.int .i64 a1_0, .int .i64 a1_1]) (t := 26) ?hr ?_; (case hd => rfl); (case hg => rfl); (case hr => first | (go_simp; done) | (go_simp; rfl)); intro gb563 hg w9 hbox hb; have n0_ := zA (zP (g := gb562) (o := .cells #[.int .i64 a0_0, .int .i64 a0_1] 26 (0, 0)) (by (with_reducible repeat (first | refine zB ?_ _ | refine zD ?_ | refine zC ?_ _)); exact BK562.out) hb); have n1_ := zA (zQ (by repeat (first | (with_reducible first | exact HB.out | apply zG | apply zE | apply zF | refine zH ?_ GE562.out) | exact HB.out)) hb); have n2_ := zA (hbox); have n3_ := zA ((by rw [hg]; exact (zR (by repeat (first | (with_reducible first | exact HB.out | apply zG | apply zE | apply zF | refine zH ?_ GE562.out) | exact HB.out))) : w.heap.size ≤ gb563)); have n4_ := zA ((by rw [hg]; exact (zR (by repeat (first | (with_reducible first | exact HB.out | apply zG | apply zE | apply zF | refine zH ?_ GE562.out) | exact HB.out))) : w.heap.size ≤ gb563)); have n5_ := zA ((by rw [hg]; exact Nat.ne_of_lt (blk_lt (g := gb562) (o := .cells #[.int .i64 a0_0, .int .i64 a0_1] 26 (0, 0)) (by (with_reducible repeat (first | refine zB ?_ _ | refine zD ?_ | refine zC ?_ _)); exact BK562.out)) : gb562 ≠ gb563)); have n6_ := zA ((by rw [hg]; exact Nat.ne_of_gt (blk_lt (g := gb562) (o := .cells #[.int .i64 a0_0, .int .i64 a0_1] 26 (0, 0)) (by (with_reducible repeat (first | refine zB ?_ _ | refine zD ?_ | refine zC ?_ _)); exact BK562.out)) : gb563 ≠ gb562)); clear BK562; clear HB; have BK562 := n0_; have HB := n1_; have BK563 := n2_; have GW563 := n3_; have GE563 := n4_; have NB562_563 := n5_; have NB563_562 := n6_; clear n0_ n1_ n2_ n3_ n4_ n5_ n6_; clear hb hbox hg; have hnb10 := NB562_563.out; have hnc10 := NB563_562.out; have hcz11_0 : w9.cell? ⟨gb562, 0, none⟩ = some (.int .i64 a0_0) := (zJ BK562.out 0).trans rfl; have hcz11_1 : w9.cell? ⟨gb562, 1, none⟩ = some (.int .i64 a0_1) := (zJ BK562.out 1).trans rfl; have hfz11_0 := zK BK562.out 0; have hfz11_1 := zK BK562.out 1) | ((with_reducible refine zT (f := 20) rfl ?_); refine goesL_ (some 6) rfl rfl Try.func20 (by kernel_rfl) rfl #[.agg #[.int .i64 a0_0, .int .i64 a0_1]] rfl (by (try simp only [zW, yA, yB]); first | done | rfl | (simp only [zX, zZ]; rfl)) ?_; (with_reducible refine (spec_DecOk.calls a0_0 a0_1 true _ A3.out).mono ?_); rintro e w12 ⟨rfl, hb⟩; refine ⟨_, rfl, ?_⟩; have n0_ := zA (zP (g := gb562) (o := .cells #[.int .i64 a0_0, .int .i64 a0_1] 26 (0, 0)) (by (with_reducible repeat (first | refine zB ?_ _ | refine zD ?_ | refine zC ?_ _)); exact BK562.out) hb); have n1_ := zA (zP (g := gb563) (o := .cells #[.int .i64 a1_0, .int .i64 a1_1] 26 (0, 0)) (by (with_reducible repeat (first | refine zB ?_ _ | refine zD ?_ | refine zC ?_ _)); exact BK563.out) hb); have n2_ := zA (zQ (by repeat (first | (with_reducible first | exact HB.out | apply zG | apply zE | apply zF | refine zH ?_ GE562.out | refine zH ?_ GE563.out) | exact HB.out)) hb); clear BK562; clear BK563; clear HB; have BK562 := n0_; have BK563 := n1_; have HB := n2_; clear n0_ n1_ n2_; (try clear hb); (try clear hb2); (try clear hk); (try clear hi); have hcz13_0 : w12.cell? ⟨gb563, 0, none⟩ = some (.int .i64 a1_0) := (zJ BK563.out 0).trans rfl; have hcz13_1 : w12.cell? ⟨gb563, 1, none⟩ = some (.int .i64 a1_1) := (zJ BK563.out 1).trans rfl; have hfz13_0 := zK BK563.out 0; have hfz13_1 := zK BK563.out 1) | (go_at_call 20; (with_reducible refine (spec_DecOk.calls a1_0 a1_1 true _ A5.out).mono ?_); rintro e w14 ⟨rfl, hb⟩; have n0_ := zA (zP (g := gb562) (o := .cells #[.int .i64 a0_0, .int .i64 a0_1] 26 (0, 0)) (by (with_reducible repeat (first | refine zB ?_ _ | refine zD ?_ | refine zC ?_ _)); exact BK562.out) hb); have n1_ := zA (zP (g := gb563) (o := .cells #[.int .i64 a1_0, .int .i64 a1_1] 26 (0, 0)) (by (with_reducible repeat (first | refine zB ?_ _ | refine zD ?_ | refine zC ?_ _)); exact BK563.out) hb); have n2_ := zA (zQ (by repeat (first | (with_reducible first | exact HB.out | apply zG | apply zE | apply zF | refine zH ?_ GE562.out | refine zH ?_ GE563.out) | exact HB.out)) hb); clear BK562; clear BK563; clear HB; have BK562 := n0_; have BK563 := n1_; have HB := n2_; clear n0_ n1_ n2_; (try clear hb); (try clear hb2); (try clear hk); (try clear hi); have hcz15_0 : w14.cell? ⟨gb562, 0, none⟩ = some (.int .i64 a0_0) := (zJ BK562.out 0).trans rfl; have hcz15_1 : w14.cell? ⟨gb562, 1, none⟩ = some (.int .i64 a0_1) := (zJ BK562.out 1).trans rfl; have hfz15_0 := zK BK562.out 0; have hfz15_1 := zK BK562.out 1; have hcz16_0 : w14.cell? ⟨gb563, 0, none⟩ = some (.int .i64 a1_0) := (zJ BK563.out 0).trans rfl; have hcz16_1 : w14.cell? ⟨gb563, 1, none⟩ = some (.int .i64 a1_1) := (zJ BK563.out 1).trans rfl; have hfz16_0 := zK BK563.out 0; have hfz16_1 := zK BK563.out 1) | ((with_reducible refine zT (f := 62) rfl ?_); refine goesL_ (some 15) rfl rfl Try.func62 (by kernel_rfl) rfl #[.agg #[.int .i64 a0_0, .int .i64 a0_1], .agg #[.int .i64 a1_0, .int .i64 a1_1]] rfl (by (try simp only [zW, yA, yB]); first | done | rfl | (simp only [zX, zZ]; rfl)) ?_; (with_reducible refine (spec_l1Cmp.calls k a0_0 a0_1 a1_0 a1_1 t566 _ A7.out).mono ?_); rintro e w17 ⟨rfl, hb⟩; refine ⟨_, rfl, ?_⟩; have n0_ := zA (zP (g := gb562) (o := .cells #[.int .i64 a0_0, .int .i64 a0_1] 26 (0, 0)) (by (with_reducible repeat (first | refine zB ?_ _ | refine zD ?_ | refine zC ?_ _)); exact BK562.out) hb); have n1_ := zA (zP (g := gb563) (o := .cells #[.int .i64 a1_0, .int .i64 a1_1] 26 (0, 0)) (by (with_reducible repeat (first | refine zB ?_ _ | refine zD ?_ | refine zC ?_ _)); exact BK563.out) hb); have n2_ := zA (zQ (by repeat (first | (with_reducible first | exact HB.out | apply zG | apply zE | apply zF | refine zH ?_ GE562.out | refine zH ?_ GE563.out) | exact HB.out)) hb); clear BK562; clear BK563; clear HB; have BK562 := n0_; have BK563 := n1_; have HB := n2_; clear n0_ n1_ n2_; (try clear hb); (try clear hb2); (try clear hk); (try clear hi)))
   go_ret
   exact ⟨by first | rfl | (simp [errW_none, errW_some] <;> rfl) | (simp [*, errW_none, errW_some] <;> rfl), by repeat (first | (with_reducible first | exact HB.out | apply zG | apply zE | apply zF | refine zH ?_ GE562.out | refine zH ?_ GE563.out) | exact HB.out)⟩
  ·replace c6 := Bool.eq_false_iff.mpr c6
   subst c6
   have H1 : (some 0) = some r := by rw [if_neg (show ¬ (false = true) by decide)] at H; exact H
   clear H
   have H := H1
   clear H1
   obtain rfl := Option.some.inj H
   go_enter Try.func35, Try.ntmps35
   go_wp2_with (first | ((with_reducible refine zS (N := 2) rfl ?_); refine zV ?hg (N := 2) ?hd (cs := #[.int .i64 a0_0, .int .i64 a0_1]) (t := 26) ?hr ?_; (case hd => rfl); (case hg => rfl); (case hr => first | (go_simp; done) | (go_simp; rfl)); intro gb562 hg w18 hbox hb; have n0_ := zA (zQ (by repeat (first | (with_reducible first | exact HB.out | apply zG | apply zE | apply zF) | exact HB.out)) hb); have n1_ := zA (hbox); have n2_ := zA ((by rw [hg]; exact (zR (by repeat (first | (with_reducible first | exact HB.out | apply zG | apply zE | apply zF) | exact HB.out))) : w.heap.size ≤ gb562)); have n3_ := zA ((by rw [hg]; exact (zR (by repeat (first | (with_reducible first | exact HB.out | apply zG | apply zE | apply zF) | exact HB.out))) : w.heap.size ≤ gb562)); clear HB; have HB := n0_; have BK562 := n1_; have GW562 := n2_; have GE562 := n3_; clear n0_ n1_ n2_ n3_; clear hb hbox hg) | ((with_reducible refine zS (N := 3) rfl ?_); refine zV ?hg (N := 3) ?hd (cs := #[.int .i64 a1_0, .int .i64 a1_1]) (t := 26) ?hr ?_; (case hd => rfl); (case hg => rfl); (case hr => first | (go_simp; done) | (go_simp; rfl)); intro gb563 hg w19 hbox hb; have n0_ := zA (zP (g := gb562) (o := .cells #[.int .i64 a0_0, .int .i64 a0_1] 26 (0, 0)) (by (with_reducible repeat (first | refine zB ?_ _ | refine zD ?_ | refine zC ?_ _)); exact BK562.out) hb); have n1_ := zA (zQ (by repeat (first | (with_reducible first | exact HB.out | apply zG | apply zE | apply zF | refine zH ?_ GE562.out) | exact HB.out)) hb); have n2_ := zA (hbox); have n3_ := zA ((by rw [hg]; exact (zR (by repeat (first | (with_reducible first | exact HB.out | apply zG | apply zE | apply zF | refine zH ?_ GE562.out) | exact HB.out))) : w.heap.size ≤ gb563)); have n4_ := zA ((by rw [hg]; exact (zR (by repeat (first | (with_reducible first | exact HB.out | apply zG | apply zE | apply zF | refine zH ?_ GE562.out) | exact HB.out))) : w.heap.size ≤ gb563)); have n5_ := zA ((by rw [hg]; exact Nat.ne_of_lt (blk_lt (g := gb562) (o := .cells #[.int .i64 a0_0, .int .i64 a0_1] 26 (0, 0)) (by (with_reducible repeat (first | refine zB ?_ _ | refine zD ?_ | refine zC ?_ _)); exact BK562.out)) : gb562 ≠ gb563)); have n6_ := zA ((by rw [hg]; exact Nat.ne_of_gt (blk_lt (g := gb562) (o := .cells #[.int .i64 a0_0, .int .i64 a0_1] 26 (0, 0)) (by (with_reducible repeat (first | refine zB ?_ _ | refine zD ?_ | refine zC ?_ _)); exact BK562.out)) : gb563 ≠ gb562)); clear BK562; clear HB; have BK562 := n0_; have HB := n1_; have BK563 := n2_; have GW563 := n3_; have GE563 := n4_; have NB562_563 := n5_; have NB563_562 := n6_; clear n0_ n1_ n2_ n3_ n4_ n5_ n6_; clear hb hbox hg; have hnb20 := NB562_563.out; have hnc20 := NB563_562.out; have hcz21_0 : w19.cell? ⟨gb562, 0, none⟩ = some (.int .i64 a0_0) := (zJ BK562.out 0).trans rfl; have hcz21_1 : w19.cell? ⟨gb562, 1, none⟩ = some (.int .i64 a0_1) := (zJ BK562.out 1).trans rfl; have hfz21_0 := zK BK562.out 0; have hfz21_1 := zK BK562.out 1) | ((with_reducible refine zT (f := 20) rfl ?_); refine goesL_ (some 6) rfl rfl Try.func20 (by kernel_rfl) rfl #[.agg #[.int .i64 a0_0, .int .i64 a0_1]] rfl (by (try simp only [zW, yA, yB]); first | done | rfl | (simp only [zX, zZ]; rfl)) ?_; (with_reducible refine (spec_DecOk.calls a0_0 a0_1 true _ A3.out).mono ?_); rintro e w22 ⟨rfl, hb⟩; refine ⟨_, rfl, ?_⟩; have n0_ := zA (zP (g := gb562) (o := .cells #[.int .i64 a0_0, .int .i64 a0_1] 26 (0, 0)) (by (with_reducible repeat (first | refine zB ?_ _ | refine zD ?_ | refine zC ?_ _)); exact BK562.out) hb); have n1_ := zA (zP (g := gb563) (o := .cells #[.int .i64 a1_0, .int .i64 a1_1] 26 (0, 0)) (by (with_reducible repeat (first | refine zB ?_ _ | refine zD ?_ | refine zC ?_ _)); exact BK563.out) hb); have n2_ := zA (zQ (by repeat (first | (with_reducible first | exact HB.out | apply zG | apply zE | apply zF | refine zH ?_ GE562.out | refine zH ?_ GE563.out) | exact HB.out)) hb); clear BK562; clear BK563; clear HB; have BK562 := n0_; have BK563 := n1_; have HB := n2_; clear n0_ n1_ n2_; (try clear hb); (try clear hb2); (try clear hk); (try clear hi); have hcz23_0 : w22.cell? ⟨gb563, 0, none⟩ = some (.int .i64 a1_0) := (zJ BK563.out 0).trans rfl; have hcz23_1 : w22.cell? ⟨gb563, 1, none⟩ = some (.int .i64 a1_1) := (zJ BK563.out 1).trans rfl; have hfz23_0 := zK BK563.out 0; have hfz23_1 := zK BK563.out 1) | (go_at_call 20; (with_reducible refine (spec_DecOk.calls a1_0 a1_1 false _ A5.out).mono ?_); rintro e w24 ⟨rfl, hb⟩; have n0_ := zA (zP (g := gb562) (o := .cells #[.int .i64 a0_0, .int .i64 a0_1] 26 (0, 0)) (by (with_reducible repeat (first | refine zB ?_ _ | refine zD ?_ | refine zC ?_ _)); exact BK562.out) hb); have n1_ := zA (zP (g := gb563) (o := .cells #[.int .i64 a1_0, .int .i64 a1_1] 26 (0, 0)) (by (with_reducible repeat (first | refine zB ?_ _ | refine zD ?_ | refine zC ?_ _)); exact BK563.out) hb); have n2_ := zA (zQ (by repeat (first | (with_reducible first | exact HB.out | apply zG | apply zE | apply zF | refine zH ?_ GE562.out | refine zH ?_ GE563.out) | exact HB.out)) hb); clear BK562; clear BK563; clear HB; have BK562 := n0_; have BK563 := n1_; have HB := n2_; clear n0_ n1_ n2_; (try clear hb); (try clear hb2); (try clear hk); (try clear hi)))
   go_ret
   exact ⟨by first | rfl | (simp [errW_none, errW_some] <;> rfl) | (simp [*, errW_none, errW_some] <;> rfl), by repeat (first | (with_reducible first | exact HB.out | apply zG | apply zE | apply zF | refine zH ?_ GE562.out | refine zH ?_ GE563.out) | exact HB.out)⟩
 ·replace c4 := Bool.eq_false_iff.mpr c4
  subst c4
  have H1 : (some 0) = some r := by rw [if_neg (show ¬ (false = true) by decide)] at H; exact H
  clear H
  have H := H1
  clear H1
  obtain rfl := Option.some.inj H
  go_enter Try.func35, Try.ntmps35
  go_wp2_with (first | ((with_reducible refine zS (N := 2) rfl ?_); refine zV ?hg (N := 2) ?hd (cs := #[.int .i64 a0_0, .int .i64 a0_1]) (t := 26) ?hr ?_; (case hd => rfl); (case hg => rfl); (case hr => first | (go_simp; done) | (go_simp; rfl)); intro gb562 hg w25 hbox hb; have n0_ := zA (zQ (by repeat (first | (with_reducible first | exact HB.out | apply zG | apply zE | apply zF) | exact HB.out)) hb); have n1_ := zA (hbox); have n2_ := zA ((by rw [hg]; exact (zR (by repeat (first | (with_reducible first | exact HB.out | apply zG | apply zE | apply zF) | exact HB.out))) : w.heap.size ≤ gb562)); have n3_ := zA ((by rw [hg]; exact (zR (by repeat (first | (with_reducible first | exact HB.out | apply zG | apply zE | apply zF) | exact HB.out))) : w.heap.size ≤ gb562)); clear HB; have HB := n0_; have BK562 := n1_; have GW562 := n2_; have GE562 := n3_; clear n0_ n1_ n2_ n3_; clear hb hbox hg) | ((with_reducible refine zS (N := 3) rfl ?_); refine zV ?hg (N := 3) ?hd (cs := #[.int .i64 a1_0, .int .i64 a1_1]) (t := 26) ?hr ?_; (case hd => rfl); (case hg => rfl); (case hr => first | (go_simp; done) | (go_simp; rfl)); intro gb563 hg w26 hbox hb; have n0_ := zA (zP (g := gb562) (o := .cells #[.int .i64 a0_0, .int .i64 a0_1] 26 (0, 0)) (by (with_reducible repeat (first | refine zB ?_ _ | refine zD ?_ | refine zC ?_ _)); exact BK562.out) hb); have n1_ := zA (zQ (by repeat (first | (with_reducible first | exact HB.out | apply zG | apply zE | apply zF | refine zH ?_ GE562.out) | exact HB.out)) hb); have n2_ := zA (hbox); have n3_ := zA ((by rw [hg]; exact (zR (by repeat (first | (with_reducible first | exact HB.out | apply zG | apply zE | apply zF | refine zH ?_ GE562.out) | exact HB.out))) : w.heap.size ≤ gb563)); have n4_ := zA ((by rw [hg]; exact (zR (by repeat (first | (with_reducible first | exact HB.out | apply zG | apply zE | apply zF | refine zH ?_ GE562.out) | exact HB.out))) : w.heap.size ≤ gb563)); have n5_ := zA ((by rw [hg]; exact Nat.ne_of_lt (blk_lt (g := gb562) (o := .cells #[.int .i64 a0_0, .int .i64 a0_1] 26 (0, 0)) (by (with_reducible repeat (first | refine zB ?_ _ | refine zD ?_ | refine zC ?_ _)); exact BK562.out)) : gb562 ≠ gb563)); have n6_ := zA ((by rw [hg]; exact Nat.ne_of_gt (blk_lt (g := gb562) (o := .cells #[.int .i64 a0_0, .int .i64 a0_1] 26 (0, 0)) (by (with_reducible repeat (first | refine zB ?_ _ | refine zD ?_ | refine zC ?_ _)); exact BK562.out)) : gb563 ≠ gb562)); clear BK562; clear HB; have BK562 := n0_; have HB := n1_; have BK563 := n2_; have GW563 := n3_; have GE563 := n4_; have NB562_563 := n5_; have NB563_562 := n6_; clear n0_ n1_ n2_ n3_ n4_ n5_ n6_; clear hb hbox hg; have hnb27 := NB562_563.out; have hnc27 := NB563_562.out; have hcz28_0 : w26.cell? ⟨gb562, 0, none⟩ = some (.int .i64 a0_0) := (zJ BK562.out 0).trans rfl; have hcz28_1 : w26.cell? ⟨gb562, 1, none⟩ = some (.int .i64 a0_1) := (zJ BK562.out 1).trans rfl; have hfz28_0 := zK BK562.out 0; have hfz28_1 := zK BK562.out 1) | ((with_reducible refine zT (f := 20) rfl ?_); refine goesL_ (some 6) rfl rfl Try.func20 (by kernel_rfl) rfl #[.agg #[.int .i64 a0_0, .int .i64 a0_1]] rfl (by (try simp only [zW, yA, yB]); first | done | rfl | (simp only [zX, zZ]; rfl)) ?_; (with_reducible refine (spec_DecOk.calls a0_0 a0_1 false _ A3.out).mono ?_); rintro e w29 ⟨rfl, hb⟩; refine ⟨_, rfl, ?_⟩; have n0_ := zA (zP (g := gb562) (o := .cells #[.int .i64 a0_0, .int .i64 a0_1] 26 (0, 0)) (by (with_reducible repeat (first | refine zB ?_ _ | refine zD ?_ | refine zC ?_ _)); exact BK562.out) hb); have n1_ := zA (zP (g := gb563) (o := .cells #[.int .i64 a1_0, .int .i64 a1_1] 26 (0, 0)) (by (with_reducible repeat (first | refine zB ?_ _ | refine zD ?_ | refine zC ?_ _)); exact BK563.out) hb); have n2_ := zA (zQ (by repeat (first | (with_reducible first | exact HB.out | apply zG | apply zE | apply zF | refine zH ?_ GE562.out | refine zH ?_ GE563.out) | exact HB.out)) hb); clear BK562; clear BK563; clear HB; have BK562 := n0_; have BK563 := n1_; have HB := n2_; clear n0_ n1_ n2_; (try clear hb); (try clear hb2); (try clear hk); (try clear hi)))
  go_ret
  exact ⟨by first | rfl | (simp [errW_none, errW_some] <;> rfl) | (simp [*, errW_none, errW_some] <;> rfl), by repeat (first | (with_reducible first | exact HB.out | apply zG | apply zE | apply zF | refine zH ?_ GE562.out | refine zH ?_ GE563.out) | exact HB.out)⟩

end Go.Proofs.Ytmoaolcioihjnaa.Q
