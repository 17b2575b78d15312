-- laid by a program of this session (wip/tools) out of the translation; Lean checks it
import Derived.Test.YtihepjjjdjemfaaDoorSh
import Derived.Lib.AppendIntMem
import Derived.Lib.AtoiErrMem
import Derived.Test.YtihepjjjdjemfaaDoorBFnExactJsonWideq1
namespace Go.Proofs.YtihepjjjdjemfaaDoor.Q
open Go.RowKit Go.Proofs.YtihepjjjdjemfaaDoorW.PrintWords Go.Proofs.YtihepjjjdjemfaaDoorW.PrintLast Go.Proofs.YtihepjjjdjemfaaDoorW.PrintMore Go.Proofs.YtihepjjjdjemfaaDoorX
attribute [local go_sem] max2_int min2_int max_two min_two max_three min_three max_four min_four   -- for this text's walks alone
set_option linter.unusedVariables false
set_option linter.unusedSimpArgs false

def spec_ValueOk.f (k : Nat) (a0_0 : Int) (a0_1 : Int) (a0_2 : Int) (a0_3 : ByteArray) (l0_4 : List (S33)) (l0_5 : List ByteArray) : Option (Bool) := (spec_ValueSize.f k a0_0 a0_1 a0_2 a0_3 l0_4 l0_5).bind fun t174 => (if t174 ≤ 200 then ((spec_l7Deep.f k a0_0 a0_1 a0_2 a0_3 l0_4 l0_5).bind fun t175 => (if t175 ≤ 20 then ((spec_l7All.f k a0_0 a0_1 a0_2 a0_3 l0_4 l0_5).bind fun t176 => (some t176)) else (some false))) else (some false))
theorem spec_ValueOk.mono : ∀ a0 a1 a2 a3 a4 a5 k, LeO (spec_ValueOk.f k a0 a1 a2 a3 a4 a5) (spec_ValueOk.f (k + 1) a0 a1 a2 a3 a4 a5) := by
 intro a0 a1 a2 a3 a4 a5 k
 unfold spec_ValueOk.f
 repeat' first
   | (with_reducible exact spec_ValueSize.mono _ _ _ _ _ _ _)
   | (with_reducible exact spec_l7All.mono _ _ _ _ _ _ _)
   | (with_reducible exact spec_l7Deep.mono _ _ _ _ _ _ _)
   | (with_reducible exact LeO.refl _)
   | (with_reducible exact LeO.none _)
   | (with_reducible refine LeO.ite ?_ ?_)
   | (with_reducible refine LeO.bind ?_ (fun _ => ?_))
set_option maxHeartbeats 8000000 in
set_option maxRecDepth 100000 in
theorem spec_ValueOk.calls (k : Nat) (a0_0 : Int) (a0_1 : Int) (a0_2 : Int) (a0_3 : ByteArray) (A0_4 : Option Addr) (c0_4 : Nat) (l0_4 : List (S33)) (A0_5 : Option Addr) (c0_5 : Nat) (l0_5 : List ByteArray) (r : Bool) (w : World) (hr0_4 : Kd.C k33 w A0_4 l0_4.length l0_4) (hc0_4 : l0_4.length ≤ c0_4) (hr0_5 : Kd.C Kd.string w A0_5 l0_5.length l0_5) (hc0_5 : l0_5.length ≤ c0_5) (h : spec_ValueOk.f k a0_0 a0_1 a0_2 a0_3 l0_4 l0_5 = some r) :
  Calls Tryd.prog 11 #[.agg #[.int .i64 a0_0, .int .i64 a0_1, .int .i64 a0_2, .string a0_3, .slice A0_4 l0_4.length c0_4, .slice A0_5 l0_5.length c0_5]] w fun e w' => e = .returned (.bool r) ∧ Below w.heap.size w w' := by
 have hu33 := Tryd.underlying33
 have HR0_4 := zA hr0_4
 have HC0_4 := zA hc0_4
 clear hr0_4 hc0_4
 have HR0_5 := zA hr0_5
 have HC0_5 := zA hc0_5
 clear hr0_5 hc0_5
 have HB := zA (yJ w.heap.size w)
 have H : ((spec_ValueSize.f k a0_0 a0_1 a0_2 a0_3 l0_4 l0_5).bind fun t174 => (if t174 ≤ 200 then ((spec_l7Deep.f k a0_0 a0_1 a0_2 a0_3 l0_4 l0_5).bind fun t175 => (if t175 ≤ 20 then ((spec_l7All.f k a0_0 a0_1 a0_2 a0_3 l0_4 l0_5).bind fun t176 => (some t176)) else (some false))) else (some false))) = some r := h
 clear h
 replace H := Option.bind_eq_some_iff.mp H
 obtain ⟨t174, A20, H⟩ := H
 replace H : (if t174 ≤ 200 then ((spec_l7Deep.f k a0_0 a0_1 a0_2 a0_3 l0_4 l0_5).bind fun t175 => (if t175 ≤ 20 then ((spec_l7All.f k a0_0 a0_1 a0_2 a0_3 l0_4 l0_5).bind fun t176 => (some t176)) else (some false))) else (some false)) = some r := H
 have A2 := zA A20
 clear A20
 by_cases c3 : t174 ≤ 200
 ·rw [if_pos c3] at H
  have c3b0 : decide (t174 ≤ 200) = true := yF c3
  clear c3
  replace H := Option.bind_eq_some_iff.mp H
  obtain ⟨t175, A40, H⟩ := H
  replace H : (if t175 ≤ 20 then ((spec_l7All.f k a0_0 a0_1 a0_2 a0_3 l0_4 l0_5).bind fun t176 => (some t176)) else (some false)) = some r := H
  have A4 := zA A40
  clear A40
  by_cases c5 : t175 ≤ 20
  ·rw [if_pos c5] at H
   have c5b0 : decide (t175 ≤ 20) = true := yF c5
   clear c5
   replace H := Option.bind_eq_some_iff.mp H
   obtain ⟨t176, A60, H⟩ := H
   replace H : (some t176) = some r := H
   have A6 := zA A60
   clear A60
   obtain rfl := yH H
   go_enter Tryd.func11, Tryd.ntmps11
   go_wp2_with (first | ((with_reducible refine zT (N := 1) rfl ?_); refine zX ?hg (N := 1) ?hd (cs := #[.int .i64 a0_0, .int .i64 a0_1, .int .i64 a0_2, .string a0_3, .slice A0_4 l0_4.length c0_4, .slice A0_5 l0_5.length c0_5]) (t := 33) ?hr ?_; (case hd => rfl); (case hg => rfl); (case hr => first | (go_simp; done) | (go_simp; rfl)); intro gb173 hg w7 hbox hb; have n0_ := zA (zQ apA hb); have n1_ := zA (hbox); have n2_ := zA ((by rw [hg]; exact (zR apA) : w.heap.size ≤ gb173)); have n3_ := zA ((by rw [hg]; exact (zR apA) : w.heap.size ≤ gb173)); clear HB; have HB := n0_; have BK173 := n1_; have GW173 := n2_; have GE173 := n3_; clear n0_ n1_ n2_ n3_; clear hb hbox hg; have hcz8_0 : w7.cell? ⟨gb173, 0, none⟩ = some (.int .i64 a0_0) := (zJ BK173.out 0).trans rfl; have hcz8_1 : w7.cell? ⟨gb173, 1, none⟩ = some (.int .i64 a0_1) := (zJ BK173.out 1).trans rfl; have hcz8_2 : w7.cell? ⟨gb173, 2, none⟩ = some (.int .i64 a0_2) := (zJ BK173.out 2).trans rfl; have hcz8_3 : w7.cell? ⟨gb173, 3, none⟩ = some (.string a0_3) := (zJ BK173.out 3).trans rfl; have hcz8_4 : w7.cell? ⟨gb173, 4, none⟩ = some (.slice A0_4 l0_4.length c0_4) := (zJ BK173.out 4).trans rfl; have hcz8_5 : w7.cell? ⟨gb173, 5, none⟩ = some (.slice A0_5 l0_5.length c0_5) := (zJ BK173.out 5).trans rfl; have hfz8_0 := zK BK173.out 0; have hfz8_1 := zK BK173.out 1; have hfz8_2 := zK BK173.out 2; have hfz8_3 := zK BK173.out 3; have hfz8_4 := zK BK173.out 4; have hfz8_5 := zK BK173.out 5) | ((with_reducible refine zV (f := 21) rfl ?_); refine goesL_ (some 4) rfl rfl Tryd.func21 (by kernel_rfl) rfl #[.agg #[.int .i64 a0_0, .int .i64 a0_1, .int .i64 a0_2, .string a0_3, .slice A0_4 l0_4.length c0_4, .slice A0_5 l0_5.length c0_5]] rfl apE ?_; (with_reducible refine (spec_ValueSize.calls k a0_0 a0_1 a0_2 a0_3 _ _ l0_4 _ _ l0_5 t174 _ ?side1 ?side2 ?side3 ?side4 A2.out).mono ?_); (case side1 => repeat (first | exact (Kd.C_below HR0_4.out HB.out) | (with_reducible refine Kd.C_alloc ?_ _) | (with_reducible refine Kd.C_drewN ?_ _) | (with_reducible refine Kd.C_drew ?_))); (case side2 => exact HC0_4.out); (case side3 => repeat (first | exact (Kd.C_below HR0_5.out HB.out) | (with_reducible refine Kd.C_alloc ?_ _) | (with_reducible refine Kd.C_drewN ?_ _) | (with_reducible refine Kd.C_drew ?_))); (case side4 => exact HC0_5.out); rintro e w9 ⟨rfl, hb⟩; refine ⟨_, rfl, ?_⟩; have n0_ := zA (zP (g := gb173) (o := .cells #[.int .i64 a0_0, .int .i64 a0_1, .int .i64 a0_2, .string a0_3, .slice A0_4 l0_4.length c0_4, .slice A0_5 l0_5.length c0_5] 33 (0, 0)) (by (with_reducible repeat (first | refine zB ?_ _ | refine zD ?_ | refine zC ?_ _)); exact BK173.out) hb); have n1_ := zA (zQ (by repeat (first | (with_reducible first | exact HB.out | apply zG | apply zE | apply zF | refine zH ?_ GE173.out) | exact HB.out)) hb); clear BK173; clear HB; have BK173 := n0_; have HB := n1_; clear n0_ n1_; (try clear hb); (try clear hb2); (try clear hk); (try clear hi); have hcz10_0 : w9.cell? ⟨gb173, 0, none⟩ = some (.int .i64 a0_0) := (zJ BK173.out 0).trans rfl; have hcz10_1 : w9.cell? ⟨gb173, 1, none⟩ = some (.int .i64 a0_1) := (zJ BK173.out 1).trans rfl; have hcz10_2 : w9.cell? ⟨gb173, 2, none⟩ = some (.int .i64 a0_2) := (zJ BK173.out 2).trans rfl; have hcz10_3 : w9.cell? ⟨gb173, 3, none⟩ = some (.string a0_3) := (zJ BK173.out 3).trans rfl; have hcz10_4 : w9.cell? ⟨gb173, 4, none⟩ = some (.slice A0_4 l0_4.length c0_4) := (zJ BK173.out 4).trans rfl; have hcz10_5 : w9.cell? ⟨gb173, 5, none⟩ = some (.slice A0_5 l0_5.length c0_5) := (zJ BK173.out 5).trans rfl; have hfz10_0 := zK BK173.out 0; have hfz10_1 := zK BK173.out 1; have hfz10_2 := zK BK173.out 2; have hfz10_3 := zK BK173.out 3; have hfz10_4 := zK BK173.out 4; have hfz10_5 := zK BK173.out 5) | (go_at_call 22; (with_reducible refine (spec_l7Deep.calls k a0_0 a0_1 a0_2 a0_3 _ _ l0_4 _ _ l0_5 t175 _ ?side1 ?side2 ?side3 ?side4 A4.out).mono ?_); (case side1 => repeat (first | exact (Kd.C_below HR0_4.out HB.out) | (with_reducible refine Kd.C_alloc ?_ _) | (with_reducible refine Kd.C_drewN ?_ _) | (with_reducible refine Kd.C_drew ?_))); (case side2 => exact HC0_4.out); (case side3 => repeat (first | exact (Kd.C_below HR0_5.out HB.out) | (with_reducible refine Kd.C_alloc ?_ _) | (with_reducible refine Kd.C_drewN ?_ _) | (with_reducible refine Kd.C_drew ?_))); (case side4 => exact HC0_5.out); rintro e w11 ⟨rfl, hb⟩; have n0_ := zA (zP (g := gb173) (o := .cells #[.int .i64 a0_0, .int .i64 a0_1, .int .i64 a0_2, .string a0_3, .slice A0_4 l0_4.length c0_4, .slice A0_5 l0_5.length c0_5] 33 (0, 0)) (by (with_reducible repeat (first | refine zB ?_ _ | refine zD ?_ | refine zC ?_ _)); exact BK173.out) hb); have n1_ := zA (zQ (by repeat (first | (with_reducible first | exact HB.out | apply zG | apply zE | apply zF | refine zH ?_ GE173.out) | exact HB.out)) hb); clear BK173; clear HB; have BK173 := n0_; have HB := n1_; clear n0_ n1_; (try clear hb); (try clear hb2); (try clear hk); (try clear hi); have hcz12_0 : w11.cell? ⟨gb173, 0, none⟩ = some (.int .i64 a0_0) := (zJ BK173.out 0).trans rfl; have hcz12_1 : w11.cell? ⟨gb173, 1, none⟩ = some (.int .i64 a0_1) := (zJ BK173.out 1).trans rfl; have hcz12_2 : w11.cell? ⟨gb173, 2, none⟩ = some (.int .i64 a0_2) := (zJ BK173.out 2).trans rfl; have hcz12_3 : w11.cell? ⟨gb173, 3, none⟩ = some (.string a0_3) := (zJ BK173.out 3).trans rfl; have hcz12_4 : w11.cell? ⟨gb173, 4, none⟩ = some (.slice A0_4 l0_4.length c0_4) := (zJ BK173.out 4).trans rfl; have hcz12_5 : w11.cell? ⟨gb173, 5, none⟩ = some (.slice A0_5 l0_5.length c0_5) := (zJ BK173.out 5).trans rfl; have hfz12_0 := zK BK173.out 0; have hfz12_1 := zK BK173.out 1; have hfz12_2 := zK BK173.out 2; have hfz12_3 := zK BK173.out 3; have hfz12_4 := zK BK173.out 4; have hfz12_5 := zK BK173.out 5) | (go_at_call 23; (with_reducible refine (spec_l7All.calls k a0_0 a0_1 a0_2 a0_3 _ _ l0_4 _ _ l0_5 t176 _ ?side1 ?side2 ?side3 ?side4 A6.out).mono ?_); (case side1 => repeat (first | exact (Kd.C_below HR0_4.out HB.out) | (with_reducible refine Kd.C_alloc ?_ _) | (with_reducible refine Kd.C_drewN ?_ _) | (with_reducible refine Kd.C_drew ?_))); (case side2 => exact HC0_4.out); (case side3 => repeat (first | exact (Kd.C_below HR0_5.out HB.out) | (with_reducible refine Kd.C_alloc ?_ _) | (with_reducible refine Kd.C_drewN ?_ _) | (with_reducible refine Kd.C_drew ?_))); (case side4 => exact HC0_5.out); rintro e w13 ⟨rfl, hb⟩; have n0_ := zA (zQ apA hb); clear HB; have HB := n0_; clear n0_; (try clear hb); (try clear hb2); (try clear hk); (try clear hi)))
   go_ret
   exact ⟨apD, apA⟩
  ·rw [if_neg c5] at H
   have c5b0 : decide (t175 ≤ 20) = false := decide_eq_false c5
   clear c5
   obtain rfl := yH H
   go_enter Tryd.func11, Tryd.ntmps11
   go_wp2_with (first | ((with_reducible refine zT (N := 1) rfl ?_); refine zX ?hg (N := 1) ?hd (cs := #[.int .i64 a0_0, .int .i64 a0_1, .int .i64 a0_2, .string a0_3, .slice A0_4 l0_4.length c0_4, .slice A0_5 l0_5.length c0_5]) (t := 33) ?hr ?_; (case hd => rfl); (case hg => rfl); (case hr => first | (go_simp; done) | (go_simp; rfl)); intro gb173 hg w14 hbox hb; have n0_ := zA (zQ apA hb); have n1_ := zA (hbox); have n2_ := zA ((by rw [hg]; exact (zR apA) : w.heap.size ≤ gb173)); have n3_ := zA ((by rw [hg]; exact (zR apA) : w.heap.size ≤ gb173)); clear HB; have HB := n0_; have BK173 := n1_; have GW173 := n2_; have GE173 := n3_; clear n0_ n1_ n2_ n3_; clear hb hbox hg; have hcz15_0 : w14.cell? ⟨gb173, 0, none⟩ = some (.int .i64 a0_0) := (zJ BK173.out 0).trans rfl; have hcz15_1 : w14.cell? ⟨gb173, 1, none⟩ = some (.int .i64 a0_1) := (zJ BK173.out 1).trans rfl; have hcz15_2 : w14.cell? ⟨gb173, 2, none⟩ = some (.int .i64 a0_2) := (zJ BK173.out 2).trans rfl; have hcz15_3 : w14.cell? ⟨gb173, 3, none⟩ = some (.string a0_3) := (zJ BK173.out 3).trans rfl; have hcz15_4 : w14.cell? ⟨gb173, 4, none⟩ = some (.slice A0_4 l0_4.length c0_4) := (zJ BK173.out 4).trans rfl; have hcz15_5 : w14.cell? ⟨gb173, 5, none⟩ = some (.slice A0_5 l0_5.length c0_5) := (zJ BK173.out 5).trans rfl; have hfz15_0 := zK BK173.out 0; have hfz15_1 := zK BK173.out 1; have hfz15_2 := zK BK173.out 2; have hfz15_3 := zK BK173.out 3; have hfz15_4 := zK BK173.out 4; have hfz15_5 := zK BK173.out 5) | ((with_reducible refine zV (f := 21) rfl ?_); refine goesL_ (some 4) rfl rfl Tryd.func21 (by kernel_rfl) rfl #[.agg #[.int .i64 a0_0, .int .i64 a0_1, .int .i64 a0_2, .string a0_3, .slice A0_4 l0_4.length c0_4, .slice A0_5 l0_5.length c0_5]] rfl apE ?_; (with_reducible refine (spec_ValueSize.calls k a0_0 a0_1 a0_2 a0_3 _ _ l0_4 _ _ l0_5 t174 _ ?side1 ?side2 ?side3 ?side4 A2.out).mono ?_); (case side1 => repeat (first | exact (Kd.C_below HR0_4.out HB.out) | (with_reducible refine Kd.C_alloc ?_ _) | (with_reducible refine Kd.C_drewN ?_ _) | (with_reducible refine Kd.C_drew ?_))); (case side2 => exact HC0_4.out); (case side3 => repeat (first | exact (Kd.C_below HR0_5.out HB.out) | (with_reducible refine Kd.C_alloc ?_ _) | (with_reducible refine Kd.C_drewN ?_ _) | (with_reducible refine Kd.C_drew ?_))); (case side4 => exact HC0_5.out); rintro e w16 ⟨rfl, hb⟩; refine ⟨_, rfl, ?_⟩; have n0_ := zA (zP (g := gb173) (o := .cells #[.int .i64 a0_0, .int .i64 a0_1, .int .i64 a0_2, .string a0_3, .slice A0_4 l0_4.length c0_4, .slice A0_5 l0_5.length c0_5] 33 (0, 0)) (by (with_reducible repeat (first | refine zB ?_ _ | refine zD ?_ | refine zC ?_ _)); exact BK173.out) hb); have n1_ := zA (zQ (by repeat (first | (with_reducible first | exact HB.out | apply zG | apply zE | apply zF | refine zH ?_ GE173.out) | exact HB.out)) hb); clear BK173; clear HB; have BK173 := n0_; have HB := n1_; clear n0_ n1_; (try clear hb); (try clear hb2); (try clear hk); (try clear hi); have hcz17_0 : w16.cell? ⟨gb173, 0, none⟩ = some (.int .i64 a0_0) := (zJ BK173.out 0).trans rfl; have hcz17_1 : w16.cell? ⟨gb173, 1, none⟩ = some (.int .i64 a0_1) := (zJ BK173.out 1).trans rfl; have hcz17_2 : w16.cell? ⟨gb173, 2, none⟩ = some (.int .i64 a0_2) := (zJ BK173.out 2).trans rfl; have hcz17_3 : w16.cell? ⟨gb173, 3, none⟩ = some (.string a0_3) := (zJ BK173.out 3).trans rfl; have hcz17_4 : w16.cell? ⟨gb173, 4, none⟩ = some (.slice A0_4 l0_4.length c0_4) := (zJ BK173.out 4).trans rfl; have hcz17_5 : w16.cell? ⟨gb173, 5, none⟩ = some (.slice A0_5 l0_5.length c0_5) := (zJ BK173.out 5).trans rfl; have hfz17_0 := zK BK173.out 0; have hfz17_1 := zK BK173.out 1; have hfz17_2 := zK BK173.out 2; have hfz17_3 := zK BK173.out 3; have hfz17_4 := zK BK173.out 4; have hfz17_5 := zK BK173.out 5) | (go_at_call 22; (with_reducible refine (spec_l7Deep.calls k a0_0 a0_1 a0_2 a0_3 _ _ l0_4 _ _ l0_5 t175 _ ?side1 ?side2 ?side3 ?side4 A4.out).mono ?_); (case side1 => repeat (first | exact (Kd.C_below HR0_4.out HB.out) | (with_reducible refine Kd.C_alloc ?_ _) | (with_reducible refine Kd.C_drewN ?_ _) | (with_reducible refine Kd.C_drew ?_))); (case side2 => exact HC0_4.out); (case side3 => repeat (first | exact (Kd.C_below HR0_5.out HB.out) | (with_reducible refine Kd.C_alloc ?_ _) | (with_reducible refine Kd.C_drewN ?_ _) | (with_reducible refine Kd.C_drew ?_))); (case side4 => exact HC0_5.out); rintro e w18 ⟨rfl, hb⟩; have n0_ := zA (zQ apA hb); clear HB; have HB := n0_; clear n0_; (try clear hb); (try clear hb2); (try clear hk); (try clear hi)))
   go_ret
   exact ⟨apD, apA⟩
 ·rw [if_neg c3] at H
  have c3b0 : decide (t174 ≤ 200) = false := decide_eq_false c3
  clear c3
  obtain rfl := yH H
  go_enter Tryd.func11, Tryd.ntmps11
  go_wp2_with (first | ((with_reducible refine zT (N := 1) rfl ?_); refine zX ?hg (N := 1) ?hd (cs := #[.int .i64 a0_0, .int .i64 a0_1, .int .i64 a0_2, .string a0_3, .slice A0_4 l0_4.length c0_4, .slice A0_5 l0_5.length c0_5]) (t := 33) ?hr ?_; (case hd => rfl); (case hg => rfl); (case hr => first | (go_simp; done) | (go_simp; rfl)); intro gb173 hg w19 hbox hb; have n0_ := zA (zQ apA hb); have n1_ := zA (hbox); have n2_ := zA ((by rw [hg]; exact (zR apA) : w.heap.size ≤ gb173)); have n3_ := zA ((by rw [hg]; exact (zR apA) : w.heap.size ≤ gb173)); clear HB; have HB := n0_; have BK173 := n1_; have GW173 := n2_; have GE173 := n3_; clear n0_ n1_ n2_ n3_; clear hb hbox hg; have hcz20_0 : w19.cell? ⟨gb173, 0, none⟩ = some (.int .i64 a0_0) := (zJ BK173.out 0).trans rfl; have hcz20_1 : w19.cell? ⟨gb173, 1, none⟩ = some (.int .i64 a0_1) := (zJ BK173.out 1).trans rfl; have hcz20_2 : w19.cell? ⟨gb173, 2, none⟩ = some (.int .i64 a0_2) := (zJ BK173.out 2).trans rfl; have hcz20_3 : w19.cell? ⟨gb173, 3, none⟩ = some (.string a0_3) := (zJ BK173.out 3).trans rfl; have hcz20_4 : w19.cell? ⟨gb173, 4, none⟩ = some (.slice A0_4 l0_4.length c0_4) := (zJ BK173.out 4).trans rfl; have hcz20_5 : w19.cell? ⟨gb173, 5, none⟩ = some (.slice A0_5 l0_5.length c0_5) := (zJ BK173.out 5).trans rfl; have hfz20_0 := zK BK173.out 0; have hfz20_1 := zK BK173.out 1; have hfz20_2 := zK BK173.out 2; have hfz20_3 := zK BK173.out 3; have hfz20_4 := zK BK173.out 4; have hfz20_5 := zK BK173.out 5) | ((with_reducible refine zV (f := 21) rfl ?_); refine goesL_ (some 4) rfl rfl Tryd.func21 (by kernel_rfl) rfl #[.agg #[.int .i64 a0_0, .int .i64 a0_1, .int .i64 a0_2, .string a0_3, .slice A0_4 l0_4.length c0_4, .slice A0_5 l0_5.length c0_5]] rfl apE ?_; (with_reducible refine (spec_ValueSize.calls k a0_0 a0_1 a0_2 a0_3 _ _ l0_4 _ _ l0_5 t174 _ ?side1 ?side2 ?side3 ?side4 A2.out).mono ?_); (case side1 => repeat (first | exact (Kd.C_below HR0_4.out HB.out) | (with_reducible refine Kd.C_alloc ?_ _) | (with_reducible refine Kd.C_drewN ?_ _) | (with_reducible refine Kd.C_drew ?_))); (case side2 => exact HC0_4.out); (case side3 => repeat (first | exact (Kd.C_below HR0_5.out HB.out) | (with_reducible refine Kd.C_alloc ?_ _) | (with_reducible refine Kd.C_drewN ?_ _) | (with_reducible refine Kd.C_drew ?_))); (case side4 => exact HC0_5.out); rintro e w21 ⟨rfl, hb⟩; refine ⟨_, rfl, ?_⟩; have n0_ := zA (zQ apA hb); clear HB; have HB := n0_; clear n0_; (try clear hb); (try clear hb2); (try clear hk); (try clear hi)))
  go_ret
  exact ⟨apD, apA⟩

end Go.Proofs.YtihepjjjdjemfaaDoor.Q

namespace Go.Proofs.YtihepjjjdjemfaaDoor.Q
open Go.RowKit Go.Proofs.YtihepjjjdjemfaaDoorW.PrintWords Go.Proofs.YtihepjjjdjemfaaDoorW.PrintLast Go.Proofs.YtihepjjjdjemfaaDoorW.PrintMore Go.Proofs.YtihepjjjdjemfaaDoorX
attribute [local go_sem] max2_int min2_int max_two min_two max_three min_three max_four min_four   -- for this text's walks alone
set_option linter.unusedVariables false
set_option linter.unusedSimpArgs false

attribute [local go_sem high] eqA30
def impl_DecOk.f (a0_0 : Int) (a0_1 : Int) : Option (Bool) := if (-99999999) ≤ a0_0 then (if a0_0 ≤ 99999999 then (if (-8) ≤ a0_1 then (if a0_1 ≤ 8 then (if (Int.tmod a0_0 10) = 0 then (some (a0_0 == 0 && (a0_1 == 0))) else (some true)) else (some false)) else (some false)) else (some false)) else (some false)
set_option maxHeartbeats 8000000 in
set_option maxRecDepth 100000 in
theorem impl_DecOk.calls (a0_0 : Int) (a0_1 : Int) (r : Bool) (w : World) (h : impl_DecOk.f a0_0 a0_1 = some r) :
  Calls Tryd.prog 34 #[.agg #[.int .i64 a0_0, .int .i64 a0_1]] w fun e w' => e = .returned (.bool r) ∧ Below w.heap.size w w' := by
 have hu30 := Tryd.underlying30
 have HB := zA (yJ w.heap.size w)
 have H : (if (-99999999) ≤ a0_0 then (if a0_0 ≤ 99999999 then (if (-8) ≤ a0_1 then (if a0_1 ≤ 8 then (if (Int.tmod a0_0 10) = 0 then (some (a0_0 == 0 && (a0_1 == 0))) else (some true)) else (some false)) else (some false)) else (some false)) else (some false)) = some r := h
 clear h
 by_cases c2 : (-99999999) ≤ a0_0
 ·rw [if_pos c2] at H
  have c2b0 : decide ((-99999999) ≤ a0_0) = true := yF c2
  clear c2
  by_cases c3 : a0_0 ≤ 99999999
  ·rw [if_pos c3] at H
   have c3b0 : decide (a0_0 ≤ 99999999) = true := yF c3
   clear c3
   by_cases c4 : (-8) ≤ a0_1
   ·rw [if_pos c4] at H
    have c4b0 : decide ((-8) ≤ a0_1) = true := yF c4
    clear c4
    by_cases c5 : a0_1 ≤ 8
    ·rw [if_pos c5] at H
     have c5b0 : decide (a0_1 ≤ 8) = true := yF c5
     clear c5
     by_cases c6 : (Int.tmod a0_0 10) = 0
     ·rw [if_pos c6] at H
      have c6b0 : ((Int.tmod a0_0 10) == 0) = true := beq_iff_eq.mpr c6
      have c6b1 : ((Int.tmod a0_0 10) != 0) = false := bne_eq_false_iff_eq.mpr c6
      clear c6
      obtain rfl := yH H
      go_enter Tryd.func34, Tryd.ntmps34
      go_wp2_with (first | ((with_reducible refine zT (N := 1) rfl ?_); refine zX ?hg (N := 1) ?hd (cs := #[.int .i64 a0_0, .int .i64 a0_1]) (t := 30) ?hr ?_; (case hd => rfl); (case hg => rfl); (case hr => first | (go_simp; done) | (go_simp; rfl)); intro gb226 hg w7 hbox hb; have n0_ := zA (zQ apA hb); have n1_ := zA (hbox); have n2_ := zA ((by rw [hg]; exact (zR apA) : w.heap.size ≤ gb226)); have n3_ := zA ((by rw [hg]; exact (zR apA) : w.heap.size ≤ gb226)); clear HB; have HB := n0_; have BK226 := n1_; have GW226 := n2_; have GE226 := n3_; clear n0_ n1_ n2_ n3_; clear hb hbox hg; have hcz8_0 : w7.cell? ⟨gb226, 0, none⟩ = some (.int .i64 a0_0) := (zJ BK226.out 0).trans rfl; have hcz8_1 : w7.cell? ⟨gb226, 1, none⟩ = some (.int .i64 a0_1) := (zJ BK226.out 1).trans rfl; have hfz8_0 := zK BK226.out 0; have hfz8_1 := zK BK226.out 1))
      go_ret
      exact ⟨apD, by repeat (first | (with_reducible first | exact HB.out | apply zG | apply zE | apply zF | refine zH ?_ GE226.out) | exact HB.out)⟩
     ·rw [if_neg c6] at H
      have c6b0 : ((Int.tmod a0_0 10) == 0) = false := beq_eq_false_iff_ne.mpr c6
      have c6b1 : ((Int.tmod a0_0 10) != 0) = true := bne_iff_ne.mpr c6
      obtain rfl := yH H
      go_enter Tryd.func34, Tryd.ntmps34
      go_wp2_with (first | ((with_reducible refine zT (N := 1) rfl ?_); refine zX ?hg (N := 1) ?hd (cs := #[.int .i64 a0_0, .int .i64 a0_1]) (t := 30) ?hr ?_; (case hd => rfl); (case hg => rfl); (case hr => first | (go_simp; done) | (go_simp; rfl)); intro gb226 hg w9 hbox hb; have n0_ := zA (zQ apA hb); have n1_ := zA (hbox); have n2_ := zA ((by rw [hg]; exact (zR apA) : w.heap.size ≤ gb226)); have n3_ := zA ((by rw [hg]; exact (zR apA) : w.heap.size ≤ gb226)); clear HB; have HB := n0_; have BK226 := n1_; have GW226 := n2_; have GE226 := n3_; clear n0_ n1_ n2_ n3_; clear hb hbox hg; have hcz10_0 : w9.cell? ⟨gb226, 0, none⟩ = some (.int .i64 a0_0) := (zJ BK226.out 0).trans rfl; have hcz10_1 : w9.cell? ⟨gb226, 1, none⟩ = some (.int .i64 a0_1) := (zJ BK226.out 1).trans rfl; have hfz10_0 := zK BK226.out 0; have hfz10_1 := zK BK226.out 1))
      go_ret
      exact ⟨apD, by repeat (first | (with_reducible first | exact HB.out | apply zG | apply zE | apply zF | refine zH ?_ GE226.out) | exact HB.out)⟩
    ·rw [if_neg c5] at H
     have c5b0 : decide (a0_1 ≤ 8) = false := decide_eq_false c5
     clear c5
     obtain rfl := yH H
     go_enter Tryd.func34, Tryd.ntmps34
     go_wp2_with (first | ((with_reducible refine zT (N := 1) rfl ?_); refine zX ?hg (N := 1) ?hd (cs := #[.int .i64 a0_0, .int .i64 a0_1]) (t := 30) ?hr ?_; (case hd => rfl); (case hg => rfl); (case hr => first | (go_simp; done) | (go_simp; rfl)); intro gb226 hg w11 hbox hb; have n0_ := zA (zQ apA hb); have n1_ := zA (hbox); have n2_ := zA ((by rw [hg]; exact (zR apA) : w.heap.size ≤ gb226)); have n3_ := zA ((by rw [hg]; exact (zR apA) : w.heap.size ≤ gb226)); clear HB; have HB := n0_; have BK226 := n1_; have GW226 := n2_; have GE226 := n3_; clear n0_ n1_ n2_ n3_; clear hb hbox hg; have hcz12_0 : w11.cell? ⟨gb226, 0, none⟩ = some (.int .i64 a0_0) := (zJ BK226.out 0).trans rfl; have hcz12_1 : w11.cell? ⟨gb226, 1, none⟩ = some (.int .i64 a0_1) := (zJ BK226.out 1).trans rfl; have hfz12_0 := zK BK226.out 0; have hfz12_1 := zK BK226.out 1))
     go_ret
     exact ⟨apD, by repeat (first | (with_reducible first | exact HB.out | apply zG | apply zE | apply zF | refine zH ?_ GE226.out) | exact HB.out)⟩
   ·rw [if_neg c4] at H
    have c4b0 : decide ((-8) ≤ a0_1) = false := decide_eq_false c4
    clear c4
    obtain rfl := yH H
    go_enter Tryd.func34, Tryd.ntmps34
    go_wp2_with (first | ((with_reducible refine zT (N := 1) rfl ?_); refine zX ?hg (N := 1) ?hd (cs := #[.int .i64 a0_0, .int .i64 a0_1]) (t := 30) ?hr ?_; (case hd => rfl); (case hg => rfl); (case hr => first | (go_simp; done) | (go_simp; rfl)); intro gb226 hg w13 hbox hb; have n0_ := zA (zQ apA hb); have n1_ := zA (hbox); have n2_ := zA ((by rw [hg]; exact (zR apA) : w.heap.size ≤ gb226)); have n3_ := zA ((by rw [hg]; exact (zR apA) : w.heap.size ≤ gb226)); clear HB; have HB := n0_; have BK226 := n1_; have GW226 := n2_; have GE226 := n3_; clear n0_ n1_ n2_ n3_; clear hb hbox hg; have hcz14_0 : w13.cell? ⟨gb226, 0, none⟩ = some (.int .i64 a0_0) := (zJ BK226.out 0).trans rfl; have hcz14_1 : w13.cell? ⟨gb226, 1, none⟩ = some (.int .i64 a0_1) := (zJ BK226.out 1).trans rfl; have hfz14_0 := zK BK226.out 0; have hfz14_1 := zK BK226.out 1))
    go_ret
    exact ⟨apD, by repeat (first | (with_reducible first | exact HB.out | apply zG | apply zE | apply zF | refine zH ?_ GE226.out) | exact HB.out)⟩
  ·rw [if_neg c3] at H
   have c3b0 : decide (a0_0 ≤ 99999999) = false := decide_eq_false c3
   clear c3
   obtain rfl := yH H
   go_enter Tryd.func34, Tryd.ntmps34
   go_wp2_with (first | ((with_reducible refine zT (N := 1) rfl ?_); refine zX ?hg (N := 1) ?hd (cs := #[.int .i64 a0_0, .int .i64 a0_1]) (t := 30) ?hr ?_; (case hd => rfl); (case hg => rfl); (case hr => first | (go_simp; done) | (go_simp; rfl)); intro gb226 hg w15 hbox hb; have n0_ := zA (zQ apA hb); have n1_ := zA (hbox); have n2_ := zA ((by rw [hg]; exact (zR apA) : w.heap.size ≤ gb226)); have n3_ := zA ((by rw [hg]; exact (zR apA) : w.heap.size ≤ gb226)); clear HB; have HB := n0_; have BK226 := n1_; have GW226 := n2_; have GE226 := n3_; clear n0_ n1_ n2_ n3_; clear hb hbox hg; have hcz16_0 : w15.cell? ⟨gb226, 0, none⟩ = some (.int .i64 a0_0) := (zJ BK226.out 0).trans rfl; have hcz16_1 : w15.cell? ⟨gb226, 1, none⟩ = some (.int .i64 a0_1) := (zJ BK226.out 1).trans rfl; have hfz16_0 := zK BK226.out 0; have hfz16_1 := zK BK226.out 1))
   go_ret
   exact ⟨apD, by repeat (first | (with_reducible first | exact HB.out | apply zG | apply zE | apply zF | refine zH ?_ GE226.out) | exact HB.out)⟩
 ·rw [if_neg c2] at H
  have c2b0 : decide ((-99999999) ≤ a0_0) = false := decide_eq_false c2
  clear c2
  obtain rfl := yH H
  go_enter Tryd.func34, Tryd.ntmps34
  go_wp2_with (first | ((with_reducible refine zT (N := 1) rfl ?_); refine zX ?hg (N := 1) ?hd (cs := #[.int .i64 a0_0, .int .i64 a0_1]) (t := 30) ?hr ?_; (case hd => rfl); (case hg => rfl); (case hr => first | (go_simp; done) | (go_simp; rfl)); intro gb226 hg w17 hbox hb; have n0_ := zA (zQ apA hb); have n1_ := zA (hbox); have n2_ := zA ((by rw [hg]; exact (zR apA) : w.heap.size ≤ gb226)); have n3_ := zA ((by rw [hg]; exact (zR apA) : w.heap.size ≤ gb226)); clear HB; have HB := n0_; have BK226 := n1_; have GW226 := n2_; have GE226 := n3_; clear n0_ n1_ n2_ n3_; clear hb hbox hg; have hcz18_0 : w17.cell? ⟨gb226, 0, none⟩ = some (.int .i64 a0_0) := (zJ BK226.out 0).trans rfl; have hcz18_1 : w17.cell? ⟨gb226, 1, none⟩ = some (.int .i64 a0_1) := (zJ BK226.out 1).trans rfl; have hfz18_0 := zK BK226.out 0; have hfz18_1 := zK BK226.out 1))
  go_ret
  exact ⟨apD, by repeat (first | (with_reducible first | exact HB.out | apply zG | apply zE | apply zF | refine zH ?_ GE226.out) | exact HB.out)⟩


mutual
def impl_valueOk.j0 : Nat → Bool → List (List ByteArray) → Int → Int → Int → ByteArray → List (S33) → List ByteArray → Int → Option (Bool)
 | 0, _, _, _, _, _, _, _, _, _ => none
 | k + 1, x51, x999, x237000, x237001, x237002, x237003, x237004, x237005, x238000 => if x51 = true then (some false) else (if x237000 = 0 then (impl_valueOk.j1 k x237000 (x237000 == 0) x999 x237000 x237001 x237002 x237003 x237004 x237005 x238000) else (if x237000 = 1 then (impl_valueOk.j1 k x237000 (x237000 == 1) x999 x237000 x237001 x237002 x237003 x237004 x237005 x238000) else (if x237000 = 2 then (impl_valueOk.j1 k x237000 (x237000 == 2) x999 x237000 x237001 x237002 x237003 x237004 x237005 x238000) else (impl_valueOk.j1 k x237000 (x237000 == 5) x999 x237000 x237001 x237002 x237003 x237004 x237005 x238000))))
def impl_valueOk.j1 : Nat → Int → Bool → List (List ByteArray) → Int → Int → Int → ByteArray → List (S33) → List ByteArray → Int → Option (Bool)
 | 0, _, _, _, _, _, _, _, _, _, _ => none
 | k + 1, x53, x54, x999, x237000, x237001, x237002, x237003, x237004, x237005, x238000 => if x54 = true then ((impl_Value_36_at_valueOk_1.f k x237004 x999 [x238000]).bind fun t238 => (some (!t238))) else (if x53 = 3 then ((impl_DecOk.f x237001 x237002).bind fun t239 => (some t239)) else (if x53 = 4 then (some (decide ((x237003.size : Int) ≤ 1500))) else (if x53 = 6 then (impl_valueOk.l0 k x237005 (x237005.length : Int) 0 x999 x237000 x237001 x237002 x237003 x237004 x237005 x238000) else (some false))))
def impl_valueOk.l0 : Nat → List ByteArray → Int → Int → List (List ByteArray) → Int → Int → Int → ByteArray → List (S33) → List ByteArray → Int → Option (Bool)
 | 0, _, _, _, _, _, _, _, _, _, _, _ => none
 | k + 1, x73, x74, x75, x999, x237000, x237001, x237002, x237003, x237004, x237005, x238000 => if x75 < x74 then (if 0 ≤ x75 then (if x75 < (x73.length : Int) then ((impl_NameOk.f k (rdOf ByteArray.empty x73 x75) x999).bind fun t241 => (if t241 = true then (if x75 > 0 then (if 0 ≤ (wrap64 (x75 - 1)) then (if (wrap64 (x75 - 1)) < (x237005.length : Int) then (if ((Op.bytesLess ((rdOf ByteArray.empty x237005 (wrap64 (x75 - 1))).toList) ((rdOf ByteArray.empty x73 x75).toList)) = true) then (impl_valueOk.l0 k x73 x74 (wrap64 (x75 + 1)) x999 x237000 x237001 x237002 x237003 x237004 x237005 x238000) else (some false)) else (none)) else (none)) else (impl_valueOk.l0 k x73 x74 (wrap64 (x75 + 1)) x999 x237000 x237001 x237002 x237003 x237004 x237005 x238000)) else (some false))) else (none)) else (none)) else (if (x237005.length : Int) = (x237004.length : Int) then ((impl_Value_36_at_valueOk_1.f k x237004 x999 [x238000]).bind fun t243 => (some (!t243))) else (some false))
def impl_valueOk.f : Nat → Int → Int → Int → ByteArray → List (S33) → List ByteArray → Int → List (List ByteArray) → Option (Bool)
 | 0, _, _, _, _, _, _, _, _ => none
 | k + 1, a0_0, a0_1, a0_2, a0_3, l0_4, l0_5, a1, l2 => if a1 = 0 then (impl_valueOk.j0 k true l2 a0_0 a0_1 a0_2 a0_3 l0_4 l0_5 a1) else (if a0_0 = 3 then (if a0_0 = 4 then (if a0_0 < 5 then (if (l0_4.length : Int) > 0 then (impl_valueOk.j0 k true l2 a0_0 a0_1 a0_2 a0_3 l0_4 l0_5 a1) else (if a0_0 = 6 then (impl_valueOk.j0 k false l2 a0_0 a0_1 a0_2 a0_3 l0_4 l0_5 a1) else (impl_valueOk.j0 k (decide ((l0_5.length : Int) > 0)) l2 a0_0 a0_1 a0_2 a0_3 l0_4 l0_5 a1))) else (if a0_0 = 6 then (impl_valueOk.j0 k false l2 a0_0 a0_1 a0_2 a0_3 l0_4 l0_5 a1) else (impl_valueOk.j0 k (decide ((l0_5.length : Int) > 0)) l2 a0_0 a0_1 a0_2 a0_3 l0_4 l0_5 a1))) else (if a0_3.toList = ([] : List UInt8) then (if a0_0 < 5 then (if (l0_4.length : Int) > 0 then (impl_valueOk.j0 k true l2 a0_0 a0_1 a0_2 a0_3 l0_4 l0_5 a1) else (if a0_0 = 6 then (impl_valueOk.j0 k false l2 a0_0 a0_1 a0_2 a0_3 l0_4 l0_5 a1) else (impl_valueOk.j0 k (decide ((l0_5.length : Int) > 0)) l2 a0_0 a0_1 a0_2 a0_3 l0_4 l0_5 a1))) else (if a0_0 = 6 then (impl_valueOk.j0 k false l2 a0_0 a0_1 a0_2 a0_3 l0_4 l0_5 a1) else (impl_valueOk.j0 k (decide ((l0_5.length : Int) > 0)) l2 a0_0 a0_1 a0_2 a0_3 l0_4 l0_5 a1))) else (impl_valueOk.j0 k true l2 a0_0 a0_1 a0_2 a0_3 l0_4 l0_5 a1))) else (if (!(a0_1 == 0) || (!(a0_2 == 0))) = true then (impl_valueOk.j0 k true l2 a0_0 a0_1 a0_2 a0_3 l0_4 l0_5 a1) else (if a0_0 = 4 then (if a0_0 < 5 then (if (l0_4.length : Int) > 0 then (impl_valueOk.j0 k true l2 a0_0 a0_1 a0_2 a0_3 l0_4 l0_5 a1) else (if a0_0 = 6 then (impl_valueOk.j0 k false l2 a0_0 a0_1 a0_2 a0_3 l0_4 l0_5 a1) else (impl_valueOk.j0 k (decide ((l0_5.length : Int) > 0)) l2 a0_0 a0_1 a0_2 a0_3 l0_4 l0_5 a1))) else (if a0_0 = 6 then (impl_valueOk.j0 k false l2 a0_0 a0_1 a0_2 a0_3 l0_4 l0_5 a1) else (impl_valueOk.j0 k (decide ((l0_5.length : Int) > 0)) l2 a0_0 a0_1 a0_2 a0_3 l0_4 l0_5 a1))) else (if a0_3.toList = ([] : List UInt8) then (if a0_0 < 5 then (if (l0_4.length : Int) > 0 then (impl_valueOk.j0 k true l2 a0_0 a0_1 a0_2 a0_3 l0_4 l0_5 a1) else (if a0_0 = 6 then (impl_valueOk.j0 k false l2 a0_0 a0_1 a0_2 a0_3 l0_4 l0_5 a1) else (impl_valueOk.j0 k (decide ((l0_5.length : Int) > 0)) l2 a0_0 a0_1 a0_2 a0_3 l0_4 l0_5 a1))) else (if a0_0 = 6 then (impl_valueOk.j0 k false l2 a0_0 a0_1 a0_2 a0_3 l0_4 l0_5 a1) else (impl_valueOk.j0 k (decide ((l0_5.length : Int) > 0)) l2 a0_0 a0_1 a0_2 a0_3 l0_4 l0_5 a1))) else (impl_valueOk.j0 k true l2 a0_0 a0_1 a0_2 a0_3 l0_4 l0_5 a1)))))
def impl_Value_36_at_valueOk_1.f : Nat → List (S33) → List (List ByteArray) → List Int → Option (Bool)
 | 0, _, _, _ => none
 | k + 1, l0, l2, l3 => (impl_Value_55_at_valueOk_1.f k l0 l2 l3).bind fun t244 => (some (decide (t244 ≥ 0)))
def impl_valueOk_1.f : Nat → Int → Int → Int → ByteArray → List (S33) → List ByteArray → List (List ByteArray) → List Int → Option (Bool)
 | 0, _, _, _, _, _, _, _, _ => none
 | k + 1, a0_0, a0_1, a0_2, a0_3, l0_4, l0_5, l1, l2 => if 0 < (l2.length : Int) then ((impl_valueOk.f k a0_0 a0_1 a0_2 a0_3 l0_4 l0_5 (wrap64 ((rd l2 0) - 1)) l1).bind fun t247 => (some (!t247))) else (none)
def impl_Value_55_at_valueOk_1.l0 : Nat → List (S33) → Int → Int → List Int → List (List ByteArray) → Option (Int)
 | 0, _, _, _, _, _ => none
 | k + 1, x0, x7, x8, x900, x999 => if x8 < x7 then (if 0 ≤ x8 then (if x8 < (x0.length : Int) then ((impl_valueOk_1.f k ((rd_T33 x0 x8).f0) ((rd_T33 x0 x8).f1.f0) ((rd_T33 x0 x8).f1.f1) ((rd_T33 x0 x8).f2) ((rd_T33 x0 x8).f3) ((rd_T33 x0 x8).f4) x999 x900).bind fun t249 => (if t249 = true then (some x8) else (impl_Value_55_at_valueOk_1.l0 k x0 x7 (wrap64 (x8 + 1)) x900 x999))) else (none)) else (none)) else (some (-1))
def impl_Value_55_at_valueOk_1.f : Nat → List (S33) → List (List ByteArray) → List Int → Option (Int)
 | 0, _, _, _ => none
 | k + 1, l0, l2, l3 => impl_Value_55_at_valueOk_1.l0 k l0 (l0.length : Int) 0 l3 l2
end
theorem impl_valueOk.G.mono_l : ∀ k, (∀ y0 y1 y2 y3 y4 y5 y6 y7, LeO (impl_valueOk.f k y0 y1 y2 y3 y4 y5 y6 y7) (impl_valueOk.f (k + 1) y0 y1 y2 y3 y4 y5 y6 y7)) ∧ (∀ y0 y1 y2 y3 y4 y5 y6 y7 y8, LeO (impl_valueOk.j0 k y0 y1 y2 y3 y4 y5 y6 y7 y8) (impl_valueOk.j0 (k + 1) y0 y1 y2 y3 y4 y5 y6 y7 y8)) ∧ (∀ y0 y1 y2 y3 y4 y5 y6 y7 y8 y9, LeO (impl_valueOk.j1 k y0 y1 y2 y3 y4 y5 y6 y7 y8 y9) (impl_valueOk.j1 (k + 1) y0 y1 y2 y3 y4 y5 y6 y7 y8 y9)) ∧ (∀ y0 y1 y2 y3 y4 y5 y6 y7 y8 y9 y10, LeO (impl_valueOk.l0 k y0 y1 y2 y3 y4 y5 y6 y7 y8 y9 y10) (impl_valueOk.l0 (k + 1) y0 y1 y2 y3 y4 y5 y6 y7 y8 y9 y10)) ∧ (∀ y0 y1 y2, LeO (impl_Value_36_at_valueOk_1.f k y0 y1 y2) (impl_Value_36_at_valueOk_1.f (k + 1) y0 y1 y2)) ∧ (∀ y0 y1 y2 y3 y4 y5 y6 y7, LeO (impl_valueOk_1.f k y0 y1 y2 y3 y4 y5 y6 y7) (impl_valueOk_1.f (k + 1) y0 y1 y2 y3 y4 y5 y6 y7)) ∧ (∀ y0 y1 y2, LeO (impl_Value_55_at_valueOk_1.f k y0 y1 y2) (impl_Value_55_at_valueOk_1.f (k + 1) y0 y1 y2)) ∧ (∀ y0 y1 y2 y3 y4, LeO (impl_Value_55_at_valueOk_1.l0 k y0 y1 y2 y3 y4) (impl_Value_55_at_valueOk_1.l0 (k + 1) y0 y1 y2 y3 y4))
 | 0 => ⟨fun _ _ _ _ _ _ _ _ r h => by simp [impl_valueOk.f] at h, fun _ _ _ _ _ _ _ _ _ r h => by simp [impl_valueOk.j0] at h, fun _ _ _ _ _ _ _ _ _ _ r h => by simp [impl_valueOk.j1] at h, fun _ _ _ _ _ _ _ _ _ _ _ r h => by simp [impl_valueOk.l0] at h, fun _ _ _ r h => by simp [impl_Value_36_at_valueOk_1.f] at h, fun _ _ _ _ _ _ _ _ r h => by simp [impl_valueOk_1.f] at h, fun _ _ _ r h => by simp [impl_Value_55_at_valueOk_1.f] at h, fun _ _ _ _ _ r h => by simp [impl_Value_55_at_valueOk_1.l0] at h⟩
 | k + 1 => by
  obtain ⟨ih0, ih1, ih2, ih3, ih4, ih5, ih6, ih7⟩ := impl_valueOk.G.mono_l k
  refine ⟨?_, ?_, ?_, ?_, ?_, ?_, ?_, ?_⟩
  ·intro y0 y1 y2 y3 y4 y5 y6 y7
   unfold impl_valueOk.f
   repeat' first
   | (with_reducible exact ih0 _ _ _ _ _ _ _ _)
   | (with_reducible exact ih1 _ _ _ _ _ _ _ _ _)
   | (with_reducible exact ih2 _ _ _ _ _ _ _ _ _ _)
   | (with_reducible exact ih3 _ _ _ _ _ _ _ _ _ _ _)
   | (with_reducible exact ih4 _ _ _)
   | (with_reducible exact ih5 _ _ _ _ _ _ _ _)
   | (with_reducible exact ih6 _ _ _)
   | (with_reducible exact ih7 _ _ _ _ _)
   | (with_reducible exact impl_NameOk.mono _ _ _)
   | (with_reducible exact LeO.refl _)
   | (with_reducible exact LeO.none _)
   | (with_reducible refine LeO.ite ?_ ?_)
   | (with_reducible refine LeO.bind ?_ (fun _ => ?_))
   | exact ih0 _ _ _ _ _ _ _ _
   | exact ih1 _ _ _ _ _ _ _ _ _
   | exact ih2 _ _ _ _ _ _ _ _ _ _
   | exact ih3 _ _ _ _ _ _ _ _ _ _ _
   | exact ih4 _ _ _
   | exact ih5 _ _ _ _ _ _ _ _
   | exact ih6 _ _ _
   | exact ih7 _ _ _ _ _
  ·intro y0 y1 y2 y3 y4 y5 y6 y7 y8
   unfold impl_valueOk.j0
   repeat' first
   | (with_reducible exact ih0 _ _ _ _ _ _ _ _)
   | (with_reducible exact ih1 _ _ _ _ _ _ _ _ _)
   | (with_reducible exact ih2 _ _ _ _ _ _ _ _ _ _)
   | (with_reducible exact ih3 _ _ _ _ _ _ _ _ _ _ _)
   | (with_reducible exact ih4 _ _ _)
   | (with_reducible exact ih5 _ _ _ _ _ _ _ _)
   | (with_reducible exact ih6 _ _ _)
   | (with_reducible exact ih7 _ _ _ _ _)
   | (with_reducible exact impl_NameOk.mono _ _ _)
   | (with_reducible exact LeO.refl _)
   | (with_reducible exact LeO.none _)
   | (with_reducible refine LeO.ite ?_ ?_)
   | (with_reducible refine LeO.bind ?_ (fun _ => ?_))
   | exact ih0 _ _ _ _ _ _ _ _
   | exact ih1 _ _ _ _ _ _ _ _ _
   | exact ih2 _ _ _ _ _ _ _ _ _ _
   | exact ih3 _ _ _ _ _ _ _ _ _ _ _
   | exact ih4 _ _ _
   | exact ih5 _ _ _ _ _ _ _ _
   | exact ih6 _ _ _
   | exact ih7 _ _ _ _ _
  ·intro y0 y1 y2 y3 y4 y5 y6 y7 y8 y9
   unfold impl_valueOk.j1
   repeat' first
   | (with_reducible exact ih0 _ _ _ _ _ _ _ _)
   | (with_reducible exact ih1 _ _ _ _ _ _ _ _ _)
   | (with_reducible exact ih2 _ _ _ _ _ _ _ _ _ _)
   | (with_reducible exact ih3 _ _ _ _ _ _ _ _ _ _ _)
   | (with_reducible exact ih4 _ _ _)
   | (with_reducible exact ih5 _ _ _ _ _ _ _ _)
   | (with_reducible exact ih6 _ _ _)
   | (with_reducible exact ih7 _ _ _ _ _)
   | (with_reducible exact impl_NameOk.mono _ _ _)
   | (with_reducible exact LeO.refl _)
   | (with_reducible exact LeO.none _)
   | (with_reducible refine LeO.ite ?_ ?_)
   | (with_reducible refine LeO.bind ?_ (fun _ => ?_))
   | exact ih0 _ _ _ _ _ _ _ _
   | exact ih1 _ _ _ _ _ _ _ _ _
   | exact ih2 _ _ _ _ _ _ _ _ _ _
   | exact ih3 _ _ _ _ _ _ _ _ _ _ _
   | exact ih4 _ _ _
   | exact ih5 _ _ _ _ _ _ _ _
   | exact ih6 _ _ _
   | exact ih7 _ _ _ _ _
  ·intro y0 y1 y2 y3 y4 y5 y6 y7 y8 y9 y10
   unfold impl_valueOk.l0
   repeat' first
   | (with_reducible exact ih0 _ _ _ _ _ _ _ _)
   | (with_reducible exact ih1 _ _ _ _ _ _ _ _ _)
   | (with_reducible exact ih2 _ _ _ _ _ _ _ _ _ _)
   | (with_reducible exact ih3 _ _ _ _ _ _ _ _ _ _ _)
   | (with_reducible exact ih4 _ _ _)
   | (with_reducible exact ih5 _ _ _ _ _ _ _ _)
   | (with_reducible exact ih6 _ _ _)
   | (with_reducible exact ih7 _ _ _ _ _)
   | (with_reducible exact impl_NameOk.mono _ _ _)
   | (with_reducible exact LeO.refl _)
   | (with_reducible exact LeO.none _)
   | (with_reducible refine LeO.ite ?_ ?_)
   | (with_reducible refine LeO.bind ?_ (fun _ => ?_))
   | exact ih0 _ _ _ _ _ _ _ _
   | exact ih1 _ _ _ _ _ _ _ _ _
   | exact ih2 _ _ _ _ _ _ _ _ _ _
   | exact ih3 _ _ _ _ _ _ _ _ _ _ _
   | exact ih4 _ _ _
   | exact ih5 _ _ _ _ _ _ _ _
   | exact ih6 _ _ _
   | exact ih7 _ _ _ _ _
  ·intro y0 y1 y2
   unfold impl_Value_36_at_valueOk_1.f
   repeat' first
   | (with_reducible exact ih0 _ _ _ _ _ _ _ _)
   | (with_reducible exact ih1 _ _ _ _ _ _ _ _ _)
   | (with_reducible exact ih2 _ _ _ _ _ _ _ _ _ _)
   | (with_reducible exact ih3 _ _ _ _ _ _ _ _ _ _ _)
   | (with_reducible exact ih4 _ _ _)
   | (with_reducible exact ih5 _ _ _ _ _ _ _ _)
   | (with_reducible exact ih6 _ _ _)
   | (with_reducible exact ih7 _ _ _ _ _)
   | (with_reducible exact impl_NameOk.mono _ _ _)
   | (with_reducible exact LeO.refl _)
   | (with_reducible exact LeO.none _)
   | (with_reducible refine LeO.ite ?_ ?_)
   | (with_reducible refine LeO.bind ?_ (fun _ => ?_))
   | exact ih0 _ _ _ _ _ _ _ _
   | exact ih1 _ _ _ _ _ _ _ _ _
   | exact ih2 _ _ _ _ _ _ _ _ _ _
   | exact ih3 _ _ _ _ _ _ _ _ _ _ _
   | exact ih4 _ _ _
   | exact ih5 _ _ _ _ _ _ _ _
   | exact ih6 _ _ _
   | exact ih7 _ _ _ _ _
  ·intro y0 y1 y2 y3 y4 y5 y6 y7
   unfold impl_valueOk_1.f
   repeat' first
   | (with_reducible exact ih0 _ _ _ _ _ _ _ _)
   | (with_reducible exact ih1 _ _ _ _ _ _ _ _ _)
   | (with_reducible exact ih2 _ _ _ _ _ _ _ _ _ _)
   | (with_reducible exact ih3 _ _ _ _ _ _ _ _ _ _ _)
   | (with_reducible exact ih4 _ _ _)
   | (with_reducible exact ih5 _ _ _ _ _ _ _ _)
   | (with_reducible exact ih6 _ _ _)
   | (with_reducible exact ih7 _ _ _ _ _)
   | (with_reducible exact impl_NameOk.mono _ _ _)
   | (with_reducible exact LeO.refl _)
   | (with_reducible exact LeO.none _)
   | (with_reducible refine LeO.ite ?_ ?_)
   | (with_reducible refine LeO.bind ?_ (fun _ => ?_))
   | exact ih0 _ _ _ _ _ _ _ _
   | exact ih1 _ _ _ _ _ _ _ _ _
   | exact ih2 _ _ _ _ _ _ _ _ _ _
   | exact ih3 _ _ _ _ _ _ _ _ _ _ _
   | exact ih4 _ _ _
   | exact ih5 _ _ _ _ _ _ _ _
   | exact ih6 _ _ _
   | exact ih7 _ _ _ _ _
  ·intro y0 y1 y2
   unfold impl_Value_55_at_valueOk_1.f
   repeat' first
   | (with_reducible exact ih0 _ _ _ _ _ _ _ _)
   | (with_reducible exact ih1 _ _ _ _ _ _ _ _ _)
   | (with_reducible exact ih2 _ _ _ _ _ _ _ _ _ _)
   | (with_reducible exact ih3 _ _ _ _ _ _ _ _ _ _ _)
   | (with_reducible exact ih4 _ _ _)
   | (with_reducible exact ih5 _ _ _ _ _ _ _ _)
   | (with_reducible exact ih6 _ _ _)
   | (with_reducible exact ih7 _ _ _ _ _)
   | (with_reducible exact impl_NameOk.mono _ _ _)
   | (with_reducible exact LeO.refl _)
   | (with_reducible exact LeO.none _)
   | (with_reducible refine LeO.ite ?_ ?_)
   | (with_reducible refine LeO.bind ?_ (fun _ => ?_))
   | exact ih0 _ _ _ _ _ _ _ _
   | exact ih1 _ _ _ _ _ _ _ _ _
   | exact ih2 _ _ _ _ _ _ _ _ _ _
   | exact ih3 _ _ _ _ _ _ _ _ _ _ _
   | exact ih4 _ _ _
   | exact ih5 _ _ _ _ _ _ _ _
   | exact ih6 _ _ _
   | exact ih7 _ _ _ _ _
  ·intro y0 y1 y2 y3 y4
   unfold impl_Value_55_at_valueOk_1.l0
   repeat' first
   | (with_reducible exact ih0 _ _ _ _ _ _ _ _)
   | (with_reducible exact ih1 _ _ _ _ _ _ _ _ _)
   | (with_reducible exact ih2 _ _ _ _ _ _ _ _ _ _)
   | (with_reducible exact ih3 _ _ _ _ _ _ _ _ _ _ _)
   | (with_reducible exact ih4 _ _ _)
   | (with_reducible exact ih5 _ _ _ _ _ _ _ _)
   | (with_reducible exact ih6 _ _ _)
   | (with_reducible exact ih7 _ _ _ _ _)
   | (with_reducible exact impl_NameOk.mono _ _ _)
   | (with_reducible exact LeO.refl _)
   | (with_reducible exact LeO.none _)
   | (with_reducible refine LeO.ite ?_ ?_)
   | (with_reducible refine LeO.bind ?_ (fun _ => ?_))
   | exact ih0 _ _ _ _ _ _ _ _
   | exact ih1 _ _ _ _ _ _ _ _ _
   | exact ih2 _ _ _ _ _ _ _ _ _ _
   | exact ih3 _ _ _ _ _ _ _ _ _ _ _
   | exact ih4 _ _ _
   | exact ih5 _ _ _ _ _ _ _ _
   | exact ih6 _ _ _
   | exact ih7 _ _ _ _ _
theorem impl_valueOk.mono : ∀ a0 a1 a2 a3 a4 a5 a6 a7 k, LeO (impl_valueOk.f k a0 a1 a2 a3 a4 a5 a6 a7) (impl_valueOk.f (k + 1) a0 a1 a2 a3 a4 a5 a6 a7) := fun a0 a1 a2 a3 a4 a5 a6 a7 k => (impl_valueOk.G.mono_l k).1 a0 a1 a2 a3 a4 a5 a6 a7
theorem impl_Value_36_at_valueOk_1.mono : ∀ a0 a1 a2 k, LeO (impl_Value_36_at_valueOk_1.f k a0 a1 a2) (impl_Value_36_at_valueOk_1.f (k + 1) a0 a1 a2) := fun a0 a1 a2 k => (impl_valueOk.G.mono_l k).2.2.2.2.1 a0 a1 a2
theorem impl_valueOk_1.mono : ∀ a0 a1 a2 a3 a4 a5 a6 a7 k, LeO (impl_valueOk_1.f k a0 a1 a2 a3 a4 a5 a6 a7) (impl_valueOk_1.f (k + 1) a0 a1 a2 a3 a4 a5 a6 a7) := fun a0 a1 a2 a3 a4 a5 a6 a7 k => (impl_valueOk.G.mono_l k).2.2.2.2.2.1 a0 a1 a2 a3 a4 a5 a6 a7
theorem impl_Value_55_at_valueOk_1.mono : ∀ a0 a1 a2 k, LeO (impl_Value_55_at_valueOk_1.f k a0 a1 a2) (impl_Value_55_at_valueOk_1.f (k + 1) a0 a1 a2) := fun a0 a1 a2 k => (impl_valueOk.G.mono_l k).2.2.2.2.2.2.1 a0 a1 a2
abbrev impl_valueOk.Spec (k : Nat) : Prop := ∀ (a0_0 : Int) (a0_1 : Int) (a0_2 : Int) (a0_3 : ByteArray) (A0_4 : Option Addr) (c0_4 : Nat) (l0_4 : List (S33)) (A0_5 : Option Addr) (c0_5 : Nat) (l0_5 : List ByteArray) (a1 : Int) (A2 : Option Addr) (c2 : Nat) (l2 : List (List ByteArray)) (r : Bool) (w : World) (hr0_4 : Kd.C k33 w A0_4 l0_4.length l0_4) (hc0_4 : l0_4.length ≤ c0_4) (hr0_5 : Kd.C Kd.string w A0_5 l0_5.length l0_5) (hc0_5 : l0_5.length ≤ c0_5) (hr2 : Kd.C (Kd.slice 9 Kd.string) w A2 l2.length l2) (hc2 : l2.length ≤ c2) (hg2 : A2 = some ⟨0, 0, none⟩) (h : impl_valueOk.f k a0_0 a0_1 a0_2 a0_3 l0_4 l0_5 a1 l2 = some r),
  Calls Tryd.prog 26 #[.agg #[.int .i64 a0_0, .int .i64 a0_1, .int .i64 a0_2, .string a0_3, .slice A0_4 l0_4.length c0_4, .slice A0_5 l0_5.length c0_5], .int .i64 a1] w fun e w' => e = .returned (.bool r) ∧ Below w.heap.size w w'
abbrev impl_Value_36_at_valueOk_1.Spec (k : Nat) : Prop := ∀ (A0 : Option Addr) (c0 : Nat) (l0 : List (S33))  (A2 : Option Addr) (c2 : Nat) (l2 : List (List ByteArray)) (A3 : Option Addr) (c3 : Nat) (l3 : List Int) (r : Bool) (w : World) (hr0 : Kd.C k33 w A0 l0.length l0) (hc0 : l0.length ≤ c0) (hr2 : Kd.C (Kd.slice 9 Kd.string) w A2 l2.length l2) (hc2 : l2.length ≤ c2) (hr3 : Kd.C (Kd.int .i64) w A3 l3.length l3) (hc3 : l3.length ≤ c3) (hg2 : A2 = some ⟨0, 0, none⟩) (h : impl_Value_36_at_valueOk_1.f k l0 l2 l3 = some r),
  Calls Tryd.prog 36 #[.slice A0 l0.length c0, .func (.func 37) #[] #[.pointer A3]] w fun e w' => e = .returned (.bool r) ∧ Below w.heap.size w w'
abbrev impl_valueOk_1.Spec (k : Nat) : Prop := ∀ (a0_0 : Int) (a0_1 : Int) (a0_2 : Int) (a0_3 : ByteArray) (A0_4 : Option Addr) (c0_4 : Nat) (l0_4 : List (S33)) (A0_5 : Option Addr) (c0_5 : Nat) (l0_5 : List ByteArray) (A1 : Option Addr) (c1 : Nat) (l1 : List (List ByteArray)) (A2 : Option Addr) (c2 : Nat) (l2 : List Int) (r : Bool) (w : World) (hr0_4 : Kd.C k33 w A0_4 l0_4.length l0_4) (hc0_4 : l0_4.length ≤ c0_4) (hr0_5 : Kd.C Kd.string w A0_5 l0_5.length l0_5) (hc0_5 : l0_5.length ≤ c0_5) (hr1 : Kd.C (Kd.slice 9 Kd.string) w A1 l1.length l1) (hc1 : l1.length ≤ c1) (hr2 : Kd.C (Kd.int .i64) w A2 l2.length l2) (hc2 : l2.length ≤ c2) (hg1 : A1 = some ⟨0, 0, none⟩) (h : impl_valueOk_1.f k a0_0 a0_1 a0_2 a0_3 l0_4 l0_5 l1 l2 = some r),
  Calls Tryd.prog 37 #[.agg #[.int .i64 a0_0, .int .i64 a0_1, .int .i64 a0_2, .string a0_3, .slice A0_4 l0_4.length c0_4, .slice A0_5 l0_5.length c0_5], .pointer A2] w fun e w' => e = .returned (.bool r) ∧ Below w.heap.size w w'
abbrev impl_Value_55_at_valueOk_1.Spec (k : Nat) : Prop := ∀ (A0 : Option Addr) (c0 : Nat) (l0 : List (S33))  (A2 : Option Addr) (c2 : Nat) (l2 : List (List ByteArray)) (A3 : Option Addr) (c3 : Nat) (l3 : List Int) (r : Int) (w : World) (hr0 : Kd.C k33 w A0 l0.length l0) (hc0 : l0.length ≤ c0) (hr2 : Kd.C (Kd.slice 9 Kd.string) w A2 l2.length l2) (hc2 : l2.length ≤ c2) (hr3 : Kd.C (Kd.int .i64) w A3 l3.length l3) (hc3 : l3.length ≤ c3) (hg2 : A2 = some ⟨0, 0, none⟩) (h : impl_Value_55_at_valueOk_1.f k l0 l2 l3 = some r),
  Calls Tryd.prog 55 #[.slice A0 l0.length c0, .func (.func 37) #[] #[.pointer A3]] w fun e w' => e = .returned (.int .i64 r) ∧ Below w.heap.size w w'
set_option maxHeartbeats 8000000 in
set_option maxRecDepth 100000 in
theorem impl_valueOk.step (k : Nat) (ih_impl_valueOk : ∀ m, m < k → impl_valueOk.Spec m) (ih_impl_Value_36_at_valueOk_1 : ∀ m, m < k → impl_Value_36_at_valueOk_1.Spec m) (ih_impl_valueOk_1 : ∀ m, m < k → impl_valueOk_1.Spec m) (ih_impl_Value_55_at_valueOk_1 : ∀ m, m < k → impl_Value_55_at_valueOk_1.Spec m) : impl_valueOk.Spec k := by
 intro a0_0 a0_1 a0_2 a0_3 A0_4 c0_4 l0_4 A0_5 c0_5 l0_5 a1 A2 c2 l2 r w hr0_4 hc0_4 hr0_5 hc0_5 hr2 hc2 hg2 h
 cases k with
 | zero => exact absurd h (by simp [impl_valueOk.f])
 | succ k =>
 simp only [impl_valueOk.f] at h
 have hu33 := Tryd.underlying33
 have hu30 := Tryd.underlying30
 have HR0_4 := zA hr0_4
 have HC0_4 := zA hc0_4
 clear hr0_4 hc0_4
 have HR0_5 := zA hr0_5
 have HC0_5 := zA hc0_5
 clear hr0_5 hc0_5
 have HG2 := zA hg2
 clear hg2
 have HR2 := zA hr2
 have HC2 := zA hc2
 clear hr2 hc2
 have HB := zA (yJ w.heap.size w)
 have H : (if a1 = 0 then (impl_valueOk.j0 k true l2 a0_0 a0_1 a0_2 a0_3 l0_4 l0_5 a1) else (if a0_0 = 3 then (if a0_0 = 4 then (if a0_0 < 5 then (if (l0_4.length : Int) > 0 then (impl_valueOk.j0 k true l2 a0_0 a0_1 a0_2 a0_3 l0_4 l0_5 a1) else (if a0_0 = 6 then (impl_valueOk.j0 k false l2 a0_0 a0_1 a0_2 a0_3 l0_4 l0_5 a1) else (impl_valueOk.j0 k (decide ((l0_5.length : Int) > 0)) l2 a0_0 a0_1 a0_2 a0_3 l0_4 l0_5 a1))) else (if a0_0 = 6 then (impl_valueOk.j0 k false l2 a0_0 a0_1 a0_2 a0_3 l0_4 l0_5 a1) else (impl_valueOk.j0 k (decide ((l0_5.length : Int) > 0)) l2 a0_0 a0_1 a0_2 a0_3 l0_4 l0_5 a1))) else (if a0_3.toList = ([] : List UInt8) then (if a0_0 < 5 then (if (l0_4.length : Int) > 0 then (impl_valueOk.j0 k true l2 a0_0 a0_1 a0_2 a0_3 l0_4 l0_5 a1) else (if a0_0 = 6 then (impl_valueOk.j0 k false l2 a0_0 a0_1 a0_2 a0_3 l0_4 l0_5 a1) else (impl_valueOk.j0 k (decide ((l0_5.length : Int) > 0)) l2 a0_0 a0_1 a0_2 a0_3 l0_4 l0_5 a1))) else (if a0_0 = 6 then (impl_valueOk.j0 k false l2 a0_0 a0_1 a0_2 a0_3 l0_4 l0_5 a1) else (impl_valueOk.j0 k (decide ((l0_5.length : Int) > 0)) l2 a0_0 a0_1 a0_2 a0_3 l0_4 l0_5 a1))) else (impl_valueOk.j0 k true l2 a0_0 a0_1 a0_2 a0_3 l0_4 l0_5 a1))) else (if (!(a0_1 == 0) || (!(a0_2 == 0))) = true then (impl_valueOk.j0 k true l2 a0_0 a0_1 a0_2 a0_3 l0_4 l0_5 a1) else (if a0_0 = 4 then (if a0_0 < 5 then (if (l0_4.length : Int) > 0 then (impl_valueOk.j0 k true l2 a0_0 a0_1 a0_2 a0_3 l0_4 l0_5 a1) else (if a0_0 = 6 then (impl_valueOk.j0 k false l2 a0_0 a0_1 a0_2 a0_3 l0_4 l0_5 a1) else (impl_valueOk.j0 k (decide ((l0_5.length : Int) > 0)) l2 a0_0 a0_1 a0_2 a0_3 l0_4 l0_5 a1))) else (if a0_0 = 6 then (impl_valueOk.j0 k false l2 a0_0 a0_1 a0_2 a0_3 l0_4 l0_5 a1) else (impl_valueOk.j0 k (decide ((l0_5.length : Int) > 0)) l2 a0_0 a0_1 a0_2 a0_3 l0_4 l0_5 a1))) else (if a0_3.toList = ([] : List UInt8) then (if a0_0 < 5 then (if (l0_4.length : Int) > 0 then (impl_valueOk.j0 k true l2 a0_0 a0_1 a0_2 a0_3 l0_4 l0_5 a1) else (if a0_0 = 6 then (impl_valueOk.j0 k false l2 a0_0 a0_1 a0_2 a0_3 l0_4 l0_5 a1) else (impl_valueOk.j0 k (decide ((l0_5.length : Int) > 0)) l2 a0_0 a0_1 a0_2 a0_3 l0_4 l0_5 a1))) else (if a0_0 = 6 then (impl_valueOk.j0 k false l2 a0_0 a0_1 a0_2 a0_3 l0_4 l0_5 a1) else (impl_valueOk.j0 k (decide ((l0_5.length : Int) > 0)) l2 a0_0 a0_1 a0_2 a0_3 l0_4 l0_5 a1))) else (impl_valueOk.j0 k true l2 a0_0 a0_1 a0_2 a0_3 l0_4 l0_5 a1)))))) = some r := h
 clear h
 have HC4 := zA H
 clear H
 go_enter Tryd.func26, Tryd.ntmps26
 go_upto_region 1 with (first | ((with_reducible refine zT (N := 2) rfl ?_); (try (refine gate_guard (by rfl) ?_; dsimp only)); refine zX ?hg (N := 2) ?hd (cs := #[.int .i64 a0_0, .int .i64 a0_1, .int .i64 a0_2, .string a0_3, .slice A0_4 l0_4.length c0_4, .slice A0_5 l0_5.length c0_5]) (t := 33) ?hr ?_; (case hd => rfl); (case hg => rfl); (case hr => first | (go_simp; done) | (go_simp; rfl)); intro gb236 hg w5 hbox hb; have n0_ := zA (zQ apA hb); have n1_ := zA (hbox); have n2_ := zA ((by rw [hg]; exact (zR apA) : w.heap.size ≤ gb236)); have n3_ := zA ((by rw [hg]; exact (zR apA) : w.heap.size ≤ gb236)); clear HB; have HB := n0_; have BK236 := n1_; have GW236 := n2_; have GE236 := n3_; clear n0_ n1_ n2_ n3_; clear hb hbox hg) | ((with_reducible refine zT (N := 3) rfl ?_); (try (refine gate_guard (by rfl) ?_; dsimp only)); refine zX ?hg (N := 3) ?hd (cs := #[.int .i64 a1]) (t := 3) ?hr ?_; (case hd => rfl); (case hg => rfl); (case hr => first | (go_simp; done) | (go_simp; rfl)); intro gb237 hg w6 hbox hb; have n0_ := zA (zP (g := gb236) (o := .cells #[.int .i64 a0_0, .int .i64 a0_1, .int .i64 a0_2, .string a0_3, .slice A0_4 l0_4.length c0_4, .slice A0_5 l0_5.length c0_5] 33 (0, 0)) apI hb); have n1_ := zA (zQ (by repeat (first | (with_reducible first | exact HB.out | apply zG | apply zE | apply zF | refine zH ?_ GE236.out) | exact HB.out)) hb); have n2_ := zA (hbox); have n3_ := zA ((by rw [hg]; exact (zR (by repeat (first | (with_reducible first | exact HB.out | apply zG | apply zE | apply zF | refine zH ?_ GE236.out) | exact HB.out))) : w.heap.size ≤ gb237)); have n4_ := zA ((by rw [hg]; exact (zR (by repeat (first | (with_reducible first | exact HB.out | apply zG | apply zE | apply zF | refine zH ?_ GE236.out) | exact HB.out))) : w.heap.size ≤ gb237)); have n5_ := zA ((by rw [hg]; exact Nat.ne_of_lt (blk_lt (g := gb236) (o := .cells #[.int .i64 a0_0, .int .i64 a0_1, .int .i64 a0_2, .string a0_3, .slice A0_4 l0_4.length c0_4, .slice A0_5 l0_5.length c0_5] 33 (0, 0)) apI) : gb236 ≠ gb237)); have n6_ := zA ((by rw [hg]; exact Nat.ne_of_gt (blk_lt (g := gb236) (o := .cells #[.int .i64 a0_0, .int .i64 a0_1, .int .i64 a0_2, .string a0_3, .slice A0_4 l0_4.length c0_4, .slice A0_5 l0_5.length c0_5] 33 (0, 0)) apI) : gb237 ≠ gb236)); clear BK236; clear HB; have BK236 := n0_; have HB := n1_; have BK237 := n2_; have GW237 := n3_; have GE237 := n4_; have NB236_237 := n5_; have NB237_236 := n6_; clear n0_ n1_ n2_ n3_ n4_ n5_ n6_; clear hb hbox hg))
 (try simp only [Act.put, zL, zM, zN])
 go_cut [51] (fun v51 wc => ∃ (kq : Nat) (x51_3 : Bool), v51 = .bool x51_3 ∧ Aside0 (impl_valueOk.j0 kq x51_3 l2 a0_0 a0_1 a0_2 a0_3 l0_4 l0_5 a1 = some r) ∧ Aside0 (kq ≤ k) ∧ Aside0 (wc.heap[gb236]? = some (.cells #[.int .i64 a0_0, .int .i64 a0_1, .int .i64 a0_2, .string a0_3, (.slice A0_4 l0_4.length c0_4), (.slice A0_5 l0_5.length c0_5)] 33 (0, 0))) ∧ Aside0 (wc.heap[gb237]? = some (.cells #[.int .i64 a1] 3 (0, 0))) ∧ Aside0 (Below w.heap.size w wc))
 case first =>
  have H := HC4.out
  clear HC4
  by_cases c7 : a1 = 0
  ·rw [if_pos c7] at H
   have c7b0 : (a1 == 0) = true := beq_iff_eq.mpr c7
   have c7b1 : (a1 != 0) = false := bne_eq_false_iff_eq.mpr c7
   clear c7
   (first | rw [c7b0] | (simp only [i64_w, i32_w]; rw [c7b0]) | skip)
   have H' := zA H
   clear H
   have hnb8 := NB237_236.out
   have hnc8 := NB236_237.out
   have hcz9_0 : w6.cell? ⟨gb237, 0, none⟩ = some (.int .i64 a1) := (zJ BK237.out 0).trans rfl
   have hfz9_0 := zK BK237.out 0
   go_wp2
   go_meet
   case rel => exact ⟨_, (true), apB, H', ⟨by first | omega | exact yK _⟩, ⟨apI⟩, ⟨apG⟩, ⟨apH⟩⟩
  ·rw [if_neg c7] at H
   have c7b0 : (a1 == 0) = false := beq_eq_false_iff_ne.mpr c7
   have c7b1 : (a1 != 0) = true := bne_iff_ne.mpr c7
   (first | rw [c7b0] | (simp only [i64_w, i32_w]; rw [c7b0]) | skip)
   by_cases c10 : a0_0 = 3
   ·rw [if_pos c10] at H
    have c10b0 : (a0_0 == 3) = true := beq_iff_eq.mpr c10
    have c10b1 : (a0_0 != 3) = false := bne_eq_false_iff_eq.mpr c10
    clear c10
    by_cases c11 : a0_0 = 4
    ·rw [if_pos c11] at H
     have c11b0 : (a0_0 == 4) = true := beq_iff_eq.mpr c11
     have c11b1 : (a0_0 != 4) = false := bne_eq_false_iff_eq.mpr c11
     clear c11
     by_cases c12 : a0_0 < 5
     ·rw [if_pos c12] at H
      have c12b0 : decide (a0_0 < 5) = true := yF c12
      clear c12
      by_cases c13 : (l0_4.length : Int) > 0
      ·rw [if_pos c13] at H
       have c13b0 : decide (0 < (l0_4.length : Int)) = true := yF c13
       have c13b1 : decide (0 < l0_4.length) = true := yF (by omega)
       clear c13
       have H' := zA H
       clear H
       have hnb14 := NB237_236.out
       have hnc14 := NB236_237.out
       have hcz15_0 : w6.cell? ⟨gb237, 0, none⟩ = some (.int .i64 a1) := (zJ BK237.out 0).trans rfl
       have hfz15_0 := zK BK237.out 0
       have hcz16_0 : w6.cell? ⟨gb236, 0, none⟩ = some (.int .i64 a0_0) := (zJ BK236.out 0).trans rfl
       have hcz16_1 : w6.cell? ⟨gb236, 1, none⟩ = some (.int .i64 a0_1) := (zJ BK236.out 1).trans rfl
       have hcz16_2 : w6.cell? ⟨gb236, 2, none⟩ = some (.int .i64 a0_2) := (zJ BK236.out 2).trans rfl
       have hcz16_3 : w6.cell? ⟨gb236, 3, none⟩ = some (.string a0_3) := (zJ BK236.out 3).trans rfl
       have hcz16_4 : w6.cell? ⟨gb236, 4, none⟩ = some (.slice A0_4 l0_4.length c0_4) := (zJ BK236.out 4).trans rfl
       have hcz16_5 : w6.cell? ⟨gb236, 5, none⟩ = some (.slice A0_5 l0_5.length c0_5) := (zJ BK236.out 5).trans rfl
       have hfz16_0 := zK BK236.out 0
       have hfz16_1 := zK BK236.out 1
       have hfz16_2 := zK BK236.out 2
       have hfz16_3 := zK BK236.out 3
       have hfz16_4 := zK BK236.out 4
       have hfz16_5 := zK BK236.out 5
       go_wp2
       go_meet
       case rel => exact ⟨_, (true), apB, H', ⟨by first | omega | exact yK _⟩, ⟨apI⟩, ⟨apG⟩, ⟨apH⟩⟩
      ·rw [if_neg c13] at H
       have c13b0 : decide (0 < (l0_4.length : Int)) = false := decide_eq_false c13
       have c13b1 : decide (0 < l0_4.length) = false := decide_eq_false (by omega)
       clear c13
       by_cases c17 : a0_0 = 6
       ·rw [if_pos c17] at H
        have c17b0 : (a0_0 == 6) = true := beq_iff_eq.mpr c17
        have c17b1 : (a0_0 != 6) = false := bne_eq_false_iff_eq.mpr c17
        clear c17
        have H' := zA H
        clear H
        have hnb18 := NB237_236.out
        have hnc18 := NB236_237.out
        have hcz19_0 : w6.cell? ⟨gb237, 0, none⟩ = some (.int .i64 a1) := (zJ BK237.out 0).trans rfl
        have hfz19_0 := zK BK237.out 0
        have hcz20_0 : w6.cell? ⟨gb236, 0, none⟩ = some (.int .i64 a0_0) := (zJ BK236.out 0).trans rfl
        have hcz20_1 : w6.cell? ⟨gb236, 1, none⟩ = some (.int .i64 a0_1) := (zJ BK236.out 1).trans rfl
        have hcz20_2 : w6.cell? ⟨gb236, 2, none⟩ = some (.int .i64 a0_2) := (zJ BK236.out 2).trans rfl
        have hcz20_3 : w6.cell? ⟨gb236, 3, none⟩ = some (.string a0_3) := (zJ BK236.out 3).trans rfl
        have hcz20_4 : w6.cell? ⟨gb236, 4, none⟩ = some (.slice A0_4 l0_4.length c0_4) := (zJ BK236.out 4).trans rfl
        have hcz20_5 : w6.cell? ⟨gb236, 5, none⟩ = some (.slice A0_5 l0_5.length c0_5) := (zJ BK236.out 5).trans rfl
        have hfz20_0 := zK BK236.out 0
        have hfz20_1 := zK BK236.out 1
        have hfz20_2 := zK BK236.out 2
        have hfz20_3 := zK BK236.out 3
        have hfz20_4 := zK BK236.out 4
        have hfz20_5 := zK BK236.out 5
        go_wp2
        go_meet
        case rel => exact ⟨_, (false), apB, H', ⟨by first | omega | exact yK _⟩, ⟨apI⟩, ⟨apG⟩, ⟨apH⟩⟩
       ·rw [if_neg c17] at H
        have c17b0 : (a0_0 == 6) = false := beq_eq_false_iff_ne.mpr c17
        have c17b1 : (a0_0 != 6) = true := bne_iff_ne.mpr c17
        have H' := zA H
        clear H
        have hnb21 := NB237_236.out
        have hnc21 := NB236_237.out
        have hcz22_0 : w6.cell? ⟨gb237, 0, none⟩ = some (.int .i64 a1) := (zJ BK237.out 0).trans rfl
        have hfz22_0 := zK BK237.out 0
        have hcz23_0 : w6.cell? ⟨gb236, 0, none⟩ = some (.int .i64 a0_0) := (zJ BK236.out 0).trans rfl
        have hcz23_1 : w6.cell? ⟨gb236, 1, none⟩ = some (.int .i64 a0_1) := (zJ BK236.out 1).trans rfl
        have hcz23_2 : w6.cell? ⟨gb236, 2, none⟩ = some (.int .i64 a0_2) := (zJ BK236.out 2).trans rfl
        have hcz23_3 : w6.cell? ⟨gb236, 3, none⟩ = some (.string a0_3) := (zJ BK236.out 3).trans rfl
        have hcz23_4 : w6.cell? ⟨gb236, 4, none⟩ = some (.slice A0_4 l0_4.length c0_4) := (zJ BK236.out 4).trans rfl
        have hcz23_5 : w6.cell? ⟨gb236, 5, none⟩ = some (.slice A0_5 l0_5.length c0_5) := (zJ BK236.out 5).trans rfl
        have hfz23_0 := zK BK236.out 0
        have hfz23_1 := zK BK236.out 1
        have hfz23_2 := zK BK236.out 2
        have hfz23_3 := zK BK236.out 3
        have hfz23_4 := zK BK236.out 4
        have hfz23_5 := zK BK236.out 5
        go_wp2
        go_meet
        case rel => exact ⟨_, (decide ((l0_5.length : Int) > 0)), apB, H', ⟨by first | omega | exact yK _⟩, ⟨apI⟩, ⟨apG⟩, ⟨apH⟩⟩
     ·rw [if_neg c12] at H
      have c12b0 : decide (a0_0 < 5) = false := decide_eq_false c12
      clear c12
      by_cases c24 : a0_0 = 6
      ·rw [if_pos c24] at H
       have c24b0 : (a0_0 == 6) = true := beq_iff_eq.mpr c24
       have c24b1 : (a0_0 != 6) = false := bne_eq_false_iff_eq.mpr c24
       clear c24
       have H' := zA H
       clear H
       have hnb25 := NB237_236.out
       have hnc25 := NB236_237.out
       have hcz26_0 : w6.cell? ⟨gb237, 0, none⟩ = some (.int .i64 a1) := (zJ BK237.out 0).trans rfl
       have hfz26_0 := zK BK237.out 0
       have hcz27_0 : w6.cell? ⟨gb236, 0, none⟩ = some (.int .i64 a0_0) := (zJ BK236.out 0).trans rfl
       have hcz27_1 : w6.cell? ⟨gb236, 1, none⟩ = some (.int .i64 a0_1) := (zJ BK236.out 1).trans rfl
       have hcz27_2 : w6.cell? ⟨gb236, 2, none⟩ = some (.int .i64 a0_2) := (zJ BK236.out 2).trans rfl
       have hcz27_3 : w6.cell? ⟨gb236, 3, none⟩ = some (.string a0_3) := (zJ BK236.out 3).trans rfl
       have hcz27_4 : w6.cell? ⟨gb236, 4, none⟩ = some (.slice A0_4 l0_4.length c0_4) := (zJ BK236.out 4).trans rfl
       have hcz27_5 : w6.cell? ⟨gb236, 5, none⟩ = some (.slice A0_5 l0_5.length c0_5) := (zJ BK236.out 5).trans rfl
       have hfz27_0 := zK BK236.out 0
       have hfz27_1 := zK BK236.out 1
       have hfz27_2 := zK BK236.out 2
       have hfz27_3 := zK BK236.out 3
       have hfz27_4 := zK BK236.out 4
       have hfz27_5 := zK BK236.out 5
       go_wp2
       go_meet
       case rel => exact ⟨_, (false), apB, H', ⟨by first | omega | exact yK _⟩, ⟨apI⟩, ⟨apG⟩, ⟨apH⟩⟩
      ·rw [if_neg c24] at H
       have c24b0 : (a0_0 == 6) = false := beq_eq_false_iff_ne.mpr c24
       have c24b1 : (a0_0 != 6) = true := bne_iff_ne.mpr c24
       have H' := zA H
       clear H
       have hnb28 := NB237_236.out
       have hnc28 := NB236_237.out
       have hcz29_0 : w6.cell? ⟨gb237, 0, none⟩ = some (.int .i64 a1) := (zJ BK237.out 0).trans rfl
       have hfz29_0 := zK BK237.out 0
       have hcz30_0 : w6.cell? ⟨gb236, 0, none⟩ = some (.int .i64 a0_0) := (zJ BK236.out 0).trans rfl
       have hcz30_1 : w6.cell? ⟨gb236, 1, none⟩ = some (.int .i64 a0_1) := (zJ BK236.out 1).trans rfl
       have hcz30_2 : w6.cell? ⟨gb236, 2, none⟩ = some (.int .i64 a0_2) := (zJ BK236.out 2).trans rfl
       have hcz30_3 : w6.cell? ⟨gb236, 3, none⟩ = some (.string a0_3) := (zJ BK236.out 3).trans rfl
       have hcz30_4 : w6.cell? ⟨gb236, 4, none⟩ = some (.slice A0_4 l0_4.length c0_4) := (zJ BK236.out 4).trans rfl
       have hcz30_5 : w6.cell? ⟨gb236, 5, none⟩ = some (.slice A0_5 l0_5.length c0_5) := (zJ BK236.out 5).trans rfl
       have hfz30_0 := zK BK236.out 0
       have hfz30_1 := zK BK236.out 1
       have hfz30_2 := zK BK236.out 2
       have hfz30_3 := zK BK236.out 3
       have hfz30_4 := zK BK236.out 4
       have hfz30_5 := zK BK236.out 5
       go_wp2
       go_meet
       case rel => exact ⟨_, (decide ((l0_5.length : Int) > 0)), apB, H', ⟨by first | omega | exact yK _⟩, ⟨apI⟩, ⟨apG⟩, ⟨apH⟩⟩
    ·rw [if_neg c11] at H
     have c11b0 : (a0_0 == 4) = false := beq_eq_false_iff_ne.mpr c11
     have c11b1 : (a0_0 != 4) = true := bne_iff_ne.mpr c11
     by_cases c31 : a0_3.toList = ([] : List UInt8)
     ·rw [if_pos c31] at H
      have c31b0 : (a0_3.toList == ([] : List UInt8)) = true := beq_iff_eq.mpr c31
      have c31b1 : (a0_3.toList != ([] : List UInt8)) = false := bne_eq_false_iff_eq.mpr c31
      clear c31
      by_cases c32 : a0_0 < 5
      ·rw [if_pos c32] at H
       have c32b0 : decide (a0_0 < 5) = true := yF c32
       clear c32
       by_cases c33 : (l0_4.length : Int) > 0
       ·rw [if_pos c33] at H
        have c33b0 : decide (0 < (l0_4.length : Int)) = true := yF c33
        have c33b1 : decide (0 < l0_4.length) = true := yF (by omega)
        clear c33
        have H' := zA H
        clear H
        have hnb34 := NB237_236.out
        have hnc34 := NB236_237.out
        have hcz35_0 : w6.cell? ⟨gb237, 0, none⟩ = some (.int .i64 a1) := (zJ BK237.out 0).trans rfl
        have hfz35_0 := zK BK237.out 0
        have hcz36_0 : w6.cell? ⟨gb236, 0, none⟩ = some (.int .i64 a0_0) := (zJ BK236.out 0).trans rfl
        have hcz36_1 : w6.cell? ⟨gb236, 1, none⟩ = some (.int .i64 a0_1) := (zJ BK236.out 1).trans rfl
        have hcz36_2 : w6.cell? ⟨gb236, 2, none⟩ = some (.int .i64 a0_2) := (zJ BK236.out 2).trans rfl
        have hcz36_3 : w6.cell? ⟨gb236, 3, none⟩ = some (.string a0_3) := (zJ BK236.out 3).trans rfl
        have hcz36_4 : w6.cell? ⟨gb236, 4, none⟩ = some (.slice A0_4 l0_4.length c0_4) := (zJ BK236.out 4).trans rfl
        have hcz36_5 : w6.cell? ⟨gb236, 5, none⟩ = some (.slice A0_5 l0_5.length c0_5) := (zJ BK236.out 5).trans rfl
        have hfz36_0 := zK BK236.out 0
        have hfz36_1 := zK BK236.out 1
        have hfz36_2 := zK BK236.out 2
        have hfz36_3 := zK BK236.out 3
        have hfz36_4 := zK BK236.out 4
        have hfz36_5 := zK BK236.out 5
        go_wp2
        go_meet
        case rel => exact ⟨_, (true), apB, H', ⟨by first | omega | exact yK _⟩, ⟨apI⟩, ⟨apG⟩, ⟨apH⟩⟩
       ·rw [if_neg c33] at H
        have c33b0 : decide (0 < (l0_4.length : Int)) = false := decide_eq_false c33
        have c33b1 : decide (0 < l0_4.length) = false := decide_eq_false (by omega)
        clear c33
        by_cases c37 : a0_0 = 6
        ·rw [if_pos c37] at H
         have c37b0 : (a0_0 == 6) = true := beq_iff_eq.mpr c37
         have c37b1 : (a0_0 != 6) = false := bne_eq_false_iff_eq.mpr c37
         clear c37
         have H' := zA H
         clear H
         have hnb38 := NB237_236.out
         have hnc38 := NB236_237.out
         have hcz39_0 : w6.cell? ⟨gb237, 0, none⟩ = some (.int .i64 a1) := (zJ BK237.out 0).trans rfl
         have hfz39_0 := zK BK237.out 0
         have hcz40_0 : w6.cell? ⟨gb236, 0, none⟩ = some (.int .i64 a0_0) := (zJ BK236.out 0).trans rfl
         have hcz40_1 : w6.cell? ⟨gb236, 1, none⟩ = some (.int .i64 a0_1) := (zJ BK236.out 1).trans rfl
         have hcz40_2 : w6.cell? ⟨gb236, 2, none⟩ = some (.int .i64 a0_2) := (zJ BK236.out 2).trans rfl
         have hcz40_3 : w6.cell? ⟨gb236, 3, none⟩ = some (.string a0_3) := (zJ BK236.out 3).trans rfl
         have hcz40_4 : w6.cell? ⟨gb236, 4, none⟩ = some (.slice A0_4 l0_4.length c0_4) := (zJ BK236.out 4).trans rfl
         have hcz40_5 : w6.cell? ⟨gb236, 5, none⟩ = some (.slice A0_5 l0_5.length c0_5) := (zJ BK236.out 5).trans rfl
         have hfz40_0 := zK BK236.out 0
         have hfz40_1 := zK BK236.out 1
         have hfz40_2 := zK BK236.out 2
         have hfz40_3 := zK BK236.out 3
         have hfz40_4 := zK BK236.out 4
         have hfz40_5 := zK BK236.out 5
         go_wp2
         go_meet
         case rel => exact ⟨_, (false), apB, H', ⟨by first | omega | exact yK _⟩, ⟨apI⟩, ⟨apG⟩, ⟨apH⟩⟩
        ·rw [if_neg c37] at H
         have c37b0 : (a0_0 == 6) = false := beq_eq_false_iff_ne.mpr c37
         have c37b1 : (a0_0 != 6) = true := bne_iff_ne.mpr c37
         have H' := zA H
         clear H
         have hnb41 := NB237_236.out
         have hnc41 := NB236_237.out
         have hcz42_0 : w6.cell? ⟨gb237, 0, none⟩ = some (.int .i64 a1) := (zJ BK237.out 0).trans rfl
         have hfz42_0 := zK BK237.out 0
         have hcz43_0 : w6.cell? ⟨gb236, 0, none⟩ = some (.int .i64 a0_0) := (zJ BK236.out 0).trans rfl
         have hcz43_1 : w6.cell? ⟨gb236, 1, none⟩ = some (.int .i64 a0_1) := (zJ BK236.out 1).trans rfl
         have hcz43_2 : w6.cell? ⟨gb236, 2, none⟩ = some (.int .i64 a0_2) := (zJ BK236.out 2).trans rfl
         have hcz43_3 : w6.cell? ⟨gb236, 3, none⟩ = some (.string a0_3) := (zJ BK236.out 3).trans rfl
         have hcz43_4 : w6.cell? ⟨gb236, 4, none⟩ = some (.slice A0_4 l0_4.length c0_4) := (zJ BK236.out 4).trans rfl
         have hcz43_5 : w6.cell? ⟨gb236, 5, none⟩ = some (.slice A0_5 l0_5.length c0_5) := (zJ BK236.out 5).trans rfl
         have hfz43_0 := zK BK236.out 0
         have hfz43_1 := zK BK236.out 1
         have hfz43_2 := zK BK236.out 2
         have hfz43_3 := zK BK236.out 3
         have hfz43_4 := zK BK236.out 4
         have hfz43_5 := zK BK236.out 5
         go_wp2
         go_meet
         case rel => exact ⟨_, (decide ((l0_5.length : Int) > 0)), apB, H', ⟨by first | omega | exact yK _⟩, ⟨apI⟩, ⟨apG⟩, ⟨apH⟩⟩
      ·rw [if_neg c32] at H
       have c32b0 : decide (a0_0 < 5) = false := decide_eq_false c32
       clear c32
       by_cases c44 : a0_0 = 6
       ·rw [if_pos c44] at H
        have c44b0 : (a0_0 == 6) = true := beq_iff_eq.mpr c44
        have c44b1 : (a0_0 != 6) = false := bne_eq_false_iff_eq.mpr c44
        clear c44
        have H' := zA H
        clear H
        have hnb45 := NB237_236.out
        have hnc45 := NB236_237.out
        have hcz46_0 : w6.cell? ⟨gb237, 0, none⟩ = some (.int .i64 a1) := (zJ BK237.out 0).trans rfl
        have hfz46_0 := zK BK237.out 0
        have hcz47_0 : w6.cell? ⟨gb236, 0, none⟩ = some (.int .i64 a0_0) := (zJ BK236.out 0).trans rfl
        have hcz47_1 : w6.cell? ⟨gb236, 1, none⟩ = some (.int .i64 a0_1) := (zJ BK236.out 1).trans rfl
        have hcz47_2 : w6.cell? ⟨gb236, 2, none⟩ = some (.int .i64 a0_2) := (zJ BK236.out 2).trans rfl
        have hcz47_3 : w6.cell? ⟨gb236, 3, none⟩ = some (.string a0_3) := (zJ BK236.out 3).trans rfl
        have hcz47_4 : w6.cell? ⟨gb236, 4, none⟩ = some (.slice A0_4 l0_4.length c0_4) := (zJ BK236.out 4).trans rfl
        have hcz47_5 : w6.cell? ⟨gb236, 5, none⟩ = some (.slice A0_5 l0_5.length c0_5) := (zJ BK236.out 5).trans rfl
        have hfz47_0 := zK BK236.out 0
        have hfz47_1 := zK BK236.out 1
        have hfz47_2 := zK BK236.out 2
        have hfz47_3 := zK BK236.out 3
        have hfz47_4 := zK BK236.out 4
        have hfz47_5 := zK BK236.out 5
        go_wp2
        go_meet
        case rel => exact ⟨_, (false), apB, H', ⟨by first | omega | exact yK _⟩, ⟨apI⟩, ⟨apG⟩, ⟨apH⟩⟩
       ·rw [if_neg c44] at H
        have c44b0 : (a0_0 == 6) = false := beq_eq_false_iff_ne.mpr c44
        have c44b1 : (a0_0 != 6) = true := bne_iff_ne.mpr c44
        have H' := zA H
        clear H
        have hnb48 := NB237_236.out
        have hnc48 := NB236_237.out
        have hcz49_0 : w6.cell? ⟨gb237, 0, none⟩ = some (.int .i64 a1) := (zJ BK237.out 0).trans rfl
        have hfz49_0 := zK BK237.out 0
        have hcz50_0 : w6.cell? ⟨gb236, 0, none⟩ = some (.int .i64 a0_0) := (zJ BK236.out 0).trans rfl
        have hcz50_1 : w6.cell? ⟨gb236, 1, none⟩ = some (.int .i64 a0_1) := (zJ BK236.out 1).trans rfl
        have hcz50_2 : w6.cell? ⟨gb236, 2, none⟩ = some (.int .i64 a0_2) := (zJ BK236.out 2).trans rfl
        have hcz50_3 : w6.cell? ⟨gb236, 3, none⟩ = some (.string a0_3) := (zJ BK236.out 3).trans rfl
        have hcz50_4 : w6.cell? ⟨gb236, 4, none⟩ = some (.slice A0_4 l0_4.length c0_4) := (zJ BK236.out 4).trans rfl
        have hcz50_5 : w6.cell? ⟨gb236, 5, none⟩ = some (.slice A0_5 l0_5.length c0_5) := (zJ BK236.out 5).trans rfl
        have hfz50_0 := zK BK236.out 0
        have hfz50_1 := zK BK236.out 1
        have hfz50_2 := zK BK236.out 2
        have hfz50_3 := zK BK236.out 3
        have hfz50_4 := zK BK236.out 4
        have hfz50_5 := zK BK236.out 5
        go_wp2
        go_meet
        case rel => exact ⟨_, (decide ((l0_5.length : Int) > 0)), apB, H', ⟨by first | omega | exact yK _⟩, ⟨apI⟩, ⟨apG⟩, ⟨apH⟩⟩
     ·rw [if_neg c31] at H
      have c31b0 : (a0_3.toList == ([] : List UInt8)) = false := beq_eq_false_iff_ne.mpr c31
      have c31b1 : (a0_3.toList != ([] : List UInt8)) = true := bne_iff_ne.mpr c31
      have H' := zA H
      clear H
      have hnb51 := NB237_236.out
      have hnc51 := NB236_237.out
      have hcz52_0 : w6.cell? ⟨gb237, 0, none⟩ = some (.int .i64 a1) := (zJ BK237.out 0).trans rfl
      have hfz52_0 := zK BK237.out 0
      have hcz53_0 : w6.cell? ⟨gb236, 0, none⟩ = some (.int .i64 a0_0) := (zJ BK236.out 0).trans rfl
      have hcz53_1 : w6.cell? ⟨gb236, 1, none⟩ = some (.int .i64 a0_1) := (zJ BK236.out 1).trans rfl
      have hcz53_2 : w6.cell? ⟨gb236, 2, none⟩ = some (.int .i64 a0_2) := (zJ BK236.out 2).trans rfl
      have hcz53_3 : w6.cell? ⟨gb236, 3, none⟩ = some (.string a0_3) := (zJ BK236.out 3).trans rfl
      have hcz53_4 : w6.cell? ⟨gb236, 4, none⟩ = some (.slice A0_4 l0_4.length c0_4) := (zJ BK236.out 4).trans rfl
      have hcz53_5 : w6.cell? ⟨gb236, 5, none⟩ = some (.slice A0_5 l0_5.length c0_5) := (zJ BK236.out 5).trans rfl
      have hfz53_0 := zK BK236.out 0
      have hfz53_1 := zK BK236.out 1
      have hfz53_2 := zK BK236.out 2
      have hfz53_3 := zK BK236.out 3
      have hfz53_4 := zK BK236.out 4
      have hfz53_5 := zK BK236.out 5
      go_wp2
      go_meet
      case rel => exact ⟨_, (true), apB, H', ⟨by first | omega | exact yK _⟩, ⟨apI⟩, ⟨apG⟩, ⟨apH⟩⟩
   ·rw [if_neg c10] at H
    have c10b0 : (a0_0 == 3) = false := beq_eq_false_iff_ne.mpr c10
    have c10b1 : (a0_0 != 3) = true := bne_iff_ne.mpr c10
    by_cases c54 : (!(a0_1 == 0) || (!(a0_2 == 0))) = true
    ·rw [if_pos c54] at H
     have c54b0 : (!(a0_1 == 0) || (!(a0_2 == 0))) = true := c54
     clear c54
     have H' := zA H
     clear H
     have hnb55 := NB237_236.out
     have hnc55 := NB236_237.out
     have hcz56_0 : w6.cell? ⟨gb237, 0, none⟩ = some (.int .i64 a1) := (zJ BK237.out 0).trans rfl
     have hfz56_0 := zK BK237.out 0
     have hcz57_0 : w6.cell? ⟨gb236, 0, none⟩ = some (.int .i64 a0_0) := (zJ BK236.out 0).trans rfl
     have hcz57_1 : w6.cell? ⟨gb236, 1, none⟩ = some (.int .i64 a0_1) := (zJ BK236.out 1).trans rfl
     have hcz57_2 : w6.cell? ⟨gb236, 2, none⟩ = some (.int .i64 a0_2) := (zJ BK236.out 2).trans rfl
     have hcz57_3 : w6.cell? ⟨gb236, 3, none⟩ = some (.string a0_3) := (zJ BK236.out 3).trans rfl
     have hcz57_4 : w6.cell? ⟨gb236, 4, none⟩ = some (.slice A0_4 l0_4.length c0_4) := (zJ BK236.out 4).trans rfl
     have hcz57_5 : w6.cell? ⟨gb236, 5, none⟩ = some (.slice A0_5 l0_5.length c0_5) := (zJ BK236.out 5).trans rfl
     have hfz57_0 := zK BK236.out 0
     have hfz57_1 := zK BK236.out 1
     have hfz57_2 := zK BK236.out 2
     have hfz57_3 := zK BK236.out 3
     have hfz57_4 := zK BK236.out 4
     have hfz57_5 := zK BK236.out 5
     go_wp2
     go_meet
     case rel => exact ⟨_, (true), apB, H', ⟨by first | omega | exact yK _⟩, ⟨apI⟩, ⟨apG⟩, ⟨apH⟩⟩
    ·rw [if_neg c54] at H
     have c54b0 : (!(a0_1 == 0) || (!(a0_2 == 0))) = false := by simpa using c54
     clear c54
     by_cases c58 : a0_0 = 4
     ·rw [if_pos c58] at H
      have c58b0 : (a0_0 == 4) = true := beq_iff_eq.mpr c58
      have c58b1 : (a0_0 != 4) = false := bne_eq_false_iff_eq.mpr c58
      clear c58
      by_cases c59 : a0_0 < 5
      ·rw [if_pos c59] at H
       have c59b0 : decide (a0_0 < 5) = true := yF c59
       clear c59
       by_cases c60 : (l0_4.length : Int) > 0
       ·rw [if_pos c60] at H
        have c60b0 : decide (0 < (l0_4.length : Int)) = true := yF c60
        have c60b1 : decide (0 < l0_4.length) = true := yF (by omega)
        clear c60
        have H' := zA H
        clear H
        have hnb61 := NB237_236.out
        have hnc61 := NB236_237.out
        have hcz62_0 : w6.cell? ⟨gb237, 0, none⟩ = some (.int .i64 a1) := (zJ BK237.out 0).trans rfl
        have hfz62_0 := zK BK237.out 0
        have hcz63_0 : w6.cell? ⟨gb236, 0, none⟩ = some (.int .i64 a0_0) := (zJ BK236.out 0).trans rfl
        have hcz63_1 : w6.cell? ⟨gb236, 1, none⟩ = some (.int .i64 a0_1) := (zJ BK236.out 1).trans rfl
        have hcz63_2 : w6.cell? ⟨gb236, 2, none⟩ = some (.int .i64 a0_2) := (zJ BK236.out 2).trans rfl
        have hcz63_3 : w6.cell? ⟨gb236, 3, none⟩ = some (.string a0_3) := (zJ BK236.out 3).trans rfl
        have hcz63_4 : w6.cell? ⟨gb236, 4, none⟩ = some (.slice A0_4 l0_4.length c0_4) := (zJ BK236.out 4).trans rfl
        have hcz63_5 : w6.cell? ⟨gb236, 5, none⟩ = some (.slice A0_5 l0_5.length c0_5) := (zJ BK236.out 5).trans rfl
        have hfz63_0 := zK BK236.out 0
        have hfz63_1 := zK BK236.out 1
        have hfz63_2 := zK BK236.out 2
        have hfz63_3 := zK BK236.out 3
        have hfz63_4 := zK BK236.out 4
        have hfz63_5 := zK BK236.out 5
        go_wp2
        go_meet
        case rel => exact ⟨_, (true), apB, H', ⟨by first | omega | exact yK _⟩, ⟨apI⟩, ⟨apG⟩, ⟨apH⟩⟩
       ·rw [if_neg c60] at H
        have c60b0 : decide (0 < (l0_4.length : Int)) = false := decide_eq_false c60
        have c60b1 : decide (0 < l0_4.length) = false := decide_eq_false (by omega)
        clear c60
        by_cases c64 : a0_0 = 6
        ·rw [if_pos c64] at H
         have c64b0 : (a0_0 == 6) = true := beq_iff_eq.mpr c64
         have c64b1 : (a0_0 != 6) = false := bne_eq_false_iff_eq.mpr c64
         clear c64
         have H' := zA H
         clear H
         have hnb65 := NB237_236.out
         have hnc65 := NB236_237.out
         have hcz66_0 : w6.cell? ⟨gb237, 0, none⟩ = some (.int .i64 a1) := (zJ BK237.out 0).trans rfl
         have hfz66_0 := zK BK237.out 0
         have hcz67_0 : w6.cell? ⟨gb236, 0, none⟩ = some (.int .i64 a0_0) := (zJ BK236.out 0).trans rfl
         have hcz67_1 : w6.cell? ⟨gb236, 1, none⟩ = some (.int .i64 a0_1) := (zJ BK236.out 1).trans rfl
         have hcz67_2 : w6.cell? ⟨gb236, 2, none⟩ = some (.int .i64 a0_2) := (zJ BK236.out 2).trans rfl
         have hcz67_3 : w6.cell? ⟨gb236, 3, none⟩ = some (.string a0_3) := (zJ BK236.out 3).trans rfl
         have hcz67_4 : w6.cell? ⟨gb236, 4, none⟩ = some (.slice A0_4 l0_4.length c0_4) := (zJ BK236.out 4).trans rfl
         have hcz67_5 : w6.cell? ⟨gb236, 5, none⟩ = some (.slice A0_5 l0_5.length c0_5) := (zJ BK236.out 5).trans rfl
         have hfz67_0 := zK BK236.out 0
         have hfz67_1 := zK BK236.out 1
         have hfz67_2 := zK BK236.out 2
         have hfz67_3 := zK BK236.out 3
         have hfz67_4 := zK BK236.out 4
         have hfz67_5 := zK BK236.out 5
         go_wp2
         go_meet
         case rel => exact ⟨_, (false), apB, H', ⟨by first | omega | exact yK _⟩, ⟨apI⟩, ⟨apG⟩, ⟨apH⟩⟩
        ·rw [if_neg c64] at H
         have c64b0 : (a0_0 == 6) = false := beq_eq_false_iff_ne.mpr c64
         have c64b1 : (a0_0 != 6) = true := bne_iff_ne.mpr c64
         have H' := zA H
         clear H
         have hnb68 := NB237_236.out
         have hnc68 := NB236_237.out
         have hcz69_0 : w6.cell? ⟨gb237, 0, none⟩ = some (.int .i64 a1) := (zJ BK237.out 0).trans rfl
         have hfz69_0 := zK BK237.out 0
         have hcz70_0 : w6.cell? ⟨gb236, 0, none⟩ = some (.int .i64 a0_0) := (zJ BK236.out 0).trans rfl
         have hcz70_1 : w6.cell? ⟨gb236, 1, none⟩ = some (.int .i64 a0_1) := (zJ BK236.out 1).trans rfl
         have hcz70_2 : w6.cell? ⟨gb236, 2, none⟩ = some (.int .i64 a0_2) := (zJ BK236.out 2).trans rfl
         have hcz70_3 : w6.cell? ⟨gb236, 3, none⟩ = some (.string a0_3) := (zJ BK236.out 3).trans rfl
         have hcz70_4 : w6.cell? ⟨gb236, 4, none⟩ = some (.slice A0_4 l0_4.length c0_4) := (zJ BK236.out 4).trans rfl
         have hcz70_5 : w6.cell? ⟨gb236, 5, none⟩ = some (.slice A0_5 l0_5.length c0_5) := (zJ BK236.out 5).trans rfl
         have hfz70_0 := zK BK236.out 0
         have hfz70_1 := zK BK236.out 1
         have hfz70_2 := zK BK236.out 2
         have hfz70_3 := zK BK236.out 3
         have hfz70_4 := zK BK236.out 4
         have hfz70_5 := zK BK236.out 5
         go_wp2
         go_meet
         case rel => exact ⟨_, (decide ((l0_5.length : Int) > 0)), apB, H', ⟨by first | omega | exact yK _⟩, ⟨apI⟩, ⟨apG⟩, ⟨apH⟩⟩
      ·rw [if_neg c59] at H
       have c59b0 : decide (a0_0 < 5) = false := decide_eq_false c59
       clear c59
       by_cases c71 : a0_0 = 6
       ·rw [if_pos c71] at H
        have c71b0 : (a0_0 == 6) = true := beq_iff_eq.mpr c71
        have c71b1 : (a0_0 != 6) = false := bne_eq_false_iff_eq.mpr c71
        clear c71
        have H' := zA H
        clear H
        have hnb72 := NB237_236.out
        have hnc72 := NB236_237.out
        have hcz73_0 : w6.cell? ⟨gb237, 0, none⟩ = some (.int .i64 a1) := (zJ BK237.out 0).trans rfl
        have hfz73_0 := zK BK237.out 0
        have hcz74_0 : w6.cell? ⟨gb236, 0, none⟩ = some (.int .i64 a0_0) := (zJ BK236.out 0).trans rfl
        have hcz74_1 : w6.cell? ⟨gb236, 1, none⟩ = some (.int .i64 a0_1) := (zJ BK236.out 1).trans rfl
        have hcz74_2 : w6.cell? ⟨gb236, 2, none⟩ = some (.int .i64 a0_2) := (zJ BK236.out 2).trans rfl
        have hcz74_3 : w6.cell? ⟨gb236, 3, none⟩ = some (.string a0_3) := (zJ BK236.out 3).trans rfl
        have hcz74_4 : w6.cell? ⟨gb236, 4, none⟩ = some (.slice A0_4 l0_4.length c0_4) := (zJ BK236.out 4).trans rfl
        have hcz74_5 : w6.cell? ⟨gb236, 5, none⟩ = some (.slice A0_5 l0_5.length c0_5) := (zJ BK236.out 5).trans rfl
        have hfz74_0 := zK BK236.out 0
        have hfz74_1 := zK BK236.out 1
        have hfz74_2 := zK BK236.out 2
        have hfz74_3 := zK BK236.out 3
        have hfz74_4 := zK BK236.out 4
        have hfz74_5 := zK BK236.out 5
        go_wp2
        go_meet
        case rel => exact ⟨_, (false), apB, H', ⟨by first | omega | exact yK _⟩, ⟨apI⟩, ⟨apG⟩, ⟨apH⟩⟩
       ·rw [if_neg c71] at H
        have c71b0 : (a0_0 == 6) = false := beq_eq_false_iff_ne.mpr c71
        have c71b1 : (a0_0 != 6) = true := bne_iff_ne.mpr c71
        have H' := zA H
        clear H
        have hnb75 := NB237_236.out
        have hnc75 := NB236_237.out
        have hcz76_0 : w6.cell? ⟨gb237, 0, none⟩ = some (.int .i64 a1) := (zJ BK237.out 0).trans rfl
        have hfz76_0 := zK BK237.out 0
        have hcz77_0 : w6.cell? ⟨gb236, 0, none⟩ = some (.int .i64 a0_0) := (zJ BK236.out 0).trans rfl
        have hcz77_1 : w6.cell? ⟨gb236, 1, none⟩ = some (.int .i64 a0_1) := (zJ BK236.out 1).trans rfl
        have hcz77_2 : w6.cell? ⟨gb236, 2, none⟩ = some (.int .i64 a0_2) := (zJ BK236.out 2).trans rfl
        have hcz77_3 : w6.cell? ⟨gb236, 3, none⟩ = some (.string a0_3) := (zJ BK236.out 3).trans rfl
        have hcz77_4 : w6.cell? ⟨gb236, 4, none⟩ = some (.slice A0_4 l0_4.length c0_4) := (zJ BK236.out 4).trans rfl
        have hcz77_5 : w6.cell? ⟨gb236, 5, none⟩ = some (.slice A0_5 l0_5.length c0_5) := (zJ BK236.out 5).trans rfl
        have hfz77_0 := zK BK236.out 0
        have hfz77_1 := zK BK236.out 1
        have hfz77_2 := zK BK236.out 2
        have hfz77_3 := zK BK236.out 3
        have hfz77_4 := zK BK236.out 4
        have hfz77_5 := zK BK236.out 5
        go_wp2
        go_meet
        case rel => exact ⟨_, (decide ((l0_5.length : Int) > 0)), apB, H', ⟨by first | omega | exact yK _⟩, ⟨apI⟩, ⟨apG⟩, ⟨apH⟩⟩
     ·rw [if_neg c58] at H
      have c58b0 : (a0_0 == 4) = false := beq_eq_false_iff_ne.mpr c58
      have c58b1 : (a0_0 != 4) = true := bne_iff_ne.mpr c58
      by_cases c78 : a0_3.toList = ([] : List UInt8)
      ·rw [if_pos c78] at H
       have c78b0 : (a0_3.toList == ([] : List UInt8)) = true := beq_iff_eq.mpr c78
       have c78b1 : (a0_3.toList != ([] : List UInt8)) = false := bne_eq_false_iff_eq.mpr c78
       clear c78
       by_cases c79 : a0_0 < 5
       ·rw [if_pos c79] at H
        have c79b0 : decide (a0_0 < 5) = true := yF c79
        clear c79
        by_cases c80 : (l0_4.length : Int) > 0
        ·rw [if_pos c80] at H
         have c80b0 : decide (0 < (l0_4.length : Int)) = true := yF c80
         have c80b1 : decide (0 < l0_4.length) = true := yF (by omega)
         clear c80
         have H' := zA H
         clear H
         have hnb81 := NB237_236.out
         have hnc81 := NB236_237.out
         have hcz82_0 : w6.cell? ⟨gb237, 0, none⟩ = some (.int .i64 a1) := (zJ BK237.out 0).trans rfl
         have hfz82_0 := zK BK237.out 0
         have hcz83_0 : w6.cell? ⟨gb236, 0, none⟩ = some (.int .i64 a0_0) := (zJ BK236.out 0).trans rfl
         have hcz83_1 : w6.cell? ⟨gb236, 1, none⟩ = some (.int .i64 a0_1) := (zJ BK236.out 1).trans rfl
         have hcz83_2 : w6.cell? ⟨gb236, 2, none⟩ = some (.int .i64 a0_2) := (zJ BK236.out 2).trans rfl
         have hcz83_3 : w6.cell? ⟨gb236, 3, none⟩ = some (.string a0_3) := (zJ BK236.out 3).trans rfl
         have hcz83_4 : w6.cell? ⟨gb236, 4, none⟩ = some (.slice A0_4 l0_4.length c0_4) := (zJ BK236.out 4).trans rfl
         have hcz83_5 : w6.cell? ⟨gb236, 5, none⟩ = some (.slice A0_5 l0_5.length c0_5) := (zJ BK236.out 5).trans rfl
         have hfz83_0 := zK BK236.out 0
         have hfz83_1 := zK BK236.out 1
         have hfz83_2 := zK BK236.out 2
         have hfz83_3 := zK BK236.out 3
         have hfz83_4 := zK BK236.out 4
         have hfz83_5 := zK BK236.out 5
         go_wp2
         go_meet
         case rel => exact ⟨_, (true), apB, H', ⟨by first | omega | exact yK _⟩, ⟨apI⟩, ⟨apG⟩, ⟨apH⟩⟩
        ·rw [if_neg c80] at H
         have c80b0 : decide (0 < (l0_4.length : Int)) = false := decide_eq_false c80
         have c80b1 : decide (0 < l0_4.length) = false := decide_eq_false (by omega)
         clear c80
         by_cases c84 : a0_0 = 6
         ·rw [if_pos c84] at H
          have c84b0 : (a0_0 == 6) = true := beq_iff_eq.mpr c84
          have c84b1 : (a0_0 != 6) = false := bne_eq_false_iff_eq.mpr c84
          clear c84
          have H' := zA H
          clear H
          have hnb85 := NB237_236.out
          have hnc85 := NB236_237.out
          have hcz86_0 : w6.cell? ⟨gb237, 0, none⟩ = some (.int .i64 a1) := (zJ BK237.out 0).trans rfl
          have hfz86_0 := zK BK237.out 0
          have hcz87_0 : w6.cell? ⟨gb236, 0, none⟩ = some (.int .i64 a0_0) := (zJ BK236.out 0).trans rfl
          have hcz87_1 : w6.cell? ⟨gb236, 1, none⟩ = some (.int .i64 a0_1) := (zJ BK236.out 1).trans rfl
          have hcz87_2 : w6.cell? ⟨gb236, 2, none⟩ = some (.int .i64 a0_2) := (zJ BK236.out 2).trans rfl
          have hcz87_3 : w6.cell? ⟨gb236, 3, none⟩ = some (.string a0_3) := (zJ BK236.out 3).trans rfl
          have hcz87_4 : w6.cell? ⟨gb236, 4, none⟩ = some (.slice A0_4 l0_4.length c0_4) := (zJ BK236.out 4).trans rfl
          have hcz87_5 : w6.cell? ⟨gb236, 5, none⟩ = some (.slice A0_5 l0_5.length c0_5) := (zJ BK236.out 5).trans rfl
          have hfz87_0 := zK BK236.out 0
          have hfz87_1 := zK BK236.out 1
          have hfz87_2 := zK BK236.out 2
          have hfz87_3 := zK BK236.out 3
          have hfz87_4 := zK BK236.out 4
          have hfz87_5 := zK BK236.out 5
          go_wp2
          go_meet
          case rel => exact ⟨_, (false), apB, H', ⟨by first | omega | exact yK _⟩, ⟨apI⟩, ⟨apG⟩, ⟨apH⟩⟩
         ·rw [if_neg c84] at H
          have c84b0 : (a0_0 == 6) = false := beq_eq_false_iff_ne.mpr c84
          have c84b1 : (a0_0 != 6) = true := bne_iff_ne.mpr c84
          have H' := zA H
          clear H
          have hnb88 := NB237_236.out
          have hnc88 := NB236_237.out
          have hcz89_0 : w6.cell? ⟨gb237, 0, none⟩ = some (.int .i64 a1) := (zJ BK237.out 0).trans rfl
          have hfz89_0 := zK BK237.out 0
          have hcz90_0 : w6.cell? ⟨gb236, 0, none⟩ = some (.int .i64 a0_0) := (zJ BK236.out 0).trans rfl
          have hcz90_1 : w6.cell? ⟨gb236, 1, none⟩ = some (.int .i64 a0_1) := (zJ BK236.out 1).trans rfl
          have hcz90_2 : w6.cell? ⟨gb236, 2, none⟩ = some (.int .i64 a0_2) := (zJ BK236.out 2).trans rfl
          have hcz90_3 : w6.cell? ⟨gb236, 3, none⟩ = some (.string a0_3) := (zJ BK236.out 3).trans rfl
          have hcz90_4 : w6.cell? ⟨gb236, 4, none⟩ = some (.slice A0_4 l0_4.length c0_4) := (zJ BK236.out 4).trans rfl
          have hcz90_5 : w6.cell? ⟨gb236, 5, none⟩ = some (.slice A0_5 l0_5.length c0_5) := (zJ BK236.out 5).trans rfl
          have hfz90_0 := zK BK236.out 0
          have hfz90_1 := zK BK236.out 1
          have hfz90_2 := zK BK236.out 2
          have hfz90_3 := zK BK236.out 3
          have hfz90_4 := zK BK236.out 4
          have hfz90_5 := zK BK236.out 5
          go_wp2
          go_meet
          case rel => exact ⟨_, (decide ((l0_5.length : Int) > 0)), apB, H', ⟨by first | omega | exact yK _⟩, ⟨apI⟩, ⟨apG⟩, ⟨apH⟩⟩
       ·rw [if_neg c79] at H
        have c79b0 : decide (a0_0 < 5) = false := decide_eq_false c79
        clear c79
        by_cases c91 : a0_0 = 6
        ·rw [if_pos c91] at H
         have c91b0 : (a0_0 == 6) = true := beq_iff_eq.mpr c91
         have c91b1 : (a0_0 != 6) = false := bne_eq_false_iff_eq.mpr c91
         clear c91
         have H' := zA H
         clear H
         have hnb92 := NB237_236.out
         have hnc92 := NB236_237.out
         have hcz93_0 : w6.cell? ⟨gb237, 0, none⟩ = some (.int .i64 a1) := (zJ BK237.out 0).trans rfl
         have hfz93_0 := zK BK237.out 0
         have hcz94_0 : w6.cell? ⟨gb236, 0, none⟩ = some (.int .i64 a0_0) := (zJ BK236.out 0).trans rfl
         have hcz94_1 : w6.cell? ⟨gb236, 1, none⟩ = some (.int .i64 a0_1) := (zJ BK236.out 1).trans rfl
         have hcz94_2 : w6.cell? ⟨gb236, 2, none⟩ = some (.int .i64 a0_2) := (zJ BK236.out 2).trans rfl
         have hcz94_3 : w6.cell? ⟨gb236, 3, none⟩ = some (.string a0_3) := (zJ BK236.out 3).trans rfl
         have hcz94_4 : w6.cell? ⟨gb236, 4, none⟩ = some (.slice A0_4 l0_4.length c0_4) := (zJ BK236.out 4).trans rfl
         have hcz94_5 : w6.cell? ⟨gb236, 5, none⟩ = some (.slice A0_5 l0_5.length c0_5) := (zJ BK236.out 5).trans rfl
         have hfz94_0 := zK BK236.out 0
         have hfz94_1 := zK BK236.out 1
         have hfz94_2 := zK BK236.out 2
         have hfz94_3 := zK BK236.out 3
         have hfz94_4 := zK BK236.out 4
         have hfz94_5 := zK BK236.out 5
         go_wp2
         go_meet
         case rel => exact ⟨_, (false), apB, H', ⟨by first | omega | exact yK _⟩, ⟨apI⟩, ⟨apG⟩, ⟨apH⟩⟩
        ·rw [if_neg c91] at H
         have c91b0 : (a0_0 == 6) = false := beq_eq_false_iff_ne.mpr c91
         have c91b1 : (a0_0 != 6) = true := bne_iff_ne.mpr c91
         have H' := zA H
         clear H
         have hnb95 := NB237_236.out
         have hnc95 := NB236_237.out
         have hcz96_0 : w6.cell? ⟨gb237, 0, none⟩ = some (.int .i64 a1) := (zJ BK237.out 0).trans rfl
         have hfz96_0 := zK BK237.out 0
         have hcz97_0 : w6.cell? ⟨gb236, 0, none⟩ = some (.int .i64 a0_0) := (zJ BK236.out 0).trans rfl
         have hcz97_1 : w6.cell? ⟨gb236, 1, none⟩ = some (.int .i64 a0_1) := (zJ BK236.out 1).trans rfl
         have hcz97_2 : w6.cell? ⟨gb236, 2, none⟩ = some (.int .i64 a0_2) := (zJ BK236.out 2).trans rfl
         have hcz97_3 : w6.cell? ⟨gb236, 3, none⟩ = some (.string a0_3) := (zJ BK236.out 3).trans rfl
         have hcz97_4 : w6.cell? ⟨gb236, 4, none⟩ = some (.slice A0_4 l0_4.length c0_4) := (zJ BK236.out 4).trans rfl
         have hcz97_5 : w6.cell? ⟨gb236, 5, none⟩ = some (.slice A0_5 l0_5.length c0_5) := (zJ BK236.out 5).trans rfl
         have hfz97_0 := zK BK236.out 0
         have hfz97_1 := zK BK236.out 1
         have hfz97_2 := zK BK236.out 2
         have hfz97_3 := zK BK236.out 3
         have hfz97_4 := zK BK236.out 4
         have hfz97_5 := zK BK236.out 5
         go_wp2
         go_meet
         case rel => exact ⟨_, (decide ((l0_5.length : Int) > 0)), apB, H', ⟨by first | omega | exact yK _⟩, ⟨apI⟩, ⟨apG⟩, ⟨apH⟩⟩
      ·rw [if_neg c78] at H
       have c78b0 : (a0_3.toList == ([] : List UInt8)) = false := beq_eq_false_iff_ne.mpr c78
       have c78b1 : (a0_3.toList != ([] : List UInt8)) = true := bne_iff_ne.mpr c78
       have H' := zA H
       clear H
       have hnb98 := NB237_236.out
       have hnc98 := NB236_237.out
       have hcz99_0 : w6.cell? ⟨gb237, 0, none⟩ = some (.int .i64 a1) := (zJ BK237.out 0).trans rfl
       have hfz99_0 := zK BK237.out 0
       have hcz100_0 : w6.cell? ⟨gb236, 0, none⟩ = some (.int .i64 a0_0) := (zJ BK236.out 0).trans rfl
       have hcz100_1 : w6.cell? ⟨gb236, 1, none⟩ = some (.int .i64 a0_1) := (zJ BK236.out 1).trans rfl
       have hcz100_2 : w6.cell? ⟨gb236, 2, none⟩ = some (.int .i64 a0_2) := (zJ BK236.out 2).trans rfl
       have hcz100_3 : w6.cell? ⟨gb236, 3, none⟩ = some (.string a0_3) := (zJ BK236.out 3).trans rfl
       have hcz100_4 : w6.cell? ⟨gb236, 4, none⟩ = some (.slice A0_4 l0_4.length c0_4) := (zJ BK236.out 4).trans rfl
       have hcz100_5 : w6.cell? ⟨gb236, 5, none⟩ = some (.slice A0_5 l0_5.length c0_5) := (zJ BK236.out 5).trans rfl
       have hfz100_0 := zK BK236.out 0
       have hfz100_1 := zK BK236.out 1
       have hfz100_2 := zK BK236.out 2
       have hfz100_3 := zK BK236.out 3
       have hfz100_4 := zK BK236.out 4
       have hfz100_5 := zK BK236.out 5
       go_wp2
       go_meet
       case rel => exact ⟨_, (true), apB, H', ⟨by first | omega | exact yK _⟩, ⟨apI⟩, ⟨apG⟩, ⟨apH⟩⟩
 case rest =>
  clear HC4
  try clear c1
  try clear c2
  try clear p2
  try clear c3
  try clear c4
  try clear c5
  try clear c6
  try clear c7
  try clear c8
  try clear c9
  try clear c10
  try clear c10b0
  try clear c10b1
  try clear c11
  try clear c11b0
  try clear c11b1
  try clear c12
  try clear c12b0
  try clear c17
  try clear c17b0
  try clear c17b1
  try clear c21
  try clear c24
  try clear c24b0
  try clear c24b1
  try clear c25
  try clear c28
  try clear c31
  try clear c31b0
  try clear c31b1
  try clear c32
  try clear c32b0
  try clear c33
  try clear c33b0
  try clear c33b1
  try clear c34
  try clear c37
  try clear c37b0
  try clear c37b1
  try clear c38
  try clear c41
  try clear c44
  try clear c44b0
  try clear c44b1
  try clear c45
  try clear c48
  try clear c51
  try clear c54
  try clear c54b0
  try clear c55
  try clear c58
  try clear c58b0
  try clear c58b1
  try clear c59
  try clear c59b0
  try clear c60
  try clear c60b0
  try clear c60b1
  try clear c61
  try clear c64
  try clear c64b0
  try clear c64b1
  try clear c65
  try clear c68
  try clear c71
  try clear c71b0
  try clear c71b1
  try clear c72
  try clear c75
  try clear c78
  try clear c78b0
  try clear c78b1
  try clear c79
  try clear c79b0
  try clear c80
  try clear c80b0
  try clear c80b1
  try clear c81
  try clear c84
  try clear c84b0
  try clear c84b1
  try clear c85
  try clear c88
  try clear c91
  try clear c91b0
  try clear c91b1
  try clear c92
  try clear c95
  try clear c98
  try clear hcz100_0
  try clear hcz100_1
  try clear hcz100_2
  try clear hcz100_3
  try clear hcz100_4
  try clear hcz100_5
  try clear hcz20_5
  try clear hcz22_0
  try clear hcz23_0
  try clear hcz23_1
  try clear hcz23_2
  try clear hcz23_3
  try clear hcz23_4
  try clear hcz23_5
  try clear hcz26_0
  try clear hcz27_0
  try clear hcz27_1
  try clear hcz27_2
  try clear hcz27_3
  try clear hcz27_4
  try clear hcz27_5
  try clear hcz29_0
  try clear hcz30_0
  try clear hcz30_1
  try clear hcz30_2
  try clear hcz30_3
  try clear hcz30_4
  try clear hcz30_5
  try clear hcz35_0
  try clear hcz36_0
  try clear hcz36_1
  try clear hcz36_2
  try clear hcz36_3
  try clear hcz36_4
  try clear hcz36_5
  try clear hcz39_0
  try clear hcz40_0
  try clear hcz40_1
  try clear hcz40_2
  try clear hcz40_3
  try clear hcz40_4
  try clear hcz40_5
  try clear hcz42_0
  try clear hcz43_0
  try clear hcz43_1
  try clear hcz43_2
  try clear hcz43_3
  try clear hcz43_4
  try clear hcz43_5
  try clear hcz46_0
  try clear hcz47_0
  try clear hcz47_1
  try clear hcz47_2
  try clear hcz47_3
  try clear hcz47_4
  try clear hcz47_5
  try clear hcz49_0
  try clear hcz50_0
  try clear hcz50_1
  try clear hcz50_2
  try clear hcz50_3
  try clear hcz50_4
  try clear hcz50_5
  try clear hcz52_0
  try clear hcz53_0
  try clear hcz53_1
  try clear hcz53_2
  try clear hcz53_3
  try clear hcz53_4
  try clear hcz53_5
  try clear hcz56_0
  try clear hcz57_0
  try clear hcz57_1
  try clear hcz57_2
  try clear hcz57_3
  try clear hcz57_4
  try clear hcz57_5
  try clear hcz62_0
  try clear hcz63_0
  try clear hcz63_1
  try clear hcz63_2
  try clear hcz63_3
  try clear hcz63_4
  try clear hcz63_5
  try clear hcz66_0
  try clear hcz67_0
  try clear hcz67_1
  try clear hcz67_2
  try clear hcz67_3
  try clear hcz67_4
  try clear hcz67_5
  try clear hcz69_0
  try clear hcz70_0
  try clear hcz70_1
  try clear hcz70_2
  try clear hcz70_3
  try clear hcz70_4
  try clear hcz70_5
  try clear hcz73_0
  try clear hcz74_0
  try clear hcz74_1
  try clear hcz74_2
  try clear hcz74_3
  try clear hcz74_4
  try clear hcz74_5
  try clear hcz76_0
  try clear hcz77_0
  try clear hcz77_1
  try clear hcz77_2
  try clear hcz77_3
  try clear hcz77_4
  try clear hcz77_5
  try clear hcz82_0
  try clear hcz83_0
  try clear hcz83_1
  try clear hcz83_2
  try clear hcz83_3
  try clear hcz83_4
  try clear hcz83_5
  try clear hcz86_0
  try clear hcz87_0
  try clear hcz87_1
  try clear hcz87_2
  try clear hcz87_3
  try clear hcz87_4
  try clear hcz87_5
  try clear hcz89_0
  try clear hcz90_0
  try clear hcz90_1
  try clear hcz90_2
  try clear hcz90_3
  try clear hcz90_4
  try clear hcz90_5
  try clear hcz93_0
  try clear hcz94_0
  try clear hcz94_1
  try clear hcz94_2
  try clear hcz94_3
  try clear hcz94_4
  try clear hcz94_5
  try clear hcz96_0
  try clear hcz97_0
  try clear hcz97_1
  try clear hcz97_2
  try clear hcz97_3
  try clear hcz97_4
  try clear hcz97_5
  try clear hcz99_0
  try clear hfz100_0
  try clear hfz100_1
  try clear hfz100_2
  try clear hfz100_3
  try clear hfz100_4
  try clear hfz100_5
  try clear hfz20_0
  try clear hfz20_1
  try clear hfz20_2
  try clear hfz20_3
  try clear hfz20_4
  try clear hfz20_5
  try clear hfz22_0
  try clear hfz23_0
  try clear hfz23_1
  try clear hfz23_2
  try clear hfz23_3
  try clear hfz23_4
  try clear hfz23_5
  try clear hfz26_0
  try clear hfz27_0
  try clear hfz27_1
  try clear hfz27_2
  try clear hfz27_3
  try clear hfz27_4
  try clear hfz27_5
  try clear hfz29_0
  try clear hfz30_0
  try clear hfz30_1
  try clear hfz30_2
  try clear hfz30_3
  try clear hfz30_4
  try clear hfz30_5
  try clear hfz35_0
  try clear hfz36_0
  try clear hfz36_1
  try clear hfz36_2
  try clear hfz36_3
  try clear hfz36_4
  try clear hfz36_5
  try clear hfz39_0
  try clear hfz40_0
  try clear hfz40_1
  try clear hfz40_2
  try clear hfz40_3
  try clear hfz40_4
  try clear hfz40_5
  try clear hfz42_0
  try clear hfz43_0
  try clear hfz43_1
  try clear hfz43_2
  try clear hfz43_3
  try clear hfz43_4
  try clear hfz43_5
  try clear hfz46_0
  try clear hfz47_0
  try clear hfz47_1
  try clear hfz47_2
  try clear hfz47_3
  try clear hfz47_4
  try clear hfz47_5
  try clear hfz49_0
  try clear hfz50_0
  try clear hfz50_1
  try clear hfz50_2
  try clear hfz50_3
  try clear hfz50_4
  try clear hfz50_5
  try clear hfz52_0
  try clear hfz53_0
  try clear hfz53_1
  try clear hfz53_2
  try clear hfz53_3
  try clear hfz53_4
  try clear hfz53_5
  try clear hfz56_0
  try clear hfz57_0
  try clear hfz57_1
  try clear hfz57_2
  try clear hfz57_3
  try clear hfz57_4
  try clear hfz57_5
  try clear hfz62_0
  try clear hfz63_0
  try clear hfz63_1
  try clear hfz63_2
  try clear hfz63_3
  try clear hfz63_4
  try clear hfz63_5
  try clear hfz66_0
  try clear hfz67_0
  try clear hfz67_1
  try clear hfz67_2
  try clear hfz67_3
  try clear hfz67_4
  try clear hfz67_5
  try clear hfz69_0
  try clear hfz70_0
  try clear hfz70_1
  try clear hfz70_2
  try clear hfz70_3
  try clear hfz70_4
  try clear hfz70_5
  try clear hfz73_0
  try clear hfz74_0
  try clear hfz74_1
  try clear hfz74_2
  try clear hfz74_3
  try clear hfz74_4
  try clear hfz74_5
  try clear hfz76_0
  try clear hfz77_0
  try clear hfz77_1
  try clear hfz77_2
  try clear hfz77_3
  try clear hfz77_4
  try clear hfz77_5
  try clear hfz82_0
  try clear hfz83_0
  try clear hfz83_1
  try clear hfz83_2
  try clear hfz83_3
  try clear hfz83_4
  try clear hfz83_5
  try clear hfz86_0
  try clear hfz87_0
  try clear hfz87_1
  try clear hfz87_2
  try clear hfz87_3
  try clear hfz87_4
  try clear hfz87_5
  try clear hfz89_0
  try clear hfz90_0
  try clear hfz90_1
  try clear hfz90_2
  try clear hfz90_3
  try clear hfz90_4
  try clear hfz90_5
  try clear hfz93_0
  try clear hfz94_0
  try clear hfz94_1
  try clear hfz94_2
  try clear hfz94_3
  try clear hfz94_4
  try clear hfz94_5
  try clear hfz96_0
  try clear hfz97_0
  try clear hfz97_1
  try clear hfz97_2
  try clear hfz97_3
  try clear hfz97_4
  try clear hfz97_5
  try clear hfz99_0
  obtain ⟨kq, x51_3, rfl, HA, HJ3, BK236, BK237, HB⟩ := hcut
  cases kq with
  | zero => exact absurd HA.out (by simp [impl_valueOk.j0])
  | succ kj3 =>
   have H := HA.out
   clear HA
   simp only [impl_valueOk.j0] at H
   by_cases c101 : x51_3 = true
   ·subst c101
    have H1 : (some false) = some r := by rw [if_pos rfl] at H; exact H
    clear H
    have H := H1
    clear H1
    obtain rfl := yH H
    go_wp2
    go_ret
    exact ⟨apD, apH⟩
   ·replace c101 := Bool.eq_false_iff.mpr c101
    subst c101
    have H1 : (if a0_0 = 0 then (impl_valueOk.j1 kj3 a0_0 (a0_0 == 0) l2 a0_0 a0_1 a0_2 a0_3 l0_4 l0_5 a1) else (if a0_0 = 1 then (impl_valueOk.j1 kj3 a0_0 (a0_0 == 1) l2 a0_0 a0_1 a0_2 a0_3 l0_4 l0_5 a1) else (if a0_0 = 2 then (impl_valueOk.j1 kj3 a0_0 (a0_0 == 2) l2 a0_0 a0_1 a0_2 a0_3 l0_4 l0_5 a1) else (impl_valueOk.j1 kj3 a0_0 (a0_0 == 5) l2 a0_0 a0_1 a0_2 a0_3 l0_4 l0_5 a1)))) = some r := by rw [if_neg (show ¬ (false = true) by decide)] at H; exact H
    clear H
    have H := H1
    clear H1
    have HC102 := zA H
    clear H
    have hnb103 := NB236_237.out
    have hnc103 := NB237_236.out
    have hcz104_0 : wc.cell? ⟨gb236, 0, none⟩ = some (.int .i64 a0_0) := (zJ BK236.out 0).trans rfl
    have hcz104_1 : wc.cell? ⟨gb236, 1, none⟩ = some (.int .i64 a0_1) := (zJ BK236.out 1).trans rfl
    have hcz104_2 : wc.cell? ⟨gb236, 2, none⟩ = some (.int .i64 a0_2) := (zJ BK236.out 2).trans rfl
    have hcz104_3 : wc.cell? ⟨gb236, 3, none⟩ = some (.string a0_3) := (zJ BK236.out 3).trans rfl
    have hcz104_4 : wc.cell? ⟨gb236, 4, none⟩ = some (.slice A0_4 l0_4.length c0_4) := (zJ BK236.out 4).trans rfl
    have hcz104_5 : wc.cell? ⟨gb236, 5, none⟩ = some (.slice A0_5 l0_5.length c0_5) := (zJ BK236.out 5).trans rfl
    have hfz104_0 := zK BK236.out 0
    have hfz104_1 := zK BK236.out 1
    have hfz104_2 := zK BK236.out 2
    have hfz104_3 := zK BK236.out 3
    have hfz104_4 := zK BK236.out 4
    have hfz104_5 := zK BK236.out 5
    go_upto_if 54 with (fail)
    go_cut [54] (fun v54 wc => ∃ (kq : Nat) (x54_101 : Bool), v54 = .bool x54_101 ∧ Aside0 (impl_valueOk.j1 kq a0_0 x54_101 l2 a0_0 a0_1 a0_2 a0_3 l0_4 l0_5 a1 = some r) ∧ Aside0 (kq ≤ kj3) ∧ Aside0 (wc.heap[gb236]? = some (.cells #[.int .i64 a0_0, .int .i64 a0_1, .int .i64 a0_2, .string a0_3, (.slice A0_4 l0_4.length c0_4), (.slice A0_5 l0_5.length c0_5)] 33 (0, 0))) ∧ Aside0 (wc.heap[gb237]? = some (.cells #[.int .i64 a1] 3 (0, 0))) ∧ Aside0 (Below w.heap.size w wc))
    case first =>
     have H := HC102.out
     clear HC102
     by_cases c105 : a0_0 = 0
     ·rw [if_pos c105] at H
      have c105b0 : (a0_0 == 0) = true := beq_iff_eq.mpr c105
      have c105b1 : (a0_0 != 0) = false := bne_eq_false_iff_eq.mpr c105
      clear c105
      (first | rw [c105b0] | (simp only [i64_w, i32_w]; rw [c105b0]) | skip)
      have H' := zA H
      clear H
      go_wp2
      go_meet
      case rel => exact ⟨_, ((a0_0 == 0)), apB, H', ⟨by have := HJ3.out; first | omega | exact yK _⟩, ⟨apI⟩, ⟨apG⟩, ⟨apH⟩⟩
     ·rw [if_neg c105] at H
      have c105b0 : (a0_0 == 0) = false := beq_eq_false_iff_ne.mpr c105
      have c105b1 : (a0_0 != 0) = true := bne_iff_ne.mpr c105
      (first | rw [c105b0] | (simp only [i64_w, i32_w]; rw [c105b0]) | skip)
      by_cases c106 : a0_0 = 1
      ·rw [if_pos c106] at H
       have c106b0 : (a0_0 == 1) = true := beq_iff_eq.mpr c106
       have c106b1 : (a0_0 != 1) = false := bne_eq_false_iff_eq.mpr c106
       clear c106
       have H' := zA H
       clear H
       go_wp2
       go_meet
       case rel => exact ⟨_, ((a0_0 == 1)), apB, H', ⟨by have := HJ3.out; first | omega | exact yK _⟩, ⟨apI⟩, ⟨apG⟩, ⟨apH⟩⟩
      ·rw [if_neg c106] at H
       have c106b0 : (a0_0 == 1) = false := beq_eq_false_iff_ne.mpr c106
       have c106b1 : (a0_0 != 1) = true := bne_iff_ne.mpr c106
       by_cases c107 : a0_0 = 2
       ·rw [if_pos c107] at H
        have c107b0 : (a0_0 == 2) = true := beq_iff_eq.mpr c107
        have c107b1 : (a0_0 != 2) = false := bne_eq_false_iff_eq.mpr c107
        clear c107
        have H' := zA H
        clear H
        go_wp2
        go_meet
        case rel => exact ⟨_, ((a0_0 == 2)), apB, H', ⟨by have := HJ3.out; first | omega | exact yK _⟩, ⟨apI⟩, ⟨apG⟩, ⟨apH⟩⟩
       ·rw [if_neg c107] at H
        have c107b0 : (a0_0 == 2) = false := beq_eq_false_iff_ne.mpr c107
        have c107b1 : (a0_0 != 2) = true := bne_iff_ne.mpr c107
        have H' := zA H
        clear H
        go_wp2
        go_meet
        case rel => exact ⟨_, ((a0_0 == 5)), apB, H', ⟨by have := HJ3.out; first | omega | exact yK _⟩, ⟨apI⟩, ⟨apG⟩, ⟨apH⟩⟩
    case rest =>
     clear HC102
     try clear c1
     try clear c2
     try clear p2
     try clear c3
     try clear c4
     try clear c5
     try clear c6
     try clear c7
     try clear c8
     try clear c9
     try clear c10
     try clear c10b0
     try clear c10b1
     try clear c11
     try clear c11b0
     try clear c11b1
     try clear c12
     try clear c12b0
     try clear c17
     try clear c17b0
     try clear c17b1
     try clear c21
     try clear c24
     try clear c24b0
     try clear c24b1
     try clear c25
     try clear c28
     try clear c31
     try clear c31b0
     try clear c31b1
     try clear c32
     try clear c32b0
     try clear c33
     try clear c33b0
     try clear c33b1
     try clear c34
     try clear c37
     try clear c37b0
     try clear c37b1
     try clear c38
     try clear c41
     try clear c44
     try clear c44b0
     try clear c44b1
     try clear c45
     try clear c48
     try clear c51
     try clear c54
     try clear c54b0
     try clear c55
     try clear c58
     try clear c58b0
     try clear c58b1
     try clear c59
     try clear c59b0
     try clear c60
     try clear c60b0
     try clear c60b1
     try clear c61
     try clear c64
     try clear c64b0
     try clear c64b1
     try clear c65
     try clear c68
     try clear c71
     try clear c71b0
     try clear c71b1
     try clear c72
     try clear c75
     try clear c78
     try clear c78b0
     try clear c78b1
     try clear c79
     try clear c79b0
     try clear c80
     try clear c80b0
     try clear c80b1
     try clear c81
     try clear c84
     try clear c84b0
     try clear c84b1
     try clear c85
     try clear c88
     try clear c91
     try clear c91b0
     try clear c91b1
     try clear c92
     try clear c95
     try clear c98
     try clear c101
     try clear c103
     try clear c105
     try clear c105b0
     try clear c105b1
     try clear c106
     try clear c106b0
     try clear c106b1
     try clear c107
     try clear c107b0
     try clear c107b1
     try clear hcz100_0
     try clear hcz100_1
     try clear hcz100_2
     try clear hcz100_3
     try clear hcz100_4
     try clear hcz100_5
     try clear hcz104_0
     try clear hcz104_1
     try clear hcz104_2
     try clear hcz104_3
     try clear hcz104_4
     try clear hcz104_5
     try clear hcz20_5
     try clear hcz22_0
     try clear hcz23_0
     try clear hcz23_1
     try clear hcz23_2
     try clear hcz23_3
     try clear hcz23_4
     try clear hcz23_5
     try clear hcz26_0
     try clear hcz27_0
     try clear hcz27_1
     try clear hcz27_2
     try clear hcz27_3
     try clear hcz27_4
     try clear hcz27_5
     try clear hcz29_0
     try clear hcz30_0
     try clear hcz30_1
     try clear hcz30_2
     try clear hcz30_3
     try clear hcz30_4
     try clear hcz30_5
     try clear hcz35_0
     try clear hcz36_0
     try clear hcz36_1
     try clear hcz36_2
     try clear hcz36_3
     try clear hcz36_4
     try clear hcz36_5
     try clear hcz39_0
     try clear hcz40_0
     try clear hcz40_1
     try clear hcz40_2
     try clear hcz40_3
     try clear hcz40_4
     try clear hcz40_5
     try clear hcz42_0
     try clear hcz43_0
     try clear hcz43_1
     try clear hcz43_2
     try clear hcz43_3
     try clear hcz43_4
     try clear hcz43_5
     try clear hcz46_0
     try clear hcz47_0
     try clear hcz47_1
     try clear hcz47_2
     try clear hcz47_3
     try clear hcz47_4
     try clear hcz47_5
     try clear hcz49_0
     try clear hcz50_0
     try clear hcz50_1
     try clear hcz50_2
     try clear hcz50_3
     try clear hcz50_4
     try clear hcz50_5
     try clear hcz52_0
     try clear hcz53_0
     try clear hcz53_1
     try clear hcz53_2
     try clear hcz53_3
     try clear hcz53_4
     try clear hcz53_5
     try clear hcz56_0
     try clear hcz57_0
     try clear hcz57_1
     try clear hcz57_2
     try clear hcz57_3
     try clear hcz57_4
     try clear hcz57_5
     try clear hcz62_0
     try clear hcz63_0
     try clear hcz63_1
     try clear hcz63_2
     try clear hcz63_3
     try clear hcz63_4
     try clear hcz63_5
     try clear hcz66_0
     try clear hcz67_0
     try clear hcz67_1
     try clear hcz67_2
     try clear hcz67_3
     try clear hcz67_4
     try clear hcz67_5
     try clear hcz69_0
     try clear hcz70_0
     try clear hcz70_1
     try clear hcz70_2
     try clear hcz70_3
     try clear hcz70_4
     try clear hcz70_5
     try clear hcz73_0
     try clear hcz74_0
     try clear hcz74_1
     try clear hcz74_2
     try clear hcz74_3
     try clear hcz74_4
     try clear hcz74_5
     try clear hcz76_0
     try clear hcz77_0
     try clear hcz77_1
     try clear hcz77_2
     try clear hcz77_3
     try clear hcz77_4
     try clear hcz77_5
     try clear hcz82_0
     try clear hcz83_0
     try clear hcz83_1
     try clear hcz83_2
     try clear hcz83_3
     try clear hcz83_4
     try clear hcz83_5
     try clear hcz86_0
     try clear hcz87_0
     try clear hcz87_1
     try clear hcz87_2
     try clear hcz87_3
     try clear hcz87_4
     try clear hcz87_5
     try clear hcz89_0
     try clear hcz90_0
     try clear hcz90_1
     try clear hcz90_2
     try clear hcz90_3
     try clear hcz90_4
     try clear hcz90_5
     try clear hcz93_0
     try clear hcz94_0
     try clear hcz94_1
     try clear hcz94_2
     try clear hcz94_3
     try clear hcz94_4
     try clear hcz94_5
     try clear hcz96_0
     try clear hcz97_0
     try clear hcz97_1
     try clear hcz97_2
     try clear hcz97_3
     try clear hcz97_4
     try clear hcz97_5
     try clear hcz99_0
     try clear hfz100_0
     try clear hfz100_1
     try clear hfz100_2
     try clear hfz100_3
     try clear hfz100_4
     try clear hfz100_5
     try clear hfz104_0
     try clear hfz104_1
     try clear hfz104_2
     try clear hfz104_3
     try clear hfz104_4
     try clear hfz104_5
     try clear hfz20_0
     try clear hfz20_1
     try clear hfz20_2
     try clear hfz20_3
     try clear hfz20_4
     try clear hfz20_5
     try clear hfz22_0
     try clear hfz23_0
     try clear hfz23_1
     try clear hfz23_2
     try clear hfz23_3
     try clear hfz23_4
     try clear hfz23_5
     try clear hfz26_0
     try clear hfz27_0
     try clear hfz27_1
     try clear hfz27_2
     try clear hfz27_3
     try clear hfz27_4
     try clear hfz27_5
     try clear hfz29_0
     try clear hfz30_0
     try clear hfz30_1
     try clear hfz30_2
     try clear hfz30_3
     try clear hfz30_4
     try clear hfz30_5
     try clear hfz35_0
     try clear hfz36_0
     try clear hfz36_1
     try clear hfz36_2
     try clear hfz36_3
     try clear hfz36_4
     try clear hfz36_5
     try clear hfz39_0
     try clear hfz40_0
     try clear hfz40_1
     try clear hfz40_2
     try clear hfz40_3
     try clear hfz40_4
     try clear hfz40_5
     try clear hfz42_0
     try clear hfz43_0
     try clear hfz43_1
     try clear hfz43_2
     try clear hfz43_3
     try clear hfz43_4
     try clear hfz43_5
     try clear hfz46_0
     try clear hfz47_0
     try clear hfz47_1
     try clear hfz47_2
     try clear hfz47_3
     try clear hfz47_4
     try clear hfz47_5
     try clear hfz49_0
     try clear hfz50_0
     try clear hfz50_1
     try clear hfz50_2
     try clear hfz50_3
     try clear hfz50_4
     try clear hfz50_5
     try clear hfz52_0
     try clear hfz53_0
     try clear hfz53_1
     try clear hfz53_2
     try clear hfz53_3
     try clear hfz53_4
     try clear hfz53_5
     try clear hfz56_0
     try clear hfz57_0
     try clear hfz57_1
     try clear hfz57_2
     try clear hfz57_3
     try clear hfz57_4
     try clear hfz57_5
     try clear hfz62_0
     try clear hfz63_0
     try clear hfz63_1
     try clear hfz63_2
     try clear hfz63_3
     try clear hfz63_4
     try clear hfz63_5
     try clear hfz66_0
     try clear hfz67_0
     try clear hfz67_1
     try clear hfz67_2
     try clear hfz67_3
     try clear hfz67_4
     try clear hfz67_5
     try clear hfz69_0
     try clear hfz70_0
     try clear hfz70_1
     try clear hfz70_2
     try clear hfz70_3
     try clear hfz70_4
     try clear hfz70_5
     try clear hfz73_0
     try clear hfz74_0
     try clear hfz74_1
     try clear hfz74_2
     try clear hfz74_3
     try clear hfz74_4
     try clear hfz74_5
     try clear hfz76_0
     try clear hfz77_0
     try clear hfz77_1
     try clear hfz77_2
     try clear hfz77_3
     try clear hfz77_4
     try clear hfz77_5
     try clear hfz82_0
     try clear hfz83_0
     try clear hfz83_1
     try clear hfz83_2
     try clear hfz83_3
     try clear hfz83_4
     try clear hfz83_5
     try clear hfz86_0
     try clear hfz87_0
     try clear hfz87_1
     try clear hfz87_2
     try clear hfz87_3
     try clear hfz87_4
     try clear hfz87_5
     try clear hfz89_0
     try clear hfz90_0
     try clear hfz90_1
     try clear hfz90_2
     try clear hfz90_3
     try clear hfz90_4
     try clear hfz90_5
     try clear hfz93_0
     try clear hfz94_0
     try clear hfz94_1
     try clear hfz94_2
     try clear hfz94_3
     try clear hfz94_4
     try clear hfz94_5
     try clear hfz96_0
     try clear hfz97_0
     try clear hfz97_1
     try clear hfz97_2
     try clear hfz97_3
     try clear hfz97_4
     try clear hfz97_5
     try clear hfz99_0
     try clear p2
     obtain ⟨kq, x54_101, rfl, HA, HJ101, BK236, BK237, HB⟩ := hcut
     cases kq with
     | zero => exact absurd HA.out (by simp [impl_valueOk.j1])
     | succ kj101 =>
      have H := HA.out
      clear HA
      simp only [impl_valueOk.j1] at H
      by_cases c108 : x54_101 = true
      ·subst c108
       have H1 : ((impl_Value_36_at_valueOk_1.f kj101 l0_4 l2 [a1]).bind fun t238 => (some (!t238))) = some r := by rw [if_pos rfl] at H; exact H
       clear H
       have H := H1
       clear H1
       replace H := Option.bind_eq_some_iff.mp H
       obtain ⟨t238, A1090, H⟩ := H
       replace H : (some (!t238)) = some r := H
       have A109 := zA A1090
       clear A1090
       obtain rfl := yH H
       have hnb110 := NB236_237.out
       have hnc110 := NB237_236.out
       have hcz111_0 : wc.cell? ⟨gb236, 0, none⟩ = some (.int .i64 a0_0) := (zJ BK236.out 0).trans rfl
       have hcz111_1 : wc.cell? ⟨gb236, 1, none⟩ = some (.int .i64 a0_1) := (zJ BK236.out 1).trans rfl
       have hcz111_2 : wc.cell? ⟨gb236, 2, none⟩ = some (.int .i64 a0_2) := (zJ BK236.out 2).trans rfl
       have hcz111_3 : wc.cell? ⟨gb236, 3, none⟩ = some (.string a0_3) := (zJ BK236.out 3).trans rfl
       have hcz111_4 : wc.cell? ⟨gb236, 4, none⟩ = some (.slice A0_4 l0_4.length c0_4) := (zJ BK236.out 4).trans rfl
       have hcz111_5 : wc.cell? ⟨gb236, 5, none⟩ = some (.slice A0_5 l0_5.length c0_5) := (zJ BK236.out 5).trans rfl
       have hfz111_0 := zK BK236.out 0
       have hfz111_1 := zK BK236.out 1
       have hfz111_2 := zK BK236.out 2
       have hfz111_3 := zK BK236.out 3
       have hfz111_4 := zK BK236.out 4
       have hfz111_5 := zK BK236.out 5
       go_wp2_with (first | ((with_reducible refine zV (f := 36) rfl ?_); refine goesL_ (some 108) rfl rfl Tryd.func36 (by kernel_rfl) rfl #[.slice A0_4 l0_4.length c0_4, .func (.func 37) #[] #[.pointer (some ⟨gb237, 0, none⟩)]] rfl apE ?_; (with_reducible refine (ih_impl_Value_36_at_valueOk_1 kj101 (by have := HJ3.out; have := HJ101.out; omega) _ _ l0_4 A2 c2 l2 (some ⟨gb237, 0, none⟩) 1 [a1] t238 _ ?side1 ?side2 ?side3 ?side4 ?side5 ?side6 ?side7 A109.out).mono ?_); (case side1 => repeat (first | exact (Kd.C_below HR0_4.out HB.out) | (with_reducible refine Kd.C_alloc ?_ _) | (with_reducible refine Kd.C_drewN ?_ _) | (with_reducible refine Kd.C_drew ?_))); (case side2 => exact HC0_4.out); (case side3 => repeat (first | exact (Kd.C_below HR2.out HB.out) | (with_reducible refine Kd.C_alloc ?_ _) | (with_reducible refine Kd.C_drewN ?_ _) | (with_reducible refine Kd.C_drew ?_))); (case side4 => exact HC2.out); (case side5 => exact cap_mk apG); (case side6 => exact yK _); (case side7 => exact HG2.out); rintro e w112 ⟨rfl, hb⟩; refine ⟨_, rfl, ?_⟩; have n0_ := zA (zP (g := gb237) (o := .cells #[.int .i64 a1] 3 (0, 0)) apG hb); have n1_ := zA (zQ (by repeat (first | (with_reducible first | exact HB.out | apply zG | apply zE | apply zF | refine zH ?_ GE237.out) | exact HB.out)) hb); clear BK237; clear HB; have BK237 := n0_; have HB := n1_; clear n0_ n1_; (try clear hb); (try clear hb2); (try clear hk); (try clear hi)))
       go_ret
       exact ⟨apD, by repeat (first | (with_reducible first | exact HB.out | apply zG | apply zE | apply zF | refine zH ?_ GE237.out) | exact HB.out)⟩
      ·replace c108 := Bool.eq_false_iff.mpr c108
       subst c108
       have H1 : (if a0_0 = 3 then ((impl_DecOk.f a0_1 a0_2).bind fun t239 => (some t239)) else (if a0_0 = 4 then (some (decide ((a0_3.size : Int) ≤ 1500))) else (if a0_0 = 6 then (impl_valueOk.l0 kj101 l0_5 (l0_5.length : Int) 0 l2 a0_0 a0_1 a0_2 a0_3 l0_4 l0_5 a1) else (some false)))) = some r := by rw [if_neg (show ¬ (false = true) by decide)] at H; exact H
       clear H
       have H := H1
       clear H1
       by_cases c113 : a0_0 = 3
       ·rw [if_pos c113] at H
        have c113b0 : (a0_0 == 3) = true := beq_iff_eq.mpr c113
        have c113b1 : (a0_0 != 3) = false := bne_eq_false_iff_eq.mpr c113
        clear c113
        replace H := Option.bind_eq_some_iff.mp H
        obtain ⟨t239, A1140, H⟩ := H
        replace H : (some t239) = some r := H
        have A114 := zA A1140
        clear A1140
        obtain rfl := yH H
        have hnb115 := NB236_237.out
        have hnc115 := NB237_236.out
        have hcz116_0 : wc.cell? ⟨gb236, 0, none⟩ = some (.int .i64 a0_0) := (zJ BK236.out 0).trans rfl
        have hcz116_1 : wc.cell? ⟨gb236, 1, none⟩ = some (.int .i64 a0_1) := (zJ BK236.out 1).trans rfl
        have hcz116_2 : wc.cell? ⟨gb236, 2, none⟩ = some (.int .i64 a0_2) := (zJ BK236.out 2).trans rfl
        have hcz116_3 : wc.cell? ⟨gb236, 3, none⟩ = some (.string a0_3) := (zJ BK236.out 3).trans rfl
        have hcz116_4 : wc.cell? ⟨gb236, 4, none⟩ = some (.slice A0_4 l0_4.length c0_4) := (zJ BK236.out 4).trans rfl
        have hcz116_5 : wc.cell? ⟨gb236, 5, none⟩ = some (.slice A0_5 l0_5.length c0_5) := (zJ BK236.out 5).trans rfl
        have hfz116_0 := zK BK236.out 0
        have hfz116_1 := zK BK236.out 1
        have hfz116_2 := zK BK236.out 2
        have hfz116_3 := zK BK236.out 3
        have hfz116_4 := zK BK236.out 4
        have hfz116_5 := zK BK236.out 5
        go_wp2_with (first | ((with_reducible refine zV (f := 34) rfl ?_); refine goesL_ (some 63) rfl rfl Tryd.func34 (by kernel_rfl) rfl #[.agg #[.int .i64 a0_1, .int .i64 a0_2]] rfl apE ?_; (with_reducible refine (impl_DecOk.calls a0_1 a0_2 t239 _ A114.out).mono ?_); rintro e w117 ⟨rfl, hb⟩; refine ⟨_, rfl, ?_⟩; have n0_ := zA (zQ apA hb); clear HB; have HB := n0_; clear n0_; (try clear hb); (try clear hb2); (try clear hk); (try clear hi)))
        go_ret
        exact ⟨apD, apA⟩
       ·rw [if_neg c113] at H
        have c113b0 : (a0_0 == 3) = false := beq_eq_false_iff_ne.mpr c113
        have c113b1 : (a0_0 != 3) = true := bne_iff_ne.mpr c113
        by_cases c118 : a0_0 = 4
        ·rw [if_pos c118] at H
         have c118b0 : (a0_0 == 4) = true := beq_iff_eq.mpr c118
         have c118b1 : (a0_0 != 4) = false := bne_eq_false_iff_eq.mpr c118
         clear c118
         obtain rfl := yH H
         have hnb119 := NB236_237.out
         have hnc119 := NB237_236.out
         have hcz120_0 : wc.cell? ⟨gb236, 0, none⟩ = some (.int .i64 a0_0) := (zJ BK236.out 0).trans rfl
         have hcz120_1 : wc.cell? ⟨gb236, 1, none⟩ = some (.int .i64 a0_1) := (zJ BK236.out 1).trans rfl
         have hcz120_2 : wc.cell? ⟨gb236, 2, none⟩ = some (.int .i64 a0_2) := (zJ BK236.out 2).trans rfl
         have hcz120_3 : wc.cell? ⟨gb236, 3, none⟩ = some (.string a0_3) := (zJ BK236.out 3).trans rfl
         have hcz120_4 : wc.cell? ⟨gb236, 4, none⟩ = some (.slice A0_4 l0_4.length c0_4) := (zJ BK236.out 4).trans rfl
         have hcz120_5 : wc.cell? ⟨gb236, 5, none⟩ = some (.slice A0_5 l0_5.length c0_5) := (zJ BK236.out 5).trans rfl
         have hfz120_0 := zK BK236.out 0
         have hfz120_1 := zK BK236.out 1
         have hfz120_2 := zK BK236.out 2
         have hfz120_3 := zK BK236.out 3
         have hfz120_4 := zK BK236.out 4
         have hfz120_5 := zK BK236.out 5
         go_wp2
         go_ret
         exact ⟨apD, apH⟩
        ·rw [if_neg c118] at H
         have c118b0 : (a0_0 == 4) = false := beq_eq_false_iff_ne.mpr c118
         have c118b1 : (a0_0 != 4) = true := bne_iff_ne.mpr c118
         by_cases c121 : a0_0 = 6
         ·rw [if_pos c121] at H
          have c121b0 : (a0_0 == 6) = true := beq_iff_eq.mpr c121
          have c121b1 : (a0_0 != 6) = false := bne_eq_false_iff_eq.mpr c121
          clear c121
          have H' := zA H
          clear H
          have hnb122 := NB236_237.out
          have hnc122 := NB237_236.out
          have hcz123_0 : wc.cell? ⟨gb236, 0, none⟩ = some (.int .i64 a0_0) := (zJ BK236.out 0).trans rfl
          have hcz123_1 : wc.cell? ⟨gb236, 1, none⟩ = some (.int .i64 a0_1) := (zJ BK236.out 1).trans rfl
          have hcz123_2 : wc.cell? ⟨gb236, 2, none⟩ = some (.int .i64 a0_2) := (zJ BK236.out 2).trans rfl
          have hcz123_3 : wc.cell? ⟨gb236, 3, none⟩ = some (.string a0_3) := (zJ BK236.out 3).trans rfl
          have hcz123_4 : wc.cell? ⟨gb236, 4, none⟩ = some (.slice A0_4 l0_4.length c0_4) := (zJ BK236.out 4).trans rfl
          have hcz123_5 : wc.cell? ⟨gb236, 5, none⟩ = some (.slice A0_5 l0_5.length c0_5) := (zJ BK236.out 5).trans rfl
          have hfz123_0 := zK BK236.out 0
          have hfz123_1 := zK BK236.out 1
          have hfz123_2 := zK BK236.out 2
          have hfz123_3 := zK BK236.out 3
          have hfz123_4 := zK BK236.out 4
          have hfz123_5 := zK BK236.out 5
          go_wp2
          go_loopg [75] kj101 (fun kq v75 w' => ∃ (x75_3 : Int), v75 = .int .i64 x75_3 ∧ Aside0 (impl_valueOk.l0 kq l0_5 (l0_5.length : Int) x75_3 l2 a0_0 a0_1 a0_2 a0_3 l0_4 l0_5 a1 = some r) ∧ Aside0 (kq ≤ kj101) ∧ Aside0 (w'.heap[gb236]? = some (.cells #[.int .i64 a0_0, .int .i64 a0_1, .int .i64 a0_2, .string a0_3, (.slice A0_4 l0_4.length c0_4), (.slice A0_5 l0_5.length c0_5)] 33 (0, 0))) ∧ Aside0 (w'.heap[gb237]? = some (.cells #[.int .i64 a1] 3 (0, 0))) ∧ Aside0 (Below w.heap.size w w'))
          case atStart => exact ⟨(0), apB, H', ⟨yK _⟩, ⟨apI⟩, ⟨apG⟩, ⟨apH⟩⟩
          case round =>
           clear H'
           try clear c1
           try clear c2
           try clear p2
           try clear c3
           try clear c4
           try clear c5
           try clear c6
           try clear c7
           try clear c8
           try clear c9
           try clear c10
           try clear c10b0
           try clear c10b1
           try clear c11
           try clear c11b0
           try clear c11b1
           try clear c12
           try clear c12b0
           try clear c17
           try clear c17b0
           try clear c17b1
           try clear c21
           try clear c24
           try clear c24b0
           try clear c24b1
           try clear c25
           try clear c28
           try clear c31
           try clear c31b0
           try clear c31b1
           try clear c32
           try clear c32b0
           try clear c33
           try clear c33b0
           try clear c33b1
           try clear c34
           try clear c36
           try clear c37
           try clear c37b0
           try clear c37b1
           try clear c38
           try clear c41
           try clear c44
           try clear c44b0
           try clear c44b1
           try clear c45
           try clear c48
           try clear c51
           try clear c54
           try clear c54b0
           try clear c55
           try clear c58
           try clear c58b0
           try clear c58b1
           try clear c59
           try clear c59b0
           try clear c60
           try clear c60b0
           try clear c60b1
           try clear c61
           try clear c64
           try clear c64b0
           try clear c64b1
           try clear c65
           try clear c68
           try clear c71
           try clear c71b0
           try clear c71b1
           try clear c72
           try clear c75
           try clear c78
           try clear c78b0
           try clear c78b1
           try clear c79
           try clear c79b0
           try clear c80
           try clear c80b0
           try clear c80b1
           try clear c81
           try clear c84
           try clear c84b0
           try clear c84b1
           try clear c85
           try clear c88
           try clear c91
           try clear c91b0
           try clear c91b1
           try clear c92
           try clear c95
           try clear c98
           try clear c101
           try clear c103
           try clear c105
           try clear c105b0
           try clear c105b1
           try clear c106
           try clear c106b0
           try clear c106b1
           try clear c107
           try clear c107b0
           try clear c107b1
           try clear c108
           try clear c110
           try clear c113
           try clear c113b0
           try clear c113b1
           try clear c115
           try clear c118
           try clear c118b0
           try clear c118b1
           try clear c119
           try clear c121
           try clear c121b0
           try clear c121b1
           try clear c122
           try clear hcz100_0
           try clear hcz100_1
           try clear hcz100_2
           try clear hcz100_3
           try clear hcz100_4
           try clear hcz100_5
           try clear hcz104_0
           try clear hcz104_1
           try clear hcz104_2
           try clear hcz104_3
           try clear hcz104_4
           try clear hcz104_5
           try clear hcz111_0
           try clear hcz111_1
           try clear hcz111_2
           try clear hcz111_3
           try clear hcz111_4
           try clear hcz111_5
           try clear hcz116_0
           try clear hcz116_1
           try clear hcz116_2
           try clear hcz116_3
           try clear hcz116_4
           try clear hcz116_5
           try clear hcz120_0
           try clear hcz120_1
           try clear hcz120_2
           try clear hcz120_3
           try clear hcz120_4
           try clear hcz120_5
           try clear hcz123_0
           try clear hcz123_1
           try clear hcz123_2
           try clear hcz123_3
           try clear hcz123_4
           try clear hcz123_5
           try clear hcz20_5
           try clear hcz22_0
           try clear hcz23_0
           try clear hcz23_1
           try clear hcz23_2
           try clear hcz23_3
           try clear hcz23_4
           try clear hcz23_5
           try clear hcz26_0
           try clear hcz27_0
           try clear hcz27_1
           try clear hcz27_2
           try clear hcz27_3
           try clear hcz27_4
           try clear hcz27_5
           try clear hcz29_0
           try clear hcz30_0
           try clear hcz30_1
           try clear hcz30_2
           try clear hcz30_3
           try clear hcz30_4
           try clear hcz30_5
           try clear hcz35_0
           try clear hcz36_0
           try clear hcz36_1
           try clear hcz36_2
           try clear hcz36_3
           try clear hcz36_4
           try clear hcz36_5
           try clear hcz39_0
           try clear hcz40_0
           try clear hcz40_1
           try clear hcz40_2
           try clear hcz40_3
           try clear hcz40_4
           try clear hcz40_5
           try clear hcz42_0
           try clear hcz43_0
           try clear hcz43_1
           try clear hcz43_2
           try clear hcz43_3
           try clear hcz43_4
           try clear hcz43_5
           try clear hcz46_0
           try clear hcz47_0
           try clear hcz47_1
           try clear hcz47_2
           try clear hcz47_3
           try clear hcz47_4
           try clear hcz47_5
           try clear hcz49_0
           try clear hcz50_0
           try clear hcz50_1
           try clear hcz50_2
           try clear hcz50_3
           try clear hcz50_4
           try clear hcz50_5
           try clear hcz52_0
           try clear hcz53_0
           try clear hcz53_1
           try clear hcz53_2
           try clear hcz53_3
           try clear hcz53_4
           try clear hcz53_5
           try clear hcz56_0
           try clear hcz57_0
           try clear hcz57_1
           try clear hcz57_2
           try clear hcz57_3
           try clear hcz57_4
           try clear hcz57_5
           try clear hcz62_0
           try clear hcz63_0
           try clear hcz63_1
           try clear hcz63_2
           try clear hcz63_3
           try clear hcz63_4
           try clear hcz63_5
           try clear hcz66_0
           try clear hcz67_0
           try clear hcz67_1
           try clear hcz67_2
           try clear hcz67_3
           try clear hcz67_4
           try clear hcz67_5
           try clear hcz69_0
           try clear hcz70_0
           try clear hcz70_1
           try clear hcz70_2
           try clear hcz70_3
           try clear hcz70_4
           try clear hcz70_5
           try clear hcz73_0
           try clear hcz74_0
           try clear hcz74_1
           try clear hcz74_2
           try clear hcz74_3
           try clear hcz74_4
           try clear hcz74_5
           try clear hcz76_0
           try clear hcz77_0
           try clear hcz77_1
           try clear hcz77_2
           try clear hcz77_3
           try clear hcz77_4
           try clear hcz77_5
           try clear hcz82_0
           try clear hcz83_0
           try clear hcz83_1
           try clear hcz83_2
           try clear hcz83_3
           try clear hcz83_4
           try clear hcz83_5
           try clear hcz86_0
           try clear hcz87_0
           try clear hcz87_1
           try clear hcz87_2
           try clear hcz87_3
           try clear hcz87_4
           try clear hcz87_5
           try clear hcz89_0
           try clear hcz90_0
           try clear hcz90_1
           try clear hcz90_2
           try clear hcz90_3
           try clear hcz90_4
           try clear hcz90_5
           try clear hcz93_0
           try clear hcz94_0
           try clear hcz94_1
           try clear hcz94_2
           try clear hcz94_3
           try clear hcz94_4
           try clear hcz94_5
           try clear hcz96_0
           try clear hcz97_0
           try clear hcz97_1
           try clear hcz97_2
           try clear hcz97_3
           try clear hcz97_4
           try clear hcz97_5
           try clear hcz99_0
           try clear hfz100_0
           try clear hfz100_1
           try clear hfz100_2
           try clear hfz100_3
           try clear hfz100_4
           try clear hfz100_5
           try clear hfz104_0
           try clear hfz104_1
           try clear hfz104_2
           try clear hfz104_3
           try clear hfz104_4
           try clear hfz104_5
           try clear hfz111_0
           try clear hfz111_1
           try clear hfz111_2
           try clear hfz111_3
           try clear hfz111_4
           try clear hfz111_5
           try clear hfz116_0
           try clear hfz116_1
           try clear hfz116_2
           try clear hfz116_3
           try clear hfz116_4
           try clear hfz116_5
           try clear hfz120_0
           try clear hfz120_1
           try clear hfz120_2
           try clear hfz120_3
           try clear hfz120_4
           try clear hfz120_5
           try clear hfz123_0
           try clear hfz123_1
           try clear hfz123_2
           try clear hfz123_3
           try clear hfz123_4
           try clear hfz123_5
           try clear hfz20_0
           try clear hfz20_1
           try clear hfz20_2
           try clear hfz20_3
           try clear hfz20_4
           try clear hfz20_5
           try clear hfz22_0
           try clear hfz23_0
           try clear hfz23_1
           try clear hfz23_2
           try clear hfz23_3
           try clear hfz23_4
           try clear hfz23_5
           try clear hfz26_0
           try clear hfz27_0
           try clear hfz27_1
           try clear hfz27_2
           try clear hfz27_3
           try clear hfz27_4
           try clear hfz27_5
           try clear hfz29_0
           try clear hfz30_0
           try clear hfz30_1
           try clear hfz30_2
           try clear hfz30_3
           try clear hfz30_4
           try clear hfz30_5
           try clear hfz35_0
           try clear hfz36_0
           try clear hfz36_1
           try clear hfz36_2
           try clear hfz36_3
           try clear hfz36_4
           try clear hfz36_5
           try clear hfz39_0
           try clear hfz40_0
           try clear hfz40_1
           try clear hfz40_2
           try clear hfz40_3
           try clear hfz40_4
           try clear hfz40_5
           try clear hfz42_0
           try clear hfz43_0
           try clear hfz43_1
           try clear hfz43_2
           try clear hfz43_3
           try clear hfz43_4
           try clear hfz43_5
           try clear hfz46_0
           try clear hfz47_0
           try clear hfz47_1
           try clear hfz47_2
           try clear hfz47_3
           try clear hfz47_4
           try clear hfz47_5
           try clear hfz49_0
           try clear hfz50_0
           try clear hfz50_1
           try clear hfz50_2
           try clear hfz50_3
           try clear hfz50_4
           try clear hfz50_5
           try clear hfz52_0
           try clear hfz53_0
           try clear hfz53_1
           try clear hfz53_2
           try clear hfz53_3
           try clear hfz53_4
           try clear hfz53_5
           try clear hfz56_0
           try clear hfz57_0
           try clear hfz57_1
           try clear hfz57_2
           try clear hfz57_3
           try clear hfz57_4
           try clear hfz57_5
           try clear hfz62_0
           try clear hfz63_0
           try clear hfz63_1
           try clear hfz63_2
           try clear hfz63_3
           try clear hfz63_4
           try clear hfz63_5
           try clear hfz66_0
           try clear hfz67_0
           try clear hfz67_1
           try clear hfz67_2
           try clear hfz67_3
           try clear hfz67_4
           try clear hfz67_5
           try clear hfz69_0
           try clear hfz70_0
           try clear hfz70_1
           try clear hfz70_2
           try clear hfz70_3
           try clear hfz70_4
           try clear hfz70_5
           try clear hfz73_0
           try clear hfz74_0
           try clear hfz74_1
           try clear hfz74_2
           try clear hfz74_3
           try clear hfz74_4
           try clear hfz74_5
           try clear hfz76_0
           try clear hfz77_0
           try clear hfz77_1
           try clear hfz77_2
           try clear hfz77_3
           try clear hfz77_4
           try clear hfz77_5
           try clear hfz82_0
           try clear hfz83_0
           try clear hfz83_1
           try clear hfz83_2
           try clear hfz83_3
           try clear hfz83_4
           try clear hfz83_5
           try clear hfz86_0
           try clear hfz87_0
           try clear hfz87_1
           try clear hfz87_2
           try clear hfz87_3
           try clear hfz87_4
           try clear hfz87_5
           try clear hfz89_0
           try clear hfz90_0
           try clear hfz90_1
           try clear hfz90_2
           try clear hfz90_3
           try clear hfz90_4
           try clear hfz90_5
           try clear hfz93_0
           try clear hfz94_0
           try clear hfz94_1
           try clear hfz94_2
           try clear hfz94_3
           try clear hfz94_4
           try clear hfz94_5
           try clear hfz96_0
           try clear hfz97_0
           try clear hfz97_1
           try clear hfz97_2
           try clear hfz97_3
           try clear hfz97_4
           try clear hfz97_5
           try clear hfz99_0
           try clear p2
           obtain ⟨x75_3, rfl, HA, HK3, BK236, BK237, HB⟩ := hrel
           cases gk with
           | zero => exact absurd HA.out (by simp [impl_valueOk.l0])
           | succ k3 =>
            have H := HA.out
            clear HA
            simp only [impl_valueOk.l0] at H
            by_cases c124 : x75_3 < (l0_5.length : Int)
            ·rw [if_pos c124] at H
             have c124b0 : decide (x75_3 < (l0_5.length : Int)) = true := yF c124
             clear c124
             by_cases c125 : 0 ≤ x75_3
             ·rw [if_pos c125] at H
              have c125b0 : decide (0 ≤ x75_3) = true := yF c125
              clear c125
              by_cases c126 : x75_3 < (l0_5.length : Int)
              ·rw [if_pos c126] at H
               have c126b0 : decide (x75_3 < (l0_5.length : Int)) = true := yF c126
               clear c126
               replace H := Option.bind_eq_some_iff.mp H
               obtain ⟨t241, A1270, H⟩ := H
               replace H : (if t241 = true then (if x75_3 > 0 then (if 0 ≤ (wrap64 (x75_3 - 1)) then (if (wrap64 (x75_3 - 1)) < (l0_5.length : Int) then (if ((Op.bytesLess ((rdOf ByteArray.empty l0_5 (wrap64 (x75_3 - 1))).toList) ((rdOf ByteArray.empty l0_5 x75_3).toList)) = true) then (impl_valueOk.l0 k3 l0_5 (l0_5.length : Int) (wrap64 (x75_3 + 1)) l2 a0_0 a0_1 a0_2 a0_3 l0_4 l0_5 a1) else (some false)) else (none)) else (none)) else (impl_valueOk.l0 k3 l0_5 (l0_5.length : Int) (wrap64 (x75_3 + 1)) l2 a0_0 a0_1 a0_2 a0_3 l0_4 l0_5 a1)) else (some false)) = some r := H
               have A127 := zA A1270
               clear A1270
               by_cases c128 : t241 = true
               ·subst c128
                have H1 : (if x75_3 > 0 then (if 0 ≤ (wrap64 (x75_3 - 1)) then (if (wrap64 (x75_3 - 1)) < (l0_5.length : Int) then (if ((Op.bytesLess ((rdOf ByteArray.empty l0_5 (wrap64 (x75_3 - 1))).toList) ((rdOf ByteArray.empty l0_5 x75_3).toList)) = true) then (impl_valueOk.l0 k3 l0_5 (l0_5.length : Int) (wrap64 (x75_3 + 1)) l2 a0_0 a0_1 a0_2 a0_3 l0_4 l0_5 a1) else (some false)) else (none)) else (none)) else (impl_valueOk.l0 k3 l0_5 (l0_5.length : Int) (wrap64 (x75_3 + 1)) l2 a0_0 a0_1 a0_2 a0_3 l0_4 l0_5 a1)) = some r := by rw [if_pos rfl] at H; exact H
                clear H
                have H := H1
                clear H1
                by_cases c129 : x75_3 > 0
                ·rw [if_pos c129] at H
                 have c129b0 : decide (0 < x75_3) = true := yF c129
                 clear c129
                 obtain ⟨ji130, hji130⟩ : ∃ j_ : Int, (wrap64 (x75_3 - 1)) = j_ := ⟨_, rfl⟩
                 replace H : (if 0 ≤ (ji130) then (if (ji130) < (l0_5.length : Int) then (if ((Op.bytesLess ((rdOf ByteArray.empty l0_5 (ji130)).toList) ((rdOf ByteArray.empty l0_5 x75_3).toList)) = true) then (impl_valueOk.l0 k3 l0_5 (l0_5.length : Int) (wrap64 (x75_3 + 1)) l2 a0_0 a0_1 a0_2 a0_3 l0_4 l0_5 a1) else (some false)) else (none)) else (none)) = some r := by first | (rw [hji130] at H; exact H) | (simp only [hji130] at H ⊢; exact H)
                 (try rw [hji130] at A127)
                 have hji130w : (IntKind.i64.wrap (x75_3 - 1)) = ji130 := (i64_w _).trans hji130
                 by_cases c131 : 0 ≤ (ji130)
                 ·rw [if_pos c131] at H
                  have c131b0 : decide (0 ≤ (ji130)) = true := yF c131
                  clear c131
                  by_cases c132 : (ji130) < (l0_5.length : Int)
                  ·rw [if_pos c132] at H
                   have c132b0 : decide ((ji130) < (l0_5.length : Int)) = true := yF c132
                   clear c132
                   by_cases c133 : ((Op.bytesLess ((rdOf ByteArray.empty l0_5 (ji130)).toList) ((rdOf ByteArray.empty l0_5 x75_3).toList)) = true)
                   ·rw [if_pos c133] at H
                    have c133b0 : (Op.bytesLess ((rdOf ByteArray.empty l0_5 (ji130)).toList) ((rdOf ByteArray.empty l0_5 x75_3).toList)) = true := c133
                    clear c133
                    have H' := zA H
                    clear H
                    have p240 : 0 ≤ (x75_3 : Int) := yG apC
                    have q240 : x75_3 < (l0_5.length : Int) := yG apC
                    obtain ⟨ad240, e240, hx240_0⟩ := Kd.at_string HR0_5.out x75_3 p240 q240
                    cases e240
                    replace hx240_0 := (HB.out.cell (zS w _ hx240_0)).trans hx240_0
                    replace p240 := eq_true p240
                    replace q240 := eq_true q240
                    go_wp2_with (first | ((with_reducible refine zV (f := 35) rfl ?_); refine goesL_ (some 81) rfl rfl Tryd.func35 (by kernel_rfl) rfl #[.string (rdOf ByteArray.empty l0_5 x75_3)] rfl apE ?_; (with_reducible refine (impl_NameOk.calls k3 (rdOf ByteArray.empty l0_5 x75_3) A2 c2 l2 true _ ?side1 ?side2 ?side3 A127.out).mono ?_); (case side1 => repeat (first | exact (Kd.C_below HR2.out HB.out) | (with_reducible refine Kd.C_alloc ?_ _) | (with_reducible refine Kd.C_drewN ?_ _) | (with_reducible refine Kd.C_drew ?_))); (case side2 => exact HC2.out); (case side3 => exact HG2.out); rintro e w' ⟨rfl, ⟨nd, rfl⟩⟩; refine ⟨_, rfl, ?_⟩; have hnb134 := NB236_237.out; have hnc134 := NB237_236.out; have hcz135_0 : wr.cell? ⟨gb236, 0, none⟩ = some (.int .i64 a0_0) := (zJ BK236.out 0).trans rfl; have hcz135_1 : wr.cell? ⟨gb236, 1, none⟩ = some (.int .i64 a0_1) := (zJ BK236.out 1).trans rfl; have hcz135_2 : wr.cell? ⟨gb236, 2, none⟩ = some (.int .i64 a0_2) := (zJ BK236.out 2).trans rfl; have hcz135_3 : wr.cell? ⟨gb236, 3, none⟩ = some (.string a0_3) := (zJ BK236.out 3).trans rfl; have hcz135_4 : wr.cell? ⟨gb236, 4, none⟩ = some (.slice A0_4 l0_4.length c0_4) := (zJ BK236.out 4).trans rfl; have hcz135_5 : wr.cell? ⟨gb236, 5, none⟩ = some (.slice (some ad240) l0_5.length c0_5) := (zJ BK236.out 5).trans rfl; have hfz135_0 := zK BK236.out 0; have hfz135_1 := zK BK236.out 1; have hfz135_2 := zK BK236.out 2; have hfz135_3 := zK BK236.out 3; have hfz135_4 := zK BK236.out 4; have hfz135_5 := zK BK236.out 5; have p242 : 0 ≤ ((ji130) : Int) := yG apC; have q242 : (ji130) < (l0_5.length : Int) := yG apC; obtain ⟨ad242, e242, hx242_0⟩ := Kd.at_string HR0_5.out (ji130) p242 q242; obtain rfl : ad240 = ad242 := (by injection e242); replace hx242_0 := (HB.out.cell (zS w _ hx242_0)).trans hx242_0; replace p242 := eq_true p242; replace q242 := eq_true q242))
                    go_roundg k3
                    case measure => have := HJ3.out; have := HJ101.out; have := HK3.out; omega
                    case rel => exact ⟨(wrap64 (x75_3 + 1)), apB, H', ⟨by have := HJ3.out; have := HJ101.out; have := HK3.out; omega⟩, ⟨apI⟩, ⟨apG⟩, ⟨apH⟩⟩
                   ·rw [if_neg c133] at H
                    have c133b0 : (Op.bytesLess ((rdOf ByteArray.empty l0_5 (ji130)).toList) ((rdOf ByteArray.empty l0_5 x75_3).toList)) = false := by simpa using c133
                    clear c133
                    obtain rfl := yH H
                    have p240 : 0 ≤ (x75_3 : Int) := yG apC
                    have q240 : x75_3 < (l0_5.length : Int) := yG apC
                    obtain ⟨ad240, e240, hx240_0⟩ := Kd.at_string HR0_5.out x75_3 p240 q240
                    cases e240
                    replace hx240_0 := (HB.out.cell (zS w _ hx240_0)).trans hx240_0
                    replace p240 := eq_true p240
                    replace q240 := eq_true q240
                    go_wp2_with (first | ((with_reducible refine zV (f := 35) rfl ?_); refine goesL_ (some 81) rfl rfl Tryd.func35 (by kernel_rfl) rfl #[.string (rdOf ByteArray.empty l0_5 x75_3)] rfl apE ?_; (with_reducible refine (impl_NameOk.calls k3 (rdOf ByteArray.empty l0_5 x75_3) A2 c2 l2 true _ ?side1 ?side2 ?side3 A127.out).mono ?_); (case side1 => repeat (first | exact (Kd.C_below HR2.out HB.out) | (with_reducible refine Kd.C_alloc ?_ _) | (with_reducible refine Kd.C_drewN ?_ _) | (with_reducible refine Kd.C_drew ?_))); (case side2 => exact HC2.out); (case side3 => exact HG2.out); rintro e w' ⟨rfl, ⟨nd, rfl⟩⟩; refine ⟨_, rfl, ?_⟩; have hcz136_0 : wr.cell? ⟨gb236, 0, none⟩ = some (.int .i64 a0_0) := (zJ BK236.out 0).trans rfl; have hcz136_1 : wr.cell? ⟨gb236, 1, none⟩ = some (.int .i64 a0_1) := (zJ BK236.out 1).trans rfl; have hcz136_2 : wr.cell? ⟨gb236, 2, none⟩ = some (.int .i64 a0_2) := (zJ BK236.out 2).trans rfl; have hcz136_3 : wr.cell? ⟨gb236, 3, none⟩ = some (.string a0_3) := (zJ BK236.out 3).trans rfl; have hcz136_4 : wr.cell? ⟨gb236, 4, none⟩ = some (.slice A0_4 l0_4.length c0_4) := (zJ BK236.out 4).trans rfl; have hcz136_5 : wr.cell? ⟨gb236, 5, none⟩ = some (.slice (some ad240) l0_5.length c0_5) := (zJ BK236.out 5).trans rfl; have hfz136_0 := zK BK236.out 0; have hfz136_1 := zK BK236.out 1; have hfz136_2 := zK BK236.out 2; have hfz136_3 := zK BK236.out 3; have hfz136_4 := zK BK236.out 4; have hfz136_5 := zK BK236.out 5; have p242 : 0 ≤ ((ji130) : Int) := yG apC; have q242 : (ji130) < (l0_5.length : Int) := yG apC; obtain ⟨ad242, e242, hx242_0⟩ := Kd.at_string HR0_5.out (ji130) p242 q242; obtain rfl : ad240 = ad242 := (by injection e242); replace hx242_0 := (HB.out.cell (zS w _ hx242_0)).trans hx242_0; replace p242 := eq_true p242; replace q242 := eq_true q242))
                    go_ret
                    exact ⟨by first | rfl | (simp [errW_none, errW_some] <;> rfl) | (simp only [← hji130]; first | rfl | (simp [errW_none, errW_some] <;> rfl)) | (simp [*, errW_none, errW_some] <;> rfl), by repeat (first | (with_reducible first | exact HB.out | apply zG | apply zE | apply zF | refine zH ?_ GE236.out) | exact HB.out)⟩
                  ·rw [if_neg c132] at H
                   exact absurd H (by simp)
                 ·rw [if_neg c131] at H
                  exact absurd H (by simp)
                ·rw [if_neg c129] at H
                 have c129b0 : decide (0 < x75_3) = false := decide_eq_false c129
                 clear c129
                 have H' := zA H
                 clear H
                 have p240 : 0 ≤ (x75_3 : Int) := yG apC
                 have q240 : x75_3 < (l0_5.length : Int) := yG apC
                 obtain ⟨ad240, e240, hx240_0⟩ := Kd.at_string HR0_5.out x75_3 p240 q240
                 cases e240
                 replace hx240_0 := (HB.out.cell (zS w _ hx240_0)).trans hx240_0
                 replace p240 := eq_true p240
                 replace q240 := eq_true q240
                 go_wp2_with (first | ((with_reducible refine zV (f := 35) rfl ?_); refine goesL_ (some 81) rfl rfl Tryd.func35 (by kernel_rfl) rfl #[.string (rdOf ByteArray.empty l0_5 x75_3)] rfl apE ?_; (with_reducible refine (impl_NameOk.calls k3 (rdOf ByteArray.empty l0_5 x75_3) A2 c2 l2 true _ ?side1 ?side2 ?side3 A127.out).mono ?_); (case side1 => repeat (first | exact (Kd.C_below HR2.out HB.out) | (with_reducible refine Kd.C_alloc ?_ _) | (with_reducible refine Kd.C_drewN ?_ _) | (with_reducible refine Kd.C_drew ?_))); (case side2 => exact HC2.out); (case side3 => exact HG2.out); rintro e w' ⟨rfl, ⟨nd, rfl⟩⟩; refine ⟨_, rfl, ?_⟩))
                 go_roundg k3
                 case measure => have := HJ3.out; have := HJ101.out; have := HK3.out; omega
                 case rel => exact ⟨(wrap64 (x75_3 + 1)), apB, H', ⟨by have := HJ3.out; have := HJ101.out; have := HK3.out; omega⟩, ⟨apI⟩, ⟨apG⟩, ⟨apH⟩⟩
               ·replace c128 := Bool.eq_false_iff.mpr c128
                subst c128
                have H1 : (some false) = some r := by rw [if_neg (show ¬ (false = true) by decide)] at H; exact H
                clear H
                have H := H1
                clear H1
                obtain rfl := yH H
                have p240 : 0 ≤ (x75_3 : Int) := yG apC
                have q240 : x75_3 < (l0_5.length : Int) := yG apC
                obtain ⟨ad240, e240, hx240_0⟩ := Kd.at_string HR0_5.out x75_3 p240 q240
                cases e240
                replace hx240_0 := (HB.out.cell (zS w _ hx240_0)).trans hx240_0
                replace p240 := eq_true p240
                replace q240 := eq_true q240
                go_wp2_with (first | ((with_reducible refine zV (f := 35) rfl ?_); refine goesL_ (some 81) rfl rfl Tryd.func35 (by kernel_rfl) rfl #[.string (rdOf ByteArray.empty l0_5 x75_3)] rfl apE ?_; (with_reducible refine (impl_NameOk.calls k3 (rdOf ByteArray.empty l0_5 x75_3) A2 c2 l2 false _ ?side1 ?side2 ?side3 A127.out).mono ?_); (case side1 => repeat (first | exact (Kd.C_below HR2.out HB.out) | (with_reducible refine Kd.C_alloc ?_ _) | (with_reducible refine Kd.C_drewN ?_ _) | (with_reducible refine Kd.C_drew ?_))); (case side2 => exact HC2.out); (case side3 => exact HG2.out); rintro e w' ⟨rfl, ⟨nd, rfl⟩⟩; refine ⟨_, rfl, ?_⟩))
                go_ret
                exact ⟨apD, apA⟩
              ·rw [if_neg c126] at H
               exact absurd H (by simp)
             ·rw [if_neg c125] at H
              exact absurd H (by simp)
            ·rw [if_neg c124] at H
             have c124b0 : decide (x75_3 < (l0_5.length : Int)) = false := decide_eq_false c124
             clear c124
             by_cases c137 : (l0_5.length : Int) = (l0_4.length : Int)
             ·rw [if_pos c137] at H
              have c137b0 : ((l0_5.length : Int) == (l0_4.length : Int)) = true := beq_iff_eq.mpr c137
              have c137b1 : ((l0_5.length : Int) != (l0_4.length : Int)) = false := bne_eq_false_iff_eq.mpr c137
              have c137b2 : (l0_5.length == l0_4.length) = true := by first | simpa using c137 | (simp at c137 ⊢; omega)
              clear c137
              replace H := Option.bind_eq_some_iff.mp H
              obtain ⟨t243, A1380, H⟩ := H
              replace H : (some (!t243)) = some r := H
              have A138 := zA A1380
              clear A1380
              obtain rfl := yH H
              have hnb139 := NB236_237.out
              have hnc139 := NB237_236.out
              have hcz140_0 : wr.cell? ⟨gb236, 0, none⟩ = some (.int .i64 a0_0) := (zJ BK236.out 0).trans rfl
              have hcz140_1 : wr.cell? ⟨gb236, 1, none⟩ = some (.int .i64 a0_1) := (zJ BK236.out 1).trans rfl
              have hcz140_2 : wr.cell? ⟨gb236, 2, none⟩ = some (.int .i64 a0_2) := (zJ BK236.out 2).trans rfl
              have hcz140_3 : wr.cell? ⟨gb236, 3, none⟩ = some (.string a0_3) := (zJ BK236.out 3).trans rfl
              have hcz140_4 : wr.cell? ⟨gb236, 4, none⟩ = some (.slice A0_4 l0_4.length c0_4) := (zJ BK236.out 4).trans rfl
              have hcz140_5 : wr.cell? ⟨gb236, 5, none⟩ = some (.slice A0_5 l0_5.length c0_5) := (zJ BK236.out 5).trans rfl
              have hfz140_0 := zK BK236.out 0
              have hfz140_1 := zK BK236.out 1
              have hfz140_2 := zK BK236.out 2
              have hfz140_3 := zK BK236.out 3
              have hfz140_4 := zK BK236.out 4
              have hfz140_5 := zK BK236.out 5
              go_wp2_with (first | ((with_reducible refine zV (f := 36) rfl ?_); refine goesL_ (some 108) rfl rfl Tryd.func36 (by kernel_rfl) rfl #[.slice A0_4 l0_4.length c0_4, .func (.func 37) #[] #[.pointer (some ⟨gb237, 0, none⟩)]] rfl apE ?_; (with_reducible refine (ih_impl_Value_36_at_valueOk_1 k3 (by have := HJ3.out; have := HJ101.out; have := HK3.out; omega) _ _ l0_4 A2 c2 l2 (some ⟨gb237, 0, none⟩) 1 [a1] t243 _ ?side1 ?side2 ?side3 ?side4 ?side5 ?side6 ?side7 A138.out).mono ?_); (case side1 => repeat (first | exact (Kd.C_below HR0_4.out HB.out) | (with_reducible refine Kd.C_alloc ?_ _) | (with_reducible refine Kd.C_drewN ?_ _) | (with_reducible refine Kd.C_drew ?_))); (case side2 => exact HC0_4.out); (case side3 => repeat (first | exact (Kd.C_below HR2.out HB.out) | (with_reducible refine Kd.C_alloc ?_ _) | (with_reducible refine Kd.C_drewN ?_ _) | (with_reducible refine Kd.C_drew ?_))); (case side4 => exact HC2.out); (case side5 => exact cap_mk apG); (case side6 => exact yK _); (case side7 => exact HG2.out); rintro e w141 ⟨rfl, hb⟩; refine ⟨_, rfl, ?_⟩; have n0_ := zA (zP (g := gb237) (o := .cells #[.int .i64 a1] 3 (0, 0)) apG hb); have n1_ := zA (zQ (by repeat (first | (with_reducible first | exact HB.out | apply zG | apply zE | apply zF | refine zH ?_ GE237.out) | exact HB.out)) hb); clear BK237; clear HB; have BK237 := n0_; have HB := n1_; clear n0_ n1_; (try clear hb); (try clear hb2); (try clear hk); (try clear hi)))
              go_ret
              exact ⟨apD, by repeat (first | (with_reducible first | exact HB.out | apply zG | apply zE | apply zF | refine zH ?_ GE237.out) | exact HB.out)⟩
             ·rw [if_neg c137] at H
              have c137b0 : ((l0_5.length : Int) == (l0_4.length : Int)) = false := beq_eq_false_iff_ne.mpr c137
              have c137b1 : ((l0_5.length : Int) != (l0_4.length : Int)) = true := bne_iff_ne.mpr c137
              have c137b2 : (l0_5.length == l0_4.length) = false := by first | simpa using c137 | (simp at c137 ⊢; omega)
              obtain rfl := yH H
              have hnb142 := NB236_237.out
              have hnc142 := NB237_236.out
              have hcz143_0 : wr.cell? ⟨gb236, 0, none⟩ = some (.int .i64 a0_0) := (zJ BK236.out 0).trans rfl
              have hcz143_1 : wr.cell? ⟨gb236, 1, none⟩ = some (.int .i64 a0_1) := (zJ BK236.out 1).trans rfl
              have hcz143_2 : wr.cell? ⟨gb236, 2, none⟩ = some (.int .i64 a0_2) := (zJ BK236.out 2).trans rfl
              have hcz143_3 : wr.cell? ⟨gb236, 3, none⟩ = some (.string a0_3) := (zJ BK236.out 3).trans rfl
              have hcz143_4 : wr.cell? ⟨gb236, 4, none⟩ = some (.slice A0_4 l0_4.length c0_4) := (zJ BK236.out 4).trans rfl
              have hcz143_5 : wr.cell? ⟨gb236, 5, none⟩ = some (.slice A0_5 l0_5.length c0_5) := (zJ BK236.out 5).trans rfl
              have hfz143_0 := zK BK236.out 0
              have hfz143_1 := zK BK236.out 1
              have hfz143_2 := zK BK236.out 2
              have hfz143_3 := zK BK236.out 3
              have hfz143_4 := zK BK236.out 4
              have hfz143_5 := zK BK236.out 5
              go_wp2
              go_ret
              exact ⟨apD, apH⟩
         ·rw [if_neg c121] at H
          have c121b0 : (a0_0 == 6) = false := beq_eq_false_iff_ne.mpr c121
          have c121b1 : (a0_0 != 6) = true := bne_iff_ne.mpr c121
          obtain rfl := yH H
          go_wp2
          go_ret
          exact ⟨apD, apH⟩

set_option maxHeartbeats 8000000 in
set_option maxRecDepth 100000 in
theorem impl_Value_36_at_valueOk_1.step (k : Nat) (ih_impl_valueOk : ∀ m, m < k → impl_valueOk.Spec m) (ih_impl_Value_36_at_valueOk_1 : ∀ m, m < k → impl_Value_36_at_valueOk_1.Spec m) (ih_impl_valueOk_1 : ∀ m, m < k → impl_valueOk_1.Spec m) (ih_impl_Value_55_at_valueOk_1 : ∀ m, m < k → impl_Value_55_at_valueOk_1.Spec m) : impl_Value_36_at_valueOk_1.Spec k := by
 intro A0 c0 l0 A2 c2 l2 A3 c3 l3 r w hr0 hc0 hr2 hc2 hr3 hc3 hg2 h
 cases k with
 | zero => exact absurd h (by simp [impl_Value_36_at_valueOk_1.f])
 | succ k =>
 simp only [impl_Value_36_at_valueOk_1.f] at h
 have HR0 := zA hr0
 have HC0 := zA hc0
 clear hr0 hc0
 have HG2 := zA hg2
 clear hg2
 have HR2 := zA hr2
 have HC2 := zA hc2
 clear hr2 hc2
 have HR3 := zA hr3
 have HC3 := zA hc3
 clear hr3 hc3
 have HB := zA (yJ w.heap.size w)
 have H : ((impl_Value_55_at_valueOk_1.f k l0 l2 l3).bind fun t244 => (some (decide (t244 ≥ 0)))) = some r := h
 clear h
 replace H := Option.bind_eq_some_iff.mp H
 obtain ⟨t244, A50, H⟩ := H
 replace H : (some (decide (t244 ≥ 0))) = some r := H
 have A5 := zA A50
 clear A50
 obtain rfl := yH H
 go_enter Tryd.func36, Tryd.ntmps36
 go_wp2_with (first | ((with_reducible refine zV (f := 55) rfl ?_); refine goesL_ (some 7) rfl rfl Tryd.func55 (by kernel_rfl) rfl #[.slice A0 l0.length c0, .func (.func 37) #[] #[.pointer A3]] rfl apE ?_; (with_reducible refine (ih_impl_Value_55_at_valueOk_1 k (by omega) _ _ l0 A2 c2 l2 A3 c3 l3 t244 _ ?side1 ?side2 ?side3 ?side4 ?side5 ?side6 ?side7 A5.out).mono ?_); (case side1 => repeat (first | exact HR0.out | (with_reducible refine Kd.C_alloc ?_ _) | (with_reducible refine Kd.C_drewN ?_ _) | (with_reducible refine Kd.C_drew ?_))); (case side2 => exact HC0.out); (case side3 => repeat (first | exact HR2.out | (with_reducible refine Kd.C_alloc ?_ _) | (with_reducible refine Kd.C_drewN ?_ _) | (with_reducible refine Kd.C_drew ?_))); (case side4 => exact HC2.out); (case side5 => repeat (first | exact HR3.out | (with_reducible refine Kd.C_alloc ?_ _) | (with_reducible refine Kd.C_drewN ?_ _) | (with_reducible refine Kd.C_drew ?_))); (case side6 => exact HC3.out); (case side7 => exact HG2.out); rintro e w6 ⟨rfl, hb⟩; refine ⟨_, rfl, ?_⟩; have n0_ := zA (zQ apA hb); clear HB; have HB := n0_; clear n0_; (try clear hb); (try clear hb2); (try clear hk); (try clear hi)))
 go_ret
 exact ⟨apD, apA⟩

set_option maxHeartbeats 8000000 in
set_option maxRecDepth 100000 in
theorem impl_valueOk_1.step (k : Nat) (ih_impl_valueOk : ∀ m, m < k → impl_valueOk.Spec m) (ih_impl_Value_36_at_valueOk_1 : ∀ m, m < k → impl_Value_36_at_valueOk_1.Spec m) (ih_impl_valueOk_1 : ∀ m, m < k → impl_valueOk_1.Spec m) (ih_impl_Value_55_at_valueOk_1 : ∀ m, m < k → impl_Value_55_at_valueOk_1.Spec m) : impl_valueOk_1.Spec k := by
 intro a0_0 a0_1 a0_2 a0_3 A0_4 c0_4 l0_4 A0_5 c0_5 l0_5 A1 c1 l1 A2 c2 l2 r w hr0_4 hc0_4 hr0_5 hc0_5 hr1 hc1 hr2 hc2 hg1 h
 cases k with
 | zero => exact absurd h (by simp [impl_valueOk_1.f])
 | succ k =>
 simp only [impl_valueOk_1.f] at h
 have hu33 := Tryd.underlying33
 have HR0_4 := zA hr0_4
 have HC0_4 := zA hc0_4
 clear hr0_4 hc0_4
 have HR0_5 := zA hr0_5
 have HC0_5 := zA hc0_5
 clear hr0_5 hc0_5
 have HG1 := zA hg1
 clear hg1
 have HR1 := zA hr1
 have HC1 := zA hc1
 clear hr1 hc1
 have HR2 := zA hr2
 have HC2 := zA hc2
 clear hr2 hc2
 have HB := zA (yJ w.heap.size w)
 have H : (if 0 < (l2.length : Int) then ((impl_valueOk.f k a0_0 a0_1 a0_2 a0_3 l0_4 l0_5 (wrap64 ((rd l2 0) - 1)) l1).bind fun t247 => (some (!t247))) else (none)) = some r := h
 clear h
 by_cases c4 : 0 < (l2.length : Int)
 ·rw [if_pos c4] at H
  have c4b0 : decide (0 < (l2.length : Int)) = true := yF c4
  have c4b1 : decide (0 < l2.length) = true := yF (by omega)
  clear c4
  replace H := Option.bind_eq_some_iff.mp H
  obtain ⟨t247, A50, H⟩ := H
  replace H : (some (!t247)) = some r := H
  have A5 := zA A50
  clear A50
  obtain rfl := yH H
  go_enter Tryd.func37, Tryd.ntmps37
  go_wp2_with (first | ((with_reducible refine zT (N := 2) rfl ?_); refine zX ?hg (N := 2) ?hd (cs := #[.int .i64 a0_0, .int .i64 a0_1, .int .i64 a0_2, .string a0_3, .slice A0_4 l0_4.length c0_4, .slice A0_5 l0_5.length c0_5]) (t := 33) ?hr ?_; (case hd => rfl); (case hg => rfl); (case hr => first | (go_simp; done) | (go_simp; rfl)); intro gb245 hg w6 hbox hb; have n0_ := zA (zQ apA hb); have n1_ := zA (hbox); have n2_ := zA ((by rw [hg]; exact (zR apA) : w.heap.size ≤ gb245)); have n3_ := zA ((by rw [hg]; exact (zR apA) : w.heap.size ≤ gb245)); clear HB; have HB := n0_; have BK245 := n1_; have GW245 := n2_; have GE245 := n3_; clear n0_ n1_ n2_ n3_; clear hb hbox hg; have hcz7_0 : w6.cell? ⟨gb245, 0, none⟩ = some (.int .i64 a0_0) := (zJ BK245.out 0).trans rfl; have hcz7_1 : w6.cell? ⟨gb245, 1, none⟩ = some (.int .i64 a0_1) := (zJ BK245.out 1).trans rfl; have hcz7_2 : w6.cell? ⟨gb245, 2, none⟩ = some (.int .i64 a0_2) := (zJ BK245.out 2).trans rfl; have hcz7_3 : w6.cell? ⟨gb245, 3, none⟩ = some (.string a0_3) := (zJ BK245.out 3).trans rfl; have hcz7_4 : w6.cell? ⟨gb245, 4, none⟩ = some (.slice A0_4 l0_4.length c0_4) := (zJ BK245.out 4).trans rfl; have hcz7_5 : w6.cell? ⟨gb245, 5, none⟩ = some (.slice A0_5 l0_5.length c0_5) := (zJ BK245.out 5).trans rfl; have hfz7_0 := zK BK245.out 0; have hfz7_1 := zK BK245.out 1; have hfz7_2 := zK BK245.out 2; have hfz7_3 := zK BK245.out 3; have hfz7_4 := zK BK245.out 4; have hfz7_5 := zK BK245.out 5; have p246 : 0 ≤ (0 : Int) := (by omega); have q246 : 0 < (l2.length : Int) := yG apC; obtain ⟨ad246, e246, hx246_0⟩ := Kd.at_int HR2.out 0 p246 q246; cases e246; have qi246 : (0 < l2.length) = True := eq_true (by omega); (try rw [show ((0 : Int)).toNat = 0 from rfl] at hx246_0); (try rw [Addr.add_zero'] at hx246_0); replace hx246_0 := (HB.out.cell (zS w _ hx246_0)).trans hx246_0; replace p246 := eq_true p246; replace q246 := eq_true q246) | ((with_reducible refine zV (f := 26) rfl ?_); refine goesL_ (some 7) rfl rfl Tryd.func26 (by kernel_rfl) rfl #[.agg #[.int .i64 a0_0, .int .i64 a0_1, .int .i64 a0_2, .string a0_3, .slice A0_4 l0_4.length c0_4, .slice A0_5 l0_5.length c0_5], .int .i64 (wrap64 ((rd l2 0) - 1))] rfl apE ?_; (with_reducible refine (ih_impl_valueOk k (by omega) a0_0 a0_1 a0_2 a0_3 _ _ l0_4 _ _ l0_5 (wrap64 ((rd l2 0) - 1)) A1 c1 l1 t247 _ ?side1 ?side2 ?side3 ?side4 ?side5 ?side6 ?side7 A5.out).mono ?_); (case side1 => repeat (first | exact (Kd.C_below HR0_4.out HB.out) | (with_reducible refine Kd.C_alloc ?_ _) | (with_reducible refine Kd.C_drewN ?_ _) | (with_reducible refine Kd.C_drew ?_))); (case side2 => exact HC0_4.out); (case side3 => repeat (first | exact (Kd.C_below HR0_5.out HB.out) | (with_reducible refine Kd.C_alloc ?_ _) | (with_reducible refine Kd.C_drewN ?_ _) | (with_reducible refine Kd.C_drew ?_))); (case side4 => exact HC0_5.out); (case side5 => repeat (first | exact (Kd.C_below HR1.out HB.out) | (with_reducible refine Kd.C_alloc ?_ _) | (with_reducible refine Kd.C_drewN ?_ _) | (with_reducible refine Kd.C_drew ?_))); (case side6 => exact HC1.out); (case side7 => exact HG1.out); rintro e w8 ⟨rfl, hb⟩; refine ⟨_, rfl, ?_⟩; have n0_ := zA (zQ apA hb); clear HB; have HB := n0_; clear n0_; (try clear hb); (try clear hb2); (try clear hk); (try clear hi)))
  go_ret
  exact ⟨apD, apA⟩
 ·rw [if_neg c4] at H
  exact absurd H (by simp)

set_option maxHeartbeats 8000000 in
set_option maxRecDepth 100000 in
theorem impl_Value_55_at_valueOk_1.step (k : Nat) (ih_impl_valueOk : ∀ m, m < k → impl_valueOk.Spec m) (ih_impl_Value_36_at_valueOk_1 : ∀ m, m < k → impl_Value_36_at_valueOk_1.Spec m) (ih_impl_valueOk_1 : ∀ m, m < k → impl_valueOk_1.Spec m) (ih_impl_Value_55_at_valueOk_1 : ∀ m, m < k → impl_Value_55_at_valueOk_1.Spec m) : impl_Value_55_at_valueOk_1.Spec k := by
 intro A0 c0 l0 A2 c2 l2 A3 c3 l3 r w hr0 hc0 hr2 hc2 hr3 hc3 hg2 h
 cases k with
 | zero => exact absurd h (by simp [impl_Value_55_at_valueOk_1.f])
 | succ k =>
 simp only [impl_Value_55_at_valueOk_1.f] at h
 have hu33 := Tryd.underlying33
 have HR0 := zA hr0
 have HC0 := zA hc0
 clear hr0 hc0
 have HG2 := zA hg2
 clear hg2
 have HR2 := zA hr2
 have HC2 := zA hc2
 clear hr2 hc2
 have HR3 := zA hr3
 have HC3 := zA hc3
 clear hr3 hc3
 have HB := zA (yJ w.heap.size w)
 have H : (impl_Value_55_at_valueOk_1.l0 k l0 (l0.length : Int) 0 l3 l2) = some r := h
 clear h
 have H' := zA H
 clear H
 go_enter Tryd.func55, Tryd.ntmps55
 go_wp2
 go_loopg [8] k (fun kq v8 w' => ∃ (x8_1 : Int), v8 = .int .i64 x8_1 ∧ Aside0 (impl_Value_55_at_valueOk_1.l0 kq l0 (l0.length : Int) x8_1 l3 l2 = some r) ∧ Aside0 (kq ≤ k) ∧ Aside0 (Below w.heap.size w w'))
 case atStart => exact ⟨(0), apB, H', ⟨yK _⟩, ⟨apA⟩⟩
 case round =>
  clear H'
  try clear c2
  try clear p2
  try clear c3
  obtain ⟨x8_1, rfl, HA, HK1, HB⟩ := hrel
  cases gk with
  | zero => exact absurd HA.out (by simp [impl_Value_55_at_valueOk_1.l0])
  | succ k1 =>
   have H := HA.out
   clear HA
   simp only [impl_Value_55_at_valueOk_1.l0] at H
   by_cases c5 : x8_1 < (l0.length : Int)
   ·rw [if_pos c5] at H
    have c5b0 : decide (x8_1 < (l0.length : Int)) = true := yF c5
    clear c5
    by_cases c6 : 0 ≤ x8_1
    ·rw [if_pos c6] at H
     have c6b0 : decide (0 ≤ x8_1) = true := yF c6
     clear c6
     by_cases c7 : x8_1 < (l0.length : Int)
     ·rw [if_pos c7] at H
      have c7b0 : decide (x8_1 < (l0.length : Int)) = true := yF c7
      clear c7
      replace H := Option.bind_eq_some_iff.mp H
      obtain ⟨t249, A80, H⟩ := H
      replace H : (if t249 = true then (some x8_1) else (impl_Value_55_at_valueOk_1.l0 k1 l0 (l0.length : Int) (wrap64 (x8_1 + 1)) l3 l2)) = some r := H
      have A8 := zA A80
      clear A80
      by_cases c9 : t249 = true
      ·subst c9
       have H1 : (some x8_1) = some r := by rw [if_pos rfl] at H; exact H
       clear H
       have H := H1
       clear H1
       obtain rfl := yH H
       have p248 : 0 ≤ (x8_1 : Int) := yG apC
       have q248 : x8_1 < (l0.length : Int) := yG apC
       obtain ⟨ad248, A248_4, c248_4, A248_5, c248_5, e248, hx248_0, hx248_1, hx248_2, hx248_3, hx248_4, hx248_5, hl248_4, hi248_4, hl248_5, hi248_5⟩ := at_T33 HR0.out x8_1 p248 q248
       cases e248
       replace hx248_0 := (HB.out.cell (zS w _ hx248_0)).trans hx248_0
       replace hx248_1 := (HB.out.cell (zS w _ hx248_1)).trans hx248_1
       replace hx248_2 := (HB.out.cell (zS w _ hx248_2)).trans hx248_2
       replace hx248_3 := (HB.out.cell (zS w _ hx248_3)).trans hx248_3
       replace hx248_4 := (HB.out.cell (zS w _ hx248_4)).trans hx248_4
       replace hx248_5 := (HB.out.cell (zS w _ hx248_5)).trans hx248_5
       have HR248_4 := zA hi248_4
       have HC248_4 := zA hl248_4
       clear hi248_4 hl248_4
       have HR248_5 := zA hi248_5
       have HC248_5 := zA hl248_5
       clear hi248_5 hl248_5
       replace p248 := eq_true p248
       replace q248 := eq_true q248
       go_wp2_with (first | ((refine gate_calleevc (f := 37) rfl rfl ?_); refine goesvcL_ (some 16) rfl rfl Tryd.func37 (by kernel_rfl) rfl #[.agg #[.int .i64 ((rd_T33 l0 x8_1).f0), .int .i64 ((rd_T33 l0 x8_1).f1.f0), .int .i64 ((rd_T33 l0 x8_1).f1.f1), .string ((rd_T33 l0 x8_1).f2), .slice A248_4 ((rd_T33 l0 x8_1).f3).length c248_4, .slice A248_5 ((rd_T33 l0 x8_1).f4).length c248_5], .pointer A3] rfl rfl apE ?_; (with_reducible refine (ih_impl_valueOk_1 k1 (by have := HK1.out; omega) ((rd_T33 l0 x8_1).f0) ((rd_T33 l0 x8_1).f1.f0) ((rd_T33 l0 x8_1).f1.f1) ((rd_T33 l0 x8_1).f2) _ _ ((rd_T33 l0 x8_1).f3) _ _ ((rd_T33 l0 x8_1).f4) A2 c2 l2 A3 c3 l3 true _ ?side1 ?side2 ?side3 ?side4 ?side5 ?side6 ?side7 ?side8 ?side9 A8.out).mono ?_); (case side1 => repeat (first | exact (Kd.C_below HR248_4.out HB.out) | (with_reducible refine Kd.C_alloc ?_ _) | (with_reducible refine Kd.C_drewN ?_ _) | (with_reducible refine Kd.C_drew ?_))); (case side2 => exact HC248_4.out); (case side3 => repeat (first | exact (Kd.C_below HR248_5.out HB.out) | (with_reducible refine Kd.C_alloc ?_ _) | (with_reducible refine Kd.C_drewN ?_ _) | (with_reducible refine Kd.C_drew ?_))); (case side4 => exact HC248_5.out); (case side5 => repeat (first | exact (Kd.C_below HR2.out HB.out) | (with_reducible refine Kd.C_alloc ?_ _) | (with_reducible refine Kd.C_drewN ?_ _) | (with_reducible refine Kd.C_drew ?_))); (case side6 => exact HC2.out); (case side7 => repeat (first | exact (Kd.C_below HR3.out HB.out) | (with_reducible refine Kd.C_alloc ?_ _) | (with_reducible refine Kd.C_drewN ?_ _) | (with_reducible refine Kd.C_drew ?_))); (case side8 => exact HC3.out); (case side9 => exact HG2.out); rintro e w10 ⟨rfl, hb⟩; refine ⟨_, rfl, ?_⟩; have n0_ := zA (zQ apA hb); clear HB; have HB := n0_; clear n0_; (try clear hb); (try clear hb2); (try clear hk); (try clear hi)))
       go_ret
       exact ⟨apD, apA⟩
      ·replace c9 := Bool.eq_false_iff.mpr c9
       subst c9
       have H1 : (impl_Value_55_at_valueOk_1.l0 k1 l0 (l0.length : Int) (wrap64 (x8_1 + 1)) l3 l2) = some r := by rw [if_neg (show ¬ (false = true) by decide)] at H; exact H
       clear H
       have H := H1
       clear H1
       have H' := zA H
       clear H
       have p248 : 0 ≤ (x8_1 : Int) := yG apC
       have q248 : x8_1 < (l0.length : Int) := yG apC
       obtain ⟨ad248, A248_4, c248_4, A248_5, c248_5, e248, hx248_0, hx248_1, hx248_2, hx248_3, hx248_4, hx248_5, hl248_4, hi248_4, hl248_5, hi248_5⟩ := at_T33 HR0.out x8_1 p248 q248
       cases e248
       replace hx248_0 := (HB.out.cell (zS w _ hx248_0)).trans hx248_0
       replace hx248_1 := (HB.out.cell (zS w _ hx248_1)).trans hx248_1
       replace hx248_2 := (HB.out.cell (zS w _ hx248_2)).trans hx248_2
       replace hx248_3 := (HB.out.cell (zS w _ hx248_3)).trans hx248_3
       replace hx248_4 := (HB.out.cell (zS w _ hx248_4)).trans hx248_4
       replace hx248_5 := (HB.out.cell (zS w _ hx248_5)).trans hx248_5
       have HR248_4 := zA hi248_4
       have HC248_4 := zA hl248_4
       clear hi248_4 hl248_4
       have HR248_5 := zA hi248_5
       have HC248_5 := zA hl248_5
       clear hi248_5 hl248_5
       replace p248 := eq_true p248
       replace q248 := eq_true q248
       go_wp2_with (first | ((refine gate_calleevc (f := 37) rfl rfl ?_); refine goesvcL_ (some 16) rfl rfl Tryd.func37 (by kernel_rfl) rfl #[.agg #[.int .i64 ((rd_T33 l0 x8_1).f0), .int .i64 ((rd_T33 l0 x8_1).f1.f0), .int .i64 ((rd_T33 l0 x8_1).f1.f1), .string ((rd_T33 l0 x8_1).f2), .slice A248_4 ((rd_T33 l0 x8_1).f3).length c248_4, .slice A248_5 ((rd_T33 l0 x8_1).f4).length c248_5], .pointer A3] rfl rfl apE ?_; (with_reducible refine (ih_impl_valueOk_1 k1 (by have := HK1.out; omega) ((rd_T33 l0 x8_1).f0) ((rd_T33 l0 x8_1).f1.f0) ((rd_T33 l0 x8_1).f1.f1) ((rd_T33 l0 x8_1).f2) _ _ ((rd_T33 l0 x8_1).f3) _ _ ((rd_T33 l0 x8_1).f4) A2 c2 l2 A3 c3 l3 false _ ?side1 ?side2 ?side3 ?side4 ?side5 ?side6 ?side7 ?side8 ?side9 A8.out).mono ?_); (case side1 => repeat (first | exact (Kd.C_below HR248_4.out HB.out) | (with_reducible refine Kd.C_alloc ?_ _) | (with_reducible refine Kd.C_drewN ?_ _) | (with_reducible refine Kd.C_drew ?_))); (case side2 => exact HC248_4.out); (case side3 => repeat (first | exact (Kd.C_below HR248_5.out HB.out) | (with_reducible refine Kd.C_alloc ?_ _) | (with_reducible refine Kd.C_drewN ?_ _) | (with_reducible refine Kd.C_drew ?_))); (case side4 => exact HC248_5.out); (case side5 => repeat (first | exact (Kd.C_below HR2.out HB.out) | (with_reducible refine Kd.C_alloc ?_ _) | (with_reducible refine Kd.C_drewN ?_ _) | (with_reducible refine Kd.C_drew ?_))); (case side6 => exact HC2.out); (case side7 => repeat (first | exact (Kd.C_below HR3.out HB.out) | (with_reducible refine Kd.C_alloc ?_ _) | (with_reducible refine Kd.C_drewN ?_ _) | (with_reducible refine Kd.C_drew ?_))); (case side8 => exact HC3.out); (case side9 => exact HG2.out); rintro e w11 ⟨rfl, hb⟩; refine ⟨_, rfl, ?_⟩; have n0_ := zA (zQ apA hb); clear HB; have HB := n0_; clear n0_; (try clear hb); (try clear hb2); (try clear hk); (try clear hi)))
       go_roundg k1
       case measure => have := HK1.out; omega
       case rel => exact ⟨(wrap64 (x8_1 + 1)), apB, H', ⟨by have := HK1.out; omega⟩, ⟨apA⟩⟩
     ·rw [if_neg c7] at H
      exact absurd H (by simp)
    ·rw [if_neg c6] at H
     exact absurd H (by simp)
   ·rw [if_neg c5] at H
    have c5b0 : decide (x8_1 < (l0.length : Int)) = false := decide_eq_false c5
    clear c5
    obtain rfl := yH H
    go_wp2
    go_ret
    exact ⟨apD, apA⟩

theorem impl_valueOk.G.all (k : Nat) : impl_valueOk.Spec k ∧ impl_Value_36_at_valueOk_1.Spec k ∧ impl_valueOk_1.Spec k ∧ impl_Value_55_at_valueOk_1.Spec k := by
 induction k using Nat.strongRecOn with
 | _ k ih =>
  exact ⟨impl_valueOk.step k (fun m hm => (ih m hm).1) (fun m hm => (ih m hm).2.1) (fun m hm => (ih m hm).2.2.1) (fun m hm => (ih m hm).2.2.2), impl_Value_36_at_valueOk_1.step k (fun m hm => (ih m hm).1) (fun m hm => (ih m hm).2.1) (fun m hm => (ih m hm).2.2.1) (fun m hm => (ih m hm).2.2.2), impl_valueOk_1.step k (fun m hm => (ih m hm).1) (fun m hm => (ih m hm).2.1) (fun m hm => (ih m hm).2.2.1) (fun m hm => (ih m hm).2.2.2), impl_Value_55_at_valueOk_1.step k (fun m hm => (ih m hm).1) (fun m hm => (ih m hm).2.1) (fun m hm => (ih m hm).2.2.1) (fun m hm => (ih m hm).2.2.2)⟩
theorem impl_valueOk.calls (k : Nat) : impl_valueOk.Spec k := (impl_valueOk.G.all k).1
theorem impl_Value_36_at_valueOk_1.calls (k : Nat) : impl_Value_36_at_valueOk_1.Spec k := (impl_valueOk.G.all k).2.1
theorem impl_valueOk_1.calls (k : Nat) : impl_valueOk_1.Spec k := (impl_valueOk.G.all k).2.2.1
theorem impl_Value_55_at_valueOk_1.calls (k : Nat) : impl_Value_55_at_valueOk_1.Spec k := (impl_valueOk.G.all k).2.2.2

end Go.Proofs.YtihepjjjdjemfaaDoor.Q

namespace Go.Proofs.YtihepjjjdjemfaaDoor.Q
open Go.RowKit Go.Proofs.YtihepjjjdjemfaaDoorW.PrintWords Go.Proofs.YtihepjjjdjemfaaDoorW.PrintLast Go.Proofs.YtihepjjjdjemfaaDoorW.PrintMore Go.Proofs.YtihepjjjdjemfaaDoorX
attribute [local go_sem] max2_int min2_int max_two min_two max_three min_three max_four min_four   -- for this text's walks alone
set_option linter.unusedVariables false
set_option linter.unusedSimpArgs false

def impl_ValueOk.f (k : Nat) (a0_0 : Int) (a0_1 : Int) (a0_2 : Int) (a0_3 : ByteArray) (l0_4 : List (S33)) (l0_5 : List ByteArray) (l1 : List (List ByteArray)) : Option (Bool) := (impl_valueOk.f k a0_0 a0_1 a0_2 a0_3 l0_4 l0_5 20 l1).bind fun t255 => (if t255 = true then ((impl_ValueSize.f k a0_0 a0_1 a0_2 a0_3 l0_4 l0_5).bind fun t256 => (some (decide (t256 ≤ 200)))) else (some false))
theorem impl_ValueOk.mono : ∀ a0 a1 a2 a3 a4 a5 a6 k, LeO (impl_ValueOk.f k a0 a1 a2 a3 a4 a5 a6) (impl_ValueOk.f (k + 1) a0 a1 a2 a3 a4 a5 a6) := by
 intro a0 a1 a2 a3 a4 a5 a6 k
 unfold impl_ValueOk.f
 repeat' first
   | (with_reducible exact impl_ValueSize.mono _ _ _ _ _ _ _)
   | (with_reducible exact impl_valueOk.mono _ _ _ _ _ _ _ _ _)
   | (with_reducible exact LeO.refl _)
   | (with_reducible exact LeO.none _)
   | (with_reducible refine LeO.ite ?_ ?_)
   | (with_reducible refine LeO.bind ?_ (fun _ => ?_))
set_option maxHeartbeats 8000000 in
set_option maxRecDepth 100000 in
theorem impl_ValueOk.calls (k : Nat) (a0_0 : Int) (a0_1 : Int) (a0_2 : Int) (a0_3 : ByteArray) (A0_4 : Option Addr) (c0_4 : Nat) (l0_4 : List (S33)) (A0_5 : Option Addr) (c0_5 : Nat) (l0_5 : List ByteArray) (A1 : Option Addr) (c1 : Nat) (l1 : List (List ByteArray)) (r : Bool) (w : World) (hr0_4 : Kd.C k33 w A0_4 l0_4.length l0_4) (hc0_4 : l0_4.length ≤ c0_4) (hr0_5 : Kd.C Kd.string w A0_5 l0_5.length l0_5) (hc0_5 : l0_5.length ≤ c0_5) (hr1 : Kd.C (Kd.slice 9 Kd.string) w A1 l1.length l1) (hc1 : l1.length ≤ c1) (hg1 : A1 = some ⟨0, 0, none⟩) (h : impl_ValueOk.f k a0_0 a0_1 a0_2 a0_3 l0_4 l0_5 l1 = some r) :
  Calls Tryd.prog 16 #[.agg #[.int .i64 a0_0, .int .i64 a0_1, .int .i64 a0_2, .string a0_3, .slice A0_4 l0_4.length c0_4, .slice A0_5 l0_5.length c0_5]] w fun e w' => e = .returned (.bool r) ∧ Below w.heap.size w w' := by
 have hu33 := Tryd.underlying33
 have HR0_4 := zA hr0_4
 have HC0_4 := zA hc0_4
 clear hr0_4 hc0_4
 have HR0_5 := zA hr0_5
 have HC0_5 := zA hc0_5
 clear hr0_5 hc0_5
 have HG1 := zA hg1
 clear hg1
 have HR1 := zA hr1
 have HC1 := zA hc1
 clear hr1 hc1
 have HB := zA (yJ w.heap.size w)
 have H : ((impl_valueOk.f k a0_0 a0_1 a0_2 a0_3 l0_4 l0_5 20 l1).bind fun t255 => (if t255 = true then ((impl_ValueSize.f k a0_0 a0_1 a0_2 a0_3 l0_4 l0_5).bind fun t256 => (some (decide (t256 ≤ 200)))) else (some false))) = some r := h
 clear h
 replace H := Option.bind_eq_some_iff.mp H
 obtain ⟨t255, A30, H⟩ := H
 replace H : (if t255 = true then ((impl_ValueSize.f k a0_0 a0_1 a0_2 a0_3 l0_4 l0_5).bind fun t256 => (some (decide (t256 ≤ 200)))) else (some false)) = some r := H
 have A3 := zA A30
 clear A30
 by_cases c4 : t255 = true
 ·subst c4
  have H1 : ((impl_ValueSize.f k a0_0 a0_1 a0_2 a0_3 l0_4 l0_5).bind fun t256 => (some (decide (t256 ≤ 200)))) = some r := by rw [if_pos rfl] at H; exact H
  clear H
  have H := H1
  clear H1
  replace H := Option.bind_eq_some_iff.mp H
  obtain ⟨t256, A50, H⟩ := H
  replace H : (some (decide (t256 ≤ 200))) = some r := H
  have A5 := zA A50
  clear A50
  obtain rfl := yH H
  go_enter Tryd.func16, Tryd.ntmps16
  go_wp2_with (first | ((with_reducible refine zT (N := 1) rfl ?_); refine zX ?hg (N := 1) ?hd (cs := #[.int .i64 a0_0, .int .i64 a0_1, .int .i64 a0_2, .string a0_3, .slice A0_4 l0_4.length c0_4, .slice A0_5 l0_5.length c0_5]) (t := 33) ?hr ?_; (case hd => rfl); (case hg => rfl); (case hr => first | (go_simp; done) | (go_simp; rfl)); intro gb254 hg w6 hbox hb; have n0_ := zA (zQ apA hb); have n1_ := zA (hbox); have n2_ := zA ((by rw [hg]; exact (zR apA) : w.heap.size ≤ gb254)); have n3_ := zA ((by rw [hg]; exact (zR apA) : w.heap.size ≤ gb254)); clear HB; have HB := n0_; have BK254 := n1_; have GW254 := n2_; have GE254 := n3_; clear n0_ n1_ n2_ n3_; clear hb hbox hg; have hcz7_0 : w6.cell? ⟨gb254, 0, none⟩ = some (.int .i64 a0_0) := (zJ BK254.out 0).trans rfl; have hcz7_1 : w6.cell? ⟨gb254, 1, none⟩ = some (.int .i64 a0_1) := (zJ BK254.out 1).trans rfl; have hcz7_2 : w6.cell? ⟨gb254, 2, none⟩ = some (.int .i64 a0_2) := (zJ BK254.out 2).trans rfl; have hcz7_3 : w6.cell? ⟨gb254, 3, none⟩ = some (.string a0_3) := (zJ BK254.out 3).trans rfl; have hcz7_4 : w6.cell? ⟨gb254, 4, none⟩ = some (.slice A0_4 l0_4.length c0_4) := (zJ BK254.out 4).trans rfl; have hcz7_5 : w6.cell? ⟨gb254, 5, none⟩ = some (.slice A0_5 l0_5.length c0_5) := (zJ BK254.out 5).trans rfl; have hfz7_0 := zK BK254.out 0; have hfz7_1 := zK BK254.out 1; have hfz7_2 := zK BK254.out 2; have hfz7_3 := zK BK254.out 3; have hfz7_4 := zK BK254.out 4; have hfz7_5 := zK BK254.out 5) | ((with_reducible refine zV (f := 26) rfl ?_); refine goesL_ (some 4) rfl rfl Tryd.func26 (by kernel_rfl) rfl #[.agg #[.int .i64 a0_0, .int .i64 a0_1, .int .i64 a0_2, .string a0_3, .slice A0_4 l0_4.length c0_4, .slice A0_5 l0_5.length c0_5], .int .i64 20] rfl apE ?_; (with_reducible refine (impl_valueOk.calls k a0_0 a0_1 a0_2 a0_3 _ _ l0_4 _ _ l0_5 20 A1 c1 l1 true _ ?side1 ?side2 ?side3 ?side4 ?side5 ?side6 ?side7 A3.out).mono ?_); (case side1 => repeat (first | exact (Kd.C_below HR0_4.out HB.out) | (with_reducible refine Kd.C_alloc ?_ _) | (with_reducible refine Kd.C_drewN ?_ _) | (with_reducible refine Kd.C_drew ?_))); (case side2 => exact HC0_4.out); (case side3 => repeat (first | exact (Kd.C_below HR0_5.out HB.out) | (with_reducible refine Kd.C_alloc ?_ _) | (with_reducible refine Kd.C_drewN ?_ _) | (with_reducible refine Kd.C_drew ?_))); (case side4 => exact HC0_5.out); (case side5 => repeat (first | exact (Kd.C_below HR1.out HB.out) | (with_reducible refine Kd.C_alloc ?_ _) | (with_reducible refine Kd.C_drewN ?_ _) | (with_reducible refine Kd.C_drew ?_))); (case side6 => exact HC1.out); (case side7 => exact HG1.out); rintro e w8 ⟨rfl, hb⟩; refine ⟨_, rfl, ?_⟩; have n0_ := zA (zP (g := gb254) (o := .cells #[.int .i64 a0_0, .int .i64 a0_1, .int .i64 a0_2, .string a0_3, .slice A0_4 l0_4.length c0_4, .slice A0_5 l0_5.length c0_5] 33 (0, 0)) (by (with_reducible repeat (first | refine zB ?_ _ | refine zD ?_ | refine zC ?_ _)); exact BK254.out) hb); have n1_ := zA (zQ (by repeat (first | (with_reducible first | exact HB.out | apply zG | apply zE | apply zF | refine zH ?_ GE254.out) | exact HB.out)) hb); clear BK254; clear HB; have BK254 := n0_; have HB := n1_; clear n0_ n1_; (try clear hb); (try clear hb2); (try clear hk); (try clear hi); have hcz9_0 : w8.cell? ⟨gb254, 0, none⟩ = some (.int .i64 a0_0) := (zJ BK254.out 0).trans rfl; have hcz9_1 : w8.cell? ⟨gb254, 1, none⟩ = some (.int .i64 a0_1) := (zJ BK254.out 1).trans rfl; have hcz9_2 : w8.cell? ⟨gb254, 2, none⟩ = some (.int .i64 a0_2) := (zJ BK254.out 2).trans rfl; have hcz9_3 : w8.cell? ⟨gb254, 3, none⟩ = some (.string a0_3) := (zJ BK254.out 3).trans rfl; have hcz9_4 : w8.cell? ⟨gb254, 4, none⟩ = some (.slice A0_4 l0_4.length c0_4) := (zJ BK254.out 4).trans rfl; have hcz9_5 : w8.cell? ⟨gb254, 5, none⟩ = some (.slice A0_5 l0_5.length c0_5) := (zJ BK254.out 5).trans rfl; have hfz9_0 := zK BK254.out 0; have hfz9_1 := zK BK254.out 1; have hfz9_2 := zK BK254.out 2; have hfz9_3 := zK BK254.out 3; have hfz9_4 := zK BK254.out 4; have hfz9_5 := zK BK254.out 5) | (go_at_call 27; (with_reducible refine (impl_ValueSize.calls k a0_0 a0_1 a0_2 a0_3 _ _ l0_4 _ _ l0_5 t256 _ ?side1 ?side2 ?side3 ?side4 A5.out).mono ?_); (case side1 => repeat (first | exact (Kd.C_below HR0_4.out HB.out) | (with_reducible refine Kd.C_alloc ?_ _) | (with_reducible refine Kd.C_drewN ?_ _) | (with_reducible refine Kd.C_drew ?_))); (case side2 => exact HC0_4.out); (case side3 => repeat (first | exact (Kd.C_below HR0_5.out HB.out) | (with_reducible refine Kd.C_alloc ?_ _) | (with_reducible refine Kd.C_drewN ?_ _) | (with_reducible refine Kd.C_drew ?_))); (case side4 => exact HC0_5.out); rintro e w10 ⟨rfl, hb⟩; have n0_ := zA (zQ apA hb); clear HB; have HB := n0_; clear n0_; (try clear hb); (try clear hb2); (try clear hk); (try clear hi)))
  go_ret
  exact ⟨apD, apA⟩
 ·replace c4 := Bool.eq_false_iff.mpr c4
  subst c4
  have H1 : (some false) = some r := by rw [if_neg (show ¬ (false = true) by decide)] at H; exact H
  clear H
  have H := H1
  clear H1
  obtain rfl := yH H
  go_enter Tryd.func16, Tryd.ntmps16
  go_wp2_with (first | ((with_reducible refine zT (N := 1) rfl ?_); refine zX ?hg (N := 1) ?hd (cs := #[.int .i64 a0_0, .int .i64 a0_1, .int .i64 a0_2, .string a0_3, .slice A0_4 l0_4.length c0_4, .slice A0_5 l0_5.length c0_5]) (t := 33) ?hr ?_; (case hd => rfl); (case hg => rfl); (case hr => first | (go_simp; done) | (go_simp; rfl)); intro gb254 hg w11 hbox hb; have n0_ := zA (zQ apA hb); have n1_ := zA (hbox); have n2_ := zA ((by rw [hg]; exact (zR apA) : w.heap.size ≤ gb254)); have n3_ := zA ((by rw [hg]; exact (zR apA) : w.heap.size ≤ gb254)); clear HB; have HB := n0_; have BK254 := n1_; have GW254 := n2_; have GE254 := n3_; clear n0_ n1_ n2_ n3_; clear hb hbox hg; have hcz12_0 : w11.cell? ⟨gb254, 0, none⟩ = some (.int .i64 a0_0) := (zJ BK254.out 0).trans rfl; have hcz12_1 : w11.cell? ⟨gb254, 1, none⟩ = some (.int .i64 a0_1) := (zJ BK254.out 1).trans rfl; have hcz12_2 : w11.cell? ⟨gb254, 2, none⟩ = some (.int .i64 a0_2) := (zJ BK254.out 2).trans rfl; have hcz12_3 : w11.cell? ⟨gb254, 3, none⟩ = some (.string a0_3) := (zJ BK254.out 3).trans rfl; have hcz12_4 : w11.cell? ⟨gb254, 4, none⟩ = some (.slice A0_4 l0_4.length c0_4) := (zJ BK254.out 4).trans rfl; have hcz12_5 : w11.cell? ⟨gb254, 5, none⟩ = some (.slice A0_5 l0_5.length c0_5) := (zJ BK254.out 5).trans rfl; have hfz12_0 := zK BK254.out 0; have hfz12_1 := zK BK254.out 1; have hfz12_2 := zK BK254.out 2; have hfz12_3 := zK BK254.out 3; have hfz12_4 := zK BK254.out 4; have hfz12_5 := zK BK254.out 5) | ((with_reducible refine zV (f := 26) rfl ?_); refine goesL_ (some 4) rfl rfl Tryd.func26 (by kernel_rfl) rfl #[.agg #[.int .i64 a0_0, .int .i64 a0_1, .int .i64 a0_2, .string a0_3, .slice A0_4 l0_4.length c0_4, .slice A0_5 l0_5.length c0_5], .int .i64 20] rfl apE ?_; (with_reducible refine (impl_valueOk.calls k a0_0 a0_1 a0_2 a0_3 _ _ l0_4 _ _ l0_5 20 A1 c1 l1 false _ ?side1 ?side2 ?side3 ?side4 ?side5 ?side6 ?side7 A3.out).mono ?_); (case side1 => repeat (first | exact (Kd.C_below HR0_4.out HB.out) | (with_reducible refine Kd.C_alloc ?_ _) | (with_reducible refine Kd.C_drewN ?_ _) | (with_reducible refine Kd.C_drew ?_))); (case side2 => exact HC0_4.out); (case side3 => repeat (first | exact (Kd.C_below HR0_5.out HB.out) | (with_reducible refine Kd.C_alloc ?_ _) | (with_reducible refine Kd.C_drewN ?_ _) | (with_reducible refine Kd.C_drew ?_))); (case side4 => exact HC0_5.out); (case side5 => repeat (first | exact (Kd.C_below HR1.out HB.out) | (with_reducible refine Kd.C_alloc ?_ _) | (with_reducible refine Kd.C_drewN ?_ _) | (with_reducible refine Kd.C_drew ?_))); (case side6 => exact HC1.out); (case side7 => exact HG1.out); rintro e w13 ⟨rfl, hb⟩; refine ⟨_, rfl, ?_⟩; have n0_ := zA (zQ apA hb); clear HB; have HB := n0_; clear n0_; (try clear hb); (try clear hb2); (try clear hk); (try clear hi)))
  go_ret
  exact ⟨apD, apA⟩


def impl_size.f (a0 : Int) : Option (Int) := some (mx a0 (wrap64 (-a0)))
set_option maxHeartbeats 8000000 in
set_option maxRecDepth 100000 in
theorem impl_size.calls (a0 : Int) (r : Int) (w : World) (h : impl_size.f a0 = some r) :
  Calls Tryd.prog 39 #[.int .i64 a0] w fun e w' => e = .returned (.int .i64 r) ∧ Below w.heap.size w w' := by
 have HB := zA (yJ w.heap.size w)
 have H : (some (mx a0 (wrap64 (-a0)))) = some r := h
 clear h
 obtain ⟨ji2, hji2⟩ : ∃ j_ : Int, (mx a0 (wrap64 (-a0))) = j_ := ⟨_, rfl⟩
 replace H : (some ji2) = some r := by first | (rw [hji2] at H; exact H) | (simp only [hji2] at H ⊢; exact H)
 have hji2_ : (if a0 < (wrap64 (-a0)) then (wrap64 (-a0)) else a0) = ji2 := hji2
 obtain rfl := yH H
 go_enter Tryd.func39, Tryd.ntmps39
 go_wp2
 go_ret
 exact ⟨by first | rfl | (simp [errW_none, errW_some] <;> rfl) | (simp only [← hji2]; first | rfl | (simp [errW_none, errW_some] <;> rfl)) | (simp [*, errW_none, errW_some] <;> rfl), apA⟩


def strings_Repeat.f (a0 : ByteArray) (a1 : Int) : Option (ByteArray) := if 0 ≤ a1 ∧ a1 ≤ 9223372036854775807 ∧ a0.size * a1.toNat ≤ 140737488355328 then some (⟨(Lib.repeatL a0.data.toList a1.toNat).toArray⟩) else none
theorem strings_Repeat.calls (a0 : ByteArray) (a1 : Int) (r : ByteArray) (w : World) (h : strings_Repeat.f a0 a1 = some r) :
  Calls Tryd.prog 40 #[.string a0, .int .i64 a1] w fun e w' => e = .returned (.string r) ∧ Below w.heap.size w w' := by
 unfold strings_Repeat.f at h
 split at h
 ·rename_i hh
  have h2 := yH h
  subst h2
  obtain ⟨c, rfl⟩ := Int.eq_ofNat_of_zero_le hh.1
  simp only [Int.toNat_natCast] at hh ⊢
  refine (Tryd.strings_Repeat a0 c w (by omega) hh.2.2).mono ?_
  rintro e w' ⟨rfl, hb⟩
  exact ⟨rfl, hb⟩
 ·cases h

end Go.Proofs.YtihepjjjdjemfaaDoor.Q

namespace Go.Proofs.YtihepjjjdjemfaaDoor.Q
open Go.RowKit Go.Proofs.YtihepjjjdjemfaaDoorW.PrintWords Go.Proofs.YtihepjjjdjemfaaDoorW.PrintLast Go.Proofs.YtihepjjjdjemfaaDoorW.PrintMore Go.Proofs.YtihepjjjdjemfaaDoorX
attribute [local go_sem] max2_int min2_int max_two min_two max_three min_three max_four min_four   -- for this text's walks alone
set_option linter.unusedVariables false
set_option linter.unusedSimpArgs false

attribute [-simp] ByteArray.size_extract
def impl_DecText.j0 : Nat → ByteArray → ByteArray → Int → Int → Option (ByteArray)
 | 0, _, _, _, _ => none
 | k + 1, x3, x4, x258000, x258001 => if x258001 ≥ 0 then (if x4.size + x3.size ≤ 9223372036854775807 then ((strings_Repeat.f (⟨#[48]⟩ : ByteArray) x258001).bind fun t261 => (if (x4 ++ x3).size + t261.size ≤ 9223372036854775807 then (some ((x4 ++ x3) ++ t261)) else (none))) else (none)) else (if (wrap64 ((wrap64 (-x258001)) - (x3.size : Int))) ≥ 0 then ((strings_Repeat.f (⟨#[48]⟩ : ByteArray) (wrap64 ((wrap64 ((wrap64 (-x258001)) - (x3.size : Int))) + 1))).bind fun t262 => (if t262.size + x3.size ≤ 9223372036854775807 then (if 0 ≤ (wrap64 (((t262 ++ x3).size : Int) + x258001)) then (if (wrap64 (((t262 ++ x3).size : Int) + x258001)) ≤ ((t262 ++ x3).size : Int) then (if x4.size + ((t262 ++ x3).extract 0 ((wrap64 (((t262 ++ x3).size : Int) + x258001)) : Int).toNat).size ≤ 9223372036854775807 then (if (x4 ++ ((t262 ++ x3).extract 0 ((wrap64 (((t262 ++ x3).size : Int) + x258001)) : Int).toNat)).size + 1 ≤ 9223372036854775807 then (if ((x4 ++ ((t262 ++ x3).extract 0 ((wrap64 (((t262 ++ x3).size : Int) + x258001)) : Int).toNat)) ++ (⟨#[46]⟩ : ByteArray)).size + ((t262 ++ x3).extract ((wrap64 (((t262 ++ x3).size : Int) + x258001)) : Int).toNat (t262 ++ x3).size).size ≤ 9223372036854775807 then (some (((x4 ++ ((t262 ++ x3).extract 0 ((wrap64 (((t262 ++ x3).size : Int) + x258001)) : Int).toNat)) ++ (⟨#[46]⟩ : ByteArray)) ++ ((t262 ++ x3).extract ((wrap64 (((t262 ++ x3).size : Int) + x258001)) : Int).toNat (t262 ++ x3).size))) else (none)) else (none)) else (none)) else (none)) else (none)) else (none))) else (if 0 ≤ (wrap64 ((x3.size : Int) + x258001)) then (if (wrap64 ((x3.size : Int) + x258001)) ≤ (x3.size : Int) then (if x4.size + (x3.extract 0 ((wrap64 ((x3.size : Int) + x258001)) : Int).toNat).size ≤ 9223372036854775807 then (if (x4 ++ (x3.extract 0 ((wrap64 ((x3.size : Int) + x258001)) : Int).toNat)).size + 1 ≤ 9223372036854775807 then (if ((x4 ++ (x3.extract 0 ((wrap64 ((x3.size : Int) + x258001)) : Int).toNat)) ++ (⟨#[46]⟩ : ByteArray)).size + (x3.extract ((wrap64 ((x3.size : Int) + x258001)) : Int).toNat x3.size).size ≤ 9223372036854775807 then (some (((x4 ++ (x3.extract 0 ((wrap64 ((x3.size : Int) + x258001)) : Int).toNat)) ++ (⟨#[46]⟩ : ByteArray)) ++ (x3.extract ((wrap64 ((x3.size : Int) + x258001)) : Int).toNat x3.size))) else (none)) else (none)) else (none)) else (none)) else (none)))
def impl_DecText.f (k : Nat) (a0_0 : Int) (a0_1 : Int) (l1 : List Int) : Option (ByteArray) := (impl_DecOk.f a0_0 a0_1).bind fun t258 => (if t258 = true then ((impl_size.f a0_0).bind fun t259 => ((strconv_Itoa.f t259 l1).bind fun t260 => (if a0_0 < 0 then (impl_DecText.j0 k t260 (⟨#[45]⟩ : ByteArray) a0_0 a0_1) else (impl_DecText.j0 k t260 (⟨#[]⟩ : ByteArray) a0_0 a0_1)))) else (some (⟨#[]⟩ : ByteArray)))
theorem impl_DecText.mono_l : ∀ k, (∀ y0 y1 y2 y3, LeO (impl_DecText.j0 k y0 y1 y2 y3) (impl_DecText.j0 (k + 1) y0 y1 y2 y3))
 | 0 => fun _ _ _ _ r h => by simp [impl_DecText.j0] at h
 | k + 1 => by
  have ih0 := impl_DecText.mono_l k
  ·intro y0 y1 y2 y3
   unfold impl_DecText.j0
   repeat' first
   | (with_reducible exact ih0 _ _ _ _)
   | (with_reducible exact LeO.refl _)
   | (with_reducible exact LeO.none _)
   | (with_reducible refine LeO.ite ?_ ?_)
   | (with_reducible refine LeO.bind ?_ (fun _ => ?_))
   | exact ih0 _ _ _ _
theorem impl_DecText.mono : ∀ a0 a1 a2 k, LeO (impl_DecText.f k a0 a1 a2) (impl_DecText.f (k + 1) a0 a1 a2) := by
 intro a0 a1 a2 k
 have ih0 := impl_DecText.mono_l k
 unfold impl_DecText.f
 repeat' first
   | (with_reducible exact ih0 _ _ _ _)
   | (with_reducible exact LeO.refl _)
   | (with_reducible exact LeO.none _)
   | (with_reducible refine LeO.ite ?_ ?_)
   | (with_reducible refine LeO.bind ?_ (fun _ => ?_))
   | exact ih0 _ _ _ _
set_option maxHeartbeats 8000000 in
set_option maxRecDepth 100000 in
theorem impl_DecText.calls (k : Nat) (a0_0 : Int) (a0_1 : Int) (A1 : Option Addr) (c1 : Nat) (l1 : List Int) (r : ByteArray) (w : World) (hr1 : Kd.C kPow w A1 l1.length l1) (hc1 : l1.length ≤ c1) (hg1 : A1 = some ⟨2, 0, none⟩ ∧ l1 = [1]) (h : impl_DecText.f k a0_0 a0_1 l1 = some r) :
  Calls Tryd.prog 28 #[.agg #[.int .i64 a0_0, .int .i64 a0_1]] w fun e w' => e = .returned (.string r) ∧ Below w.heap.size w w' := by
 have hu30 := Tryd.underlying30
 have HG1 := zA hg1
 clear hg1
 have HR1 := zA hr1
 have HC1 := zA hc1
 clear hr1 hc1
 have HB := zA (yJ w.heap.size w)
 have H : ((impl_DecOk.f a0_0 a0_1).bind fun t258 => (if t258 = true then ((impl_size.f a0_0).bind fun t259 => ((strconv_Itoa.f t259 l1).bind fun t260 => (if a0_0 < 0 then (impl_DecText.j0 k t260 (⟨#[45]⟩ : ByteArray) a0_0 a0_1) else (impl_DecText.j0 k t260 (⟨#[]⟩ : ByteArray) a0_0 a0_1)))) else (some (⟨#[]⟩ : ByteArray)))) = some r := h
 clear h
 replace H := Option.bind_eq_some_iff.mp H
 obtain ⟨t258, A30, H⟩ := H
 replace H : (if t258 = true then ((impl_size.f a0_0).bind fun t259 => ((strconv_Itoa.f t259 l1).bind fun t260 => (if a0_0 < 0 then (impl_DecText.j0 k t260 (⟨#[45]⟩ : ByteArray) a0_0 a0_1) else (impl_DecText.j0 k t260 (⟨#[]⟩ : ByteArray) a0_0 a0_1)))) else (some (⟨#[]⟩ : ByteArray))) = some r := H
 have A3 := zA A30
 clear A30
 by_cases c4 : t258 = true
 ·subst c4
  have H1 : ((impl_size.f a0_0).bind fun t259 => ((strconv_Itoa.f t259 l1).bind fun t260 => (if a0_0 < 0 then (impl_DecText.j0 k t260 (⟨#[45]⟩ : ByteArray) a0_0 a0_1) else (impl_DecText.j0 k t260 (⟨#[]⟩ : ByteArray) a0_0 a0_1)))) = some r := by rw [if_pos rfl] at H; exact H
  clear H
  have H := H1
  clear H1
  replace H := Option.bind_eq_some_iff.mp H
  obtain ⟨t259, A50, H⟩ := H
  replace H : ((strconv_Itoa.f t259 l1).bind fun t260 => (if a0_0 < 0 then (impl_DecText.j0 k t260 (⟨#[45]⟩ : ByteArray) a0_0 a0_1) else (impl_DecText.j0 k t260 (⟨#[]⟩ : ByteArray) a0_0 a0_1))) = some r := H
  have A5 := zA A50
  clear A50
  replace H := Option.bind_eq_some_iff.mp H
  obtain ⟨t260, A60, H⟩ := H
  replace H : (if a0_0 < 0 then (impl_DecText.j0 k t260 (⟨#[45]⟩ : ByteArray) a0_0 a0_1) else (impl_DecText.j0 k t260 (⟨#[]⟩ : ByteArray) a0_0 a0_1)) = some r := H
  have A6 := zA A60
  clear A60
  have HC7 := zA H
  clear H
  go_enter Tryd.func28, Tryd.ntmps28
  go_upto_if 16 with (first | ((with_reducible refine zT (N := 1) rfl ?_); refine zX ?hg (N := 1) ?hd (cs := #[.int .i64 a0_0, .int .i64 a0_1]) (t := 30) ?hr ?_; (case hd => rfl); (case hg => rfl); (case hr => first | (go_simp; done) | (go_simp; rfl)); intro gb257 hg w8 hbox hb; have n0_ := zA (zQ apA hb); have n1_ := zA (hbox); have n2_ := zA ((by rw [hg]; exact (zR apA) : w.heap.size ≤ gb257)); have n3_ := zA ((by rw [hg]; exact (zR apA) : w.heap.size ≤ gb257)); clear HB; have HB := n0_; have BK257 := n1_; have GW257 := n2_; have GE257 := n3_; clear n0_ n1_ n2_ n3_; clear hb hbox hg; have hcz9_0 : w8.cell? ⟨gb257, 0, none⟩ = some (.int .i64 a0_0) := (zJ BK257.out 0).trans rfl; have hcz9_1 : w8.cell? ⟨gb257, 1, none⟩ = some (.int .i64 a0_1) := (zJ BK257.out 1).trans rfl; have hfz9_0 := zK BK257.out 0; have hfz9_1 := zK BK257.out 1) | (go_at_call 34; (with_reducible refine (impl_DecOk.calls a0_0 a0_1 true _ A3.out).mono ?_); rintro e w10 ⟨rfl, hb⟩; have n0_ := zA (zP (g := gb257) (o := .cells #[.int .i64 a0_0, .int .i64 a0_1] 30 (0, 0)) apP hb); have n1_ := zA (zQ apO hb); clear BK257; clear HB; have BK257 := n0_; have HB := n1_; clear n0_ n1_; (try clear hb); (try clear hb2); (try clear hk); (try clear hi); have hcz11_0 : w10.cell? ⟨gb257, 0, none⟩ = some (.int .i64 a0_0) := (zJ BK257.out 0).trans rfl; have hcz11_1 : w10.cell? ⟨gb257, 1, none⟩ = some (.int .i64 a0_1) := (zJ BK257.out 1).trans rfl; have hfz11_0 := zK BK257.out 0; have hfz11_1 := zK BK257.out 1) | (go_at_call 39; (with_reducible refine (impl_size.calls a0_0 t259 _ A5.out).mono ?_); rintro e w12 ⟨rfl, hb⟩; have n0_ := zA (zP (g := gb257) (o := .cells #[.int .i64 a0_0, .int .i64 a0_1] 30 (0, 0)) apP hb); have n1_ := zA (zQ apO hb); clear BK257; clear HB; have BK257 := n0_; have HB := n1_; clear n0_ n1_; (try clear hb); (try clear hb2); (try clear hk); (try clear hi)) | (go_at_call 38; (with_reducible refine (strconv_Itoa.calls t259 A1 c1 l1 t260 _ ?side1 ?side2 ?side3 A6.out).mono ?_); (case side1 => repeat (first | exact (Kd.C_below HR1.out HB.out) | (with_reducible refine Kd.C_alloc ?_ _) | (with_reducible refine Kd.C_drewN ?_ _) | (with_reducible refine Kd.C_drew ?_))); (case side2 => exact HC1.out); (case side3 => exact HG1.out); rintro e w13 ⟨rfl, hb⟩; have n0_ := zA (zP (g := gb257) (o := .cells #[.int .i64 a0_0, .int .i64 a0_1] 30 (0, 0)) apP hb); have n1_ := zA (zQ apO hb); clear BK257; clear HB; have BK257 := n0_; have HB := n1_; clear n0_ n1_; (try clear hb); (try clear hb2); (try clear hk); (try clear hi); have hcz14_0 : w13.cell? ⟨gb257, 0, none⟩ = some (.int .i64 a0_0) := (zJ BK257.out 0).trans rfl; have hcz14_1 : w13.cell? ⟨gb257, 1, none⟩ = some (.int .i64 a0_1) := (zJ BK257.out 1).trans rfl; have hfz14_0 := zK BK257.out 0; have hfz14_1 := zK BK257.out 1))
  repeat (go_quiet (first | ((with_reducible refine zT (N := 1) rfl ?_); refine zX ?hg (N := 1) ?hd (cs := #[.int .i64 a0_0, .int .i64 a0_1]) (t := 30) ?hr ?_; (case hd => rfl); (case hg => rfl); (case hr => first | (go_simp; done) | (go_simp; rfl)); intro gb257 hg w8 hbox hb; have n0_ := zA (zQ apA hb); have n1_ := zA (hbox); have n2_ := zA ((by rw [hg]; exact (zR apA) : w.heap.size ≤ gb257)); have n3_ := zA ((by rw [hg]; exact (zR apA) : w.heap.size ≤ gb257)); clear HB; have HB := n0_; have BK257 := n1_; have GW257 := n2_; have GE257 := n3_; clear n0_ n1_ n2_ n3_; clear hb hbox hg; have hcz9_0 : w8.cell? ⟨gb257, 0, none⟩ = some (.int .i64 a0_0) := (zJ BK257.out 0).trans rfl; have hcz9_1 : w8.cell? ⟨gb257, 1, none⟩ = some (.int .i64 a0_1) := (zJ BK257.out 1).trans rfl; have hfz9_0 := zK BK257.out 0; have hfz9_1 := zK BK257.out 1) | (go_at_call 34; (with_reducible refine (impl_DecOk.calls a0_0 a0_1 true _ A3.out).mono ?_); rintro e w10 ⟨rfl, hb⟩; have n0_ := zA (zP (g := gb257) (o := .cells #[.int .i64 a0_0, .int .i64 a0_1] 30 (0, 0)) apP hb); have n1_ := zA (zQ apO hb); clear BK257; clear HB; have BK257 := n0_; have HB := n1_; clear n0_ n1_; (try clear hb); (try clear hb2); (try clear hk); (try clear hi); have hcz11_0 : w10.cell? ⟨gb257, 0, none⟩ = some (.int .i64 a0_0) := (zJ BK257.out 0).trans rfl; have hcz11_1 : w10.cell? ⟨gb257, 1, none⟩ = some (.int .i64 a0_1) := (zJ BK257.out 1).trans rfl; have hfz11_0 := zK BK257.out 0; have hfz11_1 := zK BK257.out 1) | (go_at_call 39; (with_reducible refine (impl_size.calls a0_0 t259 _ A5.out).mono ?_); rintro e w12 ⟨rfl, hb⟩; have n0_ := zA (zP (g := gb257) (o := .cells #[.int .i64 a0_0, .int .i64 a0_1] 30 (0, 0)) apP hb); have n1_ := zA (zQ apO hb); clear BK257; clear HB; have BK257 := n0_; have HB := n1_; clear n0_ n1_; (try clear hb); (try clear hb2); (try clear hk); (try clear hi)) | (go_at_call 38; (with_reducible refine (strconv_Itoa.calls t259 A1 c1 l1 t260 _ ?side1 ?side2 ?side3 A6.out).mono ?_); (case side1 => repeat (first | exact (Kd.C_below HR1.out HB.out) | (with_reducible refine Kd.C_alloc ?_ _) | (with_reducible refine Kd.C_drewN ?_ _) | (with_reducible refine Kd.C_drew ?_))); (case side2 => exact HC1.out); (case side3 => exact HG1.out); rintro e w13 ⟨rfl, hb⟩; have n0_ := zA (zP (g := gb257) (o := .cells #[.int .i64 a0_0, .int .i64 a0_1] 30 (0, 0)) apP hb); have n1_ := zA (zQ apO hb); clear BK257; clear HB; have BK257 := n0_; have HB := n1_; clear n0_ n1_; (try clear hb); (try clear hb2); (try clear hk); (try clear hi); have hcz14_0 : w13.cell? ⟨gb257, 0, none⟩ = some (.int .i64 a0_0) := (zJ BK257.out 0).trans rfl; have hcz14_1 : w13.cell? ⟨gb257, 1, none⟩ = some (.int .i64 a0_1) := (zJ BK257.out 1).trans rfl; have hfz14_0 := zK BK257.out 0; have hfz14_1 := zK BK257.out 1)); go_upto_if 16 with (first | ((with_reducible refine zT (N := 1) rfl ?_); refine zX ?hg (N := 1) ?hd (cs := #[.int .i64 a0_0, .int .i64 a0_1]) (t := 30) ?hr ?_; (case hd => rfl); (case hg => rfl); (case hr => first | (go_simp; done) | (go_simp; rfl)); intro gb257 hg w8 hbox hb; have n0_ := zA (zQ apA hb); have n1_ := zA (hbox); have n2_ := zA ((by rw [hg]; exact (zR apA) : w.heap.size ≤ gb257)); have n3_ := zA ((by rw [hg]; exact (zR apA) : w.heap.size ≤ gb257)); clear HB; have HB := n0_; have BK257 := n1_; have GW257 := n2_; have GE257 := n3_; clear n0_ n1_ n2_ n3_; clear hb hbox hg; have hcz9_0 : w8.cell? ⟨gb257, 0, none⟩ = some (.int .i64 a0_0) := (zJ BK257.out 0).trans rfl; have hcz9_1 : w8.cell? ⟨gb257, 1, none⟩ = some (.int .i64 a0_1) := (zJ BK257.out 1).trans rfl; have hfz9_0 := zK BK257.out 0; have hfz9_1 := zK BK257.out 1) | (go_at_call 34; (with_reducible refine (impl_DecOk.calls a0_0 a0_1 true _ A3.out).mono ?_); rintro e w10 ⟨rfl, hb⟩; have n0_ := zA (zP (g := gb257) (o := .cells #[.int .i64 a0_0, .int .i64 a0_1] 30 (0, 0)) apP hb); have n1_ := zA (zQ apO hb); clear BK257; clear HB; have BK257 := n0_; have HB := n1_; clear n0_ n1_; (try clear hb); (try clear hb2); (try clear hk); (try clear hi); have hcz11_0 : w10.cell? ⟨gb257, 0, none⟩ = some (.int .i64 a0_0) := (zJ BK257.out 0).trans rfl; have hcz11_1 : w10.cell? ⟨gb257, 1, none⟩ = some (.int .i64 a0_1) := (zJ BK257.out 1).trans rfl; have hfz11_0 := zK BK257.out 0; have hfz11_1 := zK BK257.out 1) | (go_at_call 39; (with_reducible refine (impl_size.calls a0_0 t259 _ A5.out).mono ?_); rintro e w12 ⟨rfl, hb⟩; have n0_ := zA (zP (g := gb257) (o := .cells #[.int .i64 a0_0, .int .i64 a0_1] 30 (0, 0)) apP hb); have n1_ := zA (zQ apO hb); clear BK257; clear HB; have BK257 := n0_; have HB := n1_; clear n0_ n1_; (try clear hb); (try clear hb2); (try clear hk); (try clear hi)) | (go_at_call 38; (with_reducible refine (strconv_Itoa.calls t259 A1 c1 l1 t260 _ ?side1 ?side2 ?side3 A6.out).mono ?_); (case side1 => repeat (first | exact (Kd.C_below HR1.out HB.out) | (with_reducible refine Kd.C_alloc ?_ _) | (with_reducible refine Kd.C_drewN ?_ _) | (with_reducible refine Kd.C_drew ?_))); (case side2 => exact HC1.out); (case side3 => exact HG1.out); rintro e w13 ⟨rfl, hb⟩; have n0_ := zA (zP (g := gb257) (o := .cells #[.int .i64 a0_0, .int .i64 a0_1] 30 (0, 0)) apP hb); have n1_ := zA (zQ apO hb); clear BK257; clear HB; have BK257 := n0_; have HB := n1_; clear n0_ n1_; (try clear hb); (try clear hb2); (try clear hk); (try clear hi); have hcz14_0 : w13.cell? ⟨gb257, 0, none⟩ = some (.int .i64 a0_0) := (zJ BK257.out 0).trans rfl; have hcz14_1 : w13.cell? ⟨gb257, 1, none⟩ = some (.int .i64 a0_1) := (zJ BK257.out 1).trans rfl; have hfz14_0 := zK BK257.out 0; have hfz14_1 := zK BK257.out 1)))
  (try simp only [Act.put, zL, zM, zN])
  go_cut [4] (fun v4 wc => ∃ (kq : Nat) (x4_6 : ByteArray), v4 = .string x4_6 ∧ Aside0 (impl_DecText.j0 kq t260 x4_6 a0_0 a0_1 = some r) ∧ Aside0 (kq ≤ k) ∧ Aside0 (wc.heap[gb257]? = some (.cells #[.int .i64 a0_0, .int .i64 a0_1] 30 (0, 0))) ∧ Aside0 (Below w.heap.size w wc))
  case first =>
   have H := HC7.out
   clear HC7
   by_cases c15 : a0_0 < 0
   ·rw [if_pos c15] at H
    have c15b0 : decide (a0_0 < 0) = true := yF c15
    clear c15
    (first | rw [c15b0] | (simp only [i64_w, i32_w]; rw [c15b0]) | skip)
    have H' := zA H
    clear H
    go_wp2
    repeat (go_quiet (fail); try go_wp2)
    go_meet
    case rel => exact ⟨_, ((⟨#[45]⟩ : ByteArray)), apB, H', ⟨by first | omega | exact yK _⟩, ⟨apP⟩, ⟨apO⟩⟩
   ·rw [if_neg c15] at H
    have c15b0 : decide (a0_0 < 0) = false := decide_eq_false c15
    clear c15
    (first | rw [c15b0] | (simp only [i64_w, i32_w]; rw [c15b0]) | skip)
    have H' := zA H
    clear H
    go_wp2
    repeat (go_quiet (fail); try go_wp2)
    go_meet
    case rel => exact ⟨_, ((⟨#[]⟩ : ByteArray)), apB, H', ⟨by first | omega | exact yK _⟩, ⟨apP⟩, ⟨apO⟩⟩
  case rest =>
   clear HC7
   try clear c1
   try clear c2
   try clear p2
   try clear c4
   try clear c15
   try clear c15b0
   try clear hcz11_0
   try clear hcz11_1
   try clear hcz14_0
   try clear hcz14_1
   try clear hcz9_0
   try clear hcz9_1
   try clear hfz11_0
   try clear hfz11_1
   try clear hfz14_0
   try clear hfz14_1
   try clear hfz9_0
   try clear hfz9_1
   obtain ⟨kq, x4_6, rfl, HA, HJ6, BK257, HB⟩ := hcut
   cases kq with
   | zero => exact absurd HA.out (by simp [impl_DecText.j0])
   | succ kj6 =>
    have H := HA.out
    clear HA
    simp only [impl_DecText.j0] at H
    by_cases c16 : a0_1 ≥ 0
    ·rw [if_pos c16] at H
     have c16b0 : decide (0 ≤ a0_1) = true := yF c16
     clear c16
     by_cases c17 : x4_6.size + t260.size ≤ 9223372036854775807
     ·rw [if_pos c17] at H
      have c17b0 := eq_true c17
      have c17b1 : decide (x4_6.size + t260.size ≤ 9223372036854775807) = true := yF c17
      try have c17b2 : (9223372036854775807 < x4_6.size + t260.size) = False := eq_false (Nat.not_lt.2 c17)
      replace H := Option.bind_eq_some_iff.mp H
      obtain ⟨t261, A180, H⟩ := H
      replace H : (if (x4_6 ++ t260).size + t261.size ≤ 9223372036854775807 then (some ((x4_6 ++ t260) ++ t261)) else (none)) = some r := H
      have A18 := zA A180
      clear A180
      by_cases c19 : (x4_6 ++ t260).size + t261.size ≤ 9223372036854775807
      ·rw [if_pos c19] at H
       have c19b0 := eq_true c19
       have c19b1 : decide ((x4_6 ++ t260).size + t261.size ≤ 9223372036854775807) = true := yF c19
       try have c19b2 : (9223372036854775807 < (x4_6 ++ t260).size + t261.size) = False := eq_false (Nat.not_lt.2 c19)
       try simp only [ByteArray.size_append] at c19b2
       obtain rfl := yH H
       have hcz20_0 : wc.cell? ⟨gb257, 0, none⟩ = some (.int .i64 a0_0) := (zJ BK257.out 0).trans rfl
       have hcz20_1 : wc.cell? ⟨gb257, 1, none⟩ = some (.int .i64 a0_1) := (zJ BK257.out 1).trans rfl
       have hfz20_0 := zK BK257.out 0
       have hfz20_1 := zK BK257.out 1
       go_wp2_with (first | (go_at_call 40; (with_reducible refine (strings_Repeat.calls (⟨#[48]⟩ : ByteArray) a0_1 t261 _ A18.out).mono ?_); rintro e w21 ⟨rfl, hb⟩; have n0_ := zA (zQ apA hb); clear HB; have HB := n0_; clear n0_; (try clear hb); (try clear hb2); (try clear hk); (try clear hi)))
       repeat (go_quiet (first | (go_at_call 40; (with_reducible refine (strings_Repeat.calls (⟨#[48]⟩ : ByteArray) a0_1 t261 _ A18.out).mono ?_); rintro e w21 ⟨rfl, hb⟩; have n0_ := zA (zQ apA hb); clear HB; have HB := n0_; clear n0_; (try clear hb); (try clear hb2); (try clear hk); (try clear hi))); try go_wp2_with (first | (go_at_call 40; (with_reducible refine (strings_Repeat.calls (⟨#[48]⟩ : ByteArray) a0_1 t261 _ A18.out).mono ?_); rintro e w21 ⟨rfl, hb⟩; have n0_ := zA (zQ apA hb); clear HB; have HB := n0_; clear n0_; (try clear hb); (try clear hb2); (try clear hk); (try clear hi))))
       go_ret
       exact ⟨apD, apA⟩
      ·rw [if_neg c19] at H
       exact absurd H (by simp)
     ·rw [if_neg c17] at H
      exact absurd H (by simp)
    ·rw [if_neg c16] at H
     have c16b0 : decide (0 ≤ a0_1) = false := decide_eq_false c16
     clear c16
     by_cases c22 : (wrap64 ((wrap64 (-a0_1)) - (t260.size : Int))) ≥ 0
     ·rw [if_pos c22] at H
      have c22b0 : decide (0 ≤ (wrap64 ((wrap64 (-a0_1)) - (t260.size : Int)))) = true := yF c22
      clear c22
      replace H := Option.bind_eq_some_iff.mp H
      obtain ⟨t262, A230, H⟩ := H
      replace H : (if t262.size + t260.size ≤ 9223372036854775807 then (if 0 ≤ (wrap64 (((t262 ++ t260).size : Int) + a0_1)) then (if (wrap64 (((t262 ++ t260).size : Int) + a0_1)) ≤ ((t262 ++ t260).size : Int) then (if x4_6.size + ((t262 ++ t260).extract 0 ((wrap64 (((t262 ++ t260).size : Int) + a0_1)) : Int).toNat).size ≤ 9223372036854775807 then (if (x4_6 ++ ((t262 ++ t260).extract 0 ((wrap64 (((t262 ++ t260).size : Int) + a0_1)) : Int).toNat)).size + 1 ≤ 9223372036854775807 then (if ((x4_6 ++ ((t262 ++ t260).extract 0 ((wrap64 (((t262 ++ t260).size : Int) + a0_1)) : Int).toNat)) ++ (⟨#[46]⟩ : ByteArray)).size + ((t262 ++ t260).extract ((wrap64 (((t262 ++ t260).size : Int) + a0_1)) : Int).toNat (t262 ++ t260).size).size ≤ 9223372036854775807 then (some (((x4_6 ++ ((t262 ++ t260).extract 0 ((wrap64 (((t262 ++ t260).size : Int) + a0_1)) : Int).toNat)) ++ (⟨#[46]⟩ : ByteArray)) ++ ((t262 ++ t260).extract ((wrap64 (((t262 ++ t260).size : Int) + a0_1)) : Int).toNat (t262 ++ t260).size))) else (none)) else (none)) else (none)) else (none)) else (none)) else (none)) = some r := H
      have A23 := zA A230
      clear A230
      by_cases c24 : t262.size + t260.size ≤ 9223372036854775807
      ·rw [if_pos c24] at H
       have c24b0 := eq_true c24
       have c24b1 : decide (t262.size + t260.size ≤ 9223372036854775807) = true := yF c24
       try have c24b2 : (9223372036854775807 < t262.size + t260.size) = False := eq_false (Nat.not_lt.2 c24)
       obtain ⟨ji25, hji25⟩ : ∃ j_ : Int, (wrap64 (((t262 ++ t260).size : Int) + a0_1)) = j_ := ⟨_, rfl⟩
       replace H : (if 0 ≤ (ji25) then (if (ji25) ≤ ((t262 ++ t260).size : Int) then (if x4_6.size + ((t262 ++ t260).extract 0 ((ji25) : Int).toNat).size ≤ 9223372036854775807 then (if (x4_6 ++ ((t262 ++ t260).extract 0 ((ji25) : Int).toNat)).size + 1 ≤ 9223372036854775807 then (if ((x4_6 ++ ((t262 ++ t260).extract 0 ((ji25) : Int).toNat)) ++ (⟨#[46]⟩ : ByteArray)).size + ((t262 ++ t260).extract ((ji25) : Int).toNat (t262 ++ t260).size).size ≤ 9223372036854775807 then (some (((x4_6 ++ ((t262 ++ t260).extract 0 ((ji25) : Int).toNat)) ++ (⟨#[46]⟩ : ByteArray)) ++ ((t262 ++ t260).extract ((ji25) : Int).toNat (t262 ++ t260).size))) else (none)) else (none)) else (none)) else (none)) else (none)) = some r := by first | (rw [hji25] at H; exact H) | (simp only [hji25] at H ⊢; exact H)
       (try rw [hji25] at A23)
       (try (have hji25a := hji25; simp only [ByteArray.size_append, Int.natCast_add] at hji25a))
       have hji25w : (IntKind.i64.wrap (((t262 ++ t260).size : Int) + a0_1)) = ji25 := (i64_w _).trans hji25
       by_cases c26 : 0 ≤ (ji25)
       ·rw [if_pos c26] at H
        have c26b0 := eq_true c26
        have c26b1 : decide (0 ≤ (ji25)) = true := yF c26
        clear c26
        by_cases c27 : (ji25) ≤ ((t262 ++ t260).size : Int)
        ·rw [if_pos c27] at H
         (try (have c27b9 := eq_true c27; simp only [ByteArray.size_append, Int.natCast_add] at c27b9))
         have c27b0 := eq_true c27
         have c27b1 : decide ((ji25) ≤ ((t262 ++ t260).size : Int)) = true := yF c27
         by_cases c28 : x4_6.size + ((t262 ++ t260).extract 0 ((ji25) : Int).toNat).size ≤ 9223372036854775807
         ·rw [if_pos c28] at H
          (try (have c28b9 := eq_true c28; simp only [ByteArray.size_append, Int.natCast_add] at c28b9))
          have c28b0 := eq_true c28
          have c28b1 : decide (x4_6.size + ((t262 ++ t260).extract 0 ((ji25) : Int).toNat).size ≤ 9223372036854775807) = true := yF c28
          try have c28b2 : (9223372036854775807 < x4_6.size + ((t262 ++ t260).extract 0 ((ji25) : Int).toNat).size) = False := eq_false (Nat.not_lt.2 c28)
          try simp only [ByteArray.size_append] at c28b2
          by_cases c29 : (x4_6 ++ ((t262 ++ t260).extract 0 ((ji25) : Int).toNat)).size + 1 ≤ 9223372036854775807
          ·rw [if_pos c29] at H
           (try (have c29b9 := eq_true c29; simp only [ByteArray.size_append, Int.natCast_add] at c29b9))
           have c29b0 := eq_true c29
           have c29b1 : decide ((x4_6 ++ ((t262 ++ t260).extract 0 ((ji25) : Int).toNat)).size + 1 ≤ 9223372036854775807) = true := yF c29
           try have c29b2 : (9223372036854775807 < (x4_6 ++ ((t262 ++ t260).extract 0 ((ji25) : Int).toNat)).size + 1) = False := eq_false (Nat.not_lt.2 c29)
           try simp only [ByteArray.size_append] at c29b2
           have c30b0 := eq_true (yG apC : 0 ≤ (ji25))
           have c31b0 := eq_true (yG apC : (ji25) ≤ ((t262 ++ t260).size : Int))
           (try (have c31b9 := c31b0; simp only [ByteArray.size_append, Int.natCast_add] at c31b9))
           by_cases c32 : ((x4_6 ++ ((t262 ++ t260).extract 0 ((ji25) : Int).toNat)) ++ (⟨#[46]⟩ : ByteArray)).size + ((t262 ++ t260).extract ((ji25) : Int).toNat (t262 ++ t260).size).size ≤ 9223372036854775807
           ·rw [if_pos c32] at H
            (try (have c32b9 := eq_true c32; simp only [ByteArray.size_append, Int.natCast_add, show ((⟨#[46]⟩ : ByteArray)).size = 1 from rfl] at c32b9))
            (try (have c32b8 := eq_false (Nat.not_lt.2 c32); simp only [ByteArray.size_append, show ((⟨#[46]⟩ : ByteArray)).size = 1 from rfl] at c32b8))
            have c32b0 := eq_true c32
            have c32b1 : decide (((x4_6 ++ ((t262 ++ t260).extract 0 ((ji25) : Int).toNat)) ++ (⟨#[46]⟩ : ByteArray)).size + ((t262 ++ t260).extract ((ji25) : Int).toNat (t262 ++ t260).size).size ≤ 9223372036854775807) = true := yF c32
            try have c32b2 : (9223372036854775807 < ((x4_6 ++ ((t262 ++ t260).extract 0 ((ji25) : Int).toNat)) ++ (⟨#[46]⟩ : ByteArray)).size + ((t262 ++ t260).extract ((ji25) : Int).toNat (t262 ++ t260).size).size) = False := eq_false (Nat.not_lt.2 c32)
            try simp only [ByteArray.size_append] at c32b2
            obtain rfl := yH H
            have hcz33_0 : wc.cell? ⟨gb257, 0, none⟩ = some (.int .i64 a0_0) := (zJ BK257.out 0).trans rfl
            have hcz33_1 : wc.cell? ⟨gb257, 1, none⟩ = some (.int .i64 a0_1) := (zJ BK257.out 1).trans rfl
            have hfz33_0 := zK BK257.out 0
            have hfz33_1 := zK BK257.out 1
            go_wp2_with (first | (go_at_call 40; (with_reducible refine (strings_Repeat.calls (⟨#[48]⟩ : ByteArray) (wrap64 ((wrap64 ((wrap64 (-a0_1)) - (t260.size : Int))) + 1)) t262 _ A23.out).mono ?_); rintro e w34 ⟨rfl, hb⟩; have n0_ := zA (zP (g := gb257) (o := .cells #[.int .i64 a0_0, .int .i64 a0_1] 30 (0, 0)) apP hb); have n1_ := zA (zQ apO hb); clear BK257; clear HB; have BK257 := n0_; have HB := n1_; clear n0_ n1_; (try clear hb); (try clear hb2); (try clear hk); (try clear hi); have hcz35_0 : w34.cell? ⟨gb257, 0, none⟩ = some (.int .i64 a0_0) := (zJ BK257.out 0).trans rfl; have hcz35_1 : w34.cell? ⟨gb257, 1, none⟩ = some (.int .i64 a0_1) := (zJ BK257.out 1).trans rfl; have hfz35_0 := zK BK257.out 0; have hfz35_1 := zK BK257.out 1))
            repeat (go_quiet (first | (go_at_call 40; (with_reducible refine (strings_Repeat.calls (⟨#[48]⟩ : ByteArray) (wrap64 ((wrap64 ((wrap64 (-a0_1)) - (t260.size : Int))) + 1)) t262 _ A23.out).mono ?_); rintro e w34 ⟨rfl, hb⟩; have n0_ := zA (zP (g := gb257) (o := .cells #[.int .i64 a0_0, .int .i64 a0_1] 30 (0, 0)) apP hb); have n1_ := zA (zQ apO hb); clear BK257; clear HB; have BK257 := n0_; have HB := n1_; clear n0_ n1_; (try clear hb); (try clear hb2); (try clear hk); (try clear hi); have hcz35_0 : w34.cell? ⟨gb257, 0, none⟩ = some (.int .i64 a0_0) := (zJ BK257.out 0).trans rfl; have hcz35_1 : w34.cell? ⟨gb257, 1, none⟩ = some (.int .i64 a0_1) := (zJ BK257.out 1).trans rfl; have hfz35_0 := zK BK257.out 0; have hfz35_1 := zK BK257.out 1)); try go_wp2_with (first | (go_at_call 40; (with_reducible refine (strings_Repeat.calls (⟨#[48]⟩ : ByteArray) (wrap64 ((wrap64 ((wrap64 (-a0_1)) - (t260.size : Int))) + 1)) t262 _ A23.out).mono ?_); rintro e w34 ⟨rfl, hb⟩; have n0_ := zA (zP (g := gb257) (o := .cells #[.int .i64 a0_0, .int .i64 a0_1] 30 (0, 0)) apP hb); have n1_ := zA (zQ apO hb); clear BK257; clear HB; have BK257 := n0_; have HB := n1_; clear n0_ n1_; (try clear hb); (try clear hb2); (try clear hk); (try clear hi); have hcz35_0 : w34.cell? ⟨gb257, 0, none⟩ = some (.int .i64 a0_0) := (zJ BK257.out 0).trans rfl; have hcz35_1 : w34.cell? ⟨gb257, 1, none⟩ = some (.int .i64 a0_1) := (zJ BK257.out 1).trans rfl; have hfz35_0 := zK BK257.out 0; have hfz35_1 := zK BK257.out 1)))
            go_ret
            exact ⟨by first | rfl | (simp [errW_none, errW_some] <;> rfl) | (simp only [← hji25]; first | rfl | (simp [errW_none, errW_some] <;> rfl)) | (simp [*, errW_none, errW_some] <;> rfl), apO⟩
           ·rw [if_neg c32] at H
            exact absurd H (by simp)
          ·rw [if_neg c29] at H
           exact absurd H (by simp)
         ·rw [if_neg c28] at H
          exact absurd H (by simp)
        ·rw [if_neg c27] at H
         exact absurd H (by simp)
       ·rw [if_neg c26] at H
        exact absurd H (by simp)
      ·rw [if_neg c24] at H
       exact absurd H (by simp)
     ·rw [if_neg c22] at H
      have c22b0 : decide (0 ≤ (wrap64 ((wrap64 (-a0_1)) - (t260.size : Int)))) = false := decide_eq_false c22
      clear c22
      obtain ⟨ji36, hji36⟩ : ∃ j_ : Int, (wrap64 ((t260.size : Int) + a0_1)) = j_ := ⟨_, rfl⟩
      replace H : (if 0 ≤ (ji36) then (if (ji36) ≤ (t260.size : Int) then (if x4_6.size + (t260.extract 0 ((ji36) : Int).toNat).size ≤ 9223372036854775807 then (if (x4_6 ++ (t260.extract 0 ((ji36) : Int).toNat)).size + 1 ≤ 9223372036854775807 then (if ((x4_6 ++ (t260.extract 0 ((ji36) : Int).toNat)) ++ (⟨#[46]⟩ : ByteArray)).size + (t260.extract ((ji36) : Int).toNat t260.size).size ≤ 9223372036854775807 then (some (((x4_6 ++ (t260.extract 0 ((ji36) : Int).toNat)) ++ (⟨#[46]⟩ : ByteArray)) ++ (t260.extract ((ji36) : Int).toNat t260.size))) else (none)) else (none)) else (none)) else (none)) else (none)) = some r := by first | (rw [hji36] at H; exact H) | (simp only [hji36] at H ⊢; exact H)
      have hji36w : (IntKind.i64.wrap ((t260.size : Int) + a0_1)) = ji36 := (i64_w _).trans hji36
      by_cases c37 : 0 ≤ (ji36)
      ·rw [if_pos c37] at H
       have c37b0 := eq_true c37
       have c37b1 : decide (0 ≤ (ji36)) = true := yF c37
       clear c37
       by_cases c38 : (ji36) ≤ (t260.size : Int)
       ·rw [if_pos c38] at H
        have c38b0 := eq_true c38
        have c38b1 : decide ((ji36) ≤ (t260.size : Int)) = true := yF c38
        clear c38
        by_cases c39 : x4_6.size + (t260.extract 0 ((ji36) : Int).toNat).size ≤ 9223372036854775807
        ·rw [if_pos c39] at H
         have c39b0 := eq_true c39
         have c39b1 : decide (x4_6.size + (t260.extract 0 ((ji36) : Int).toNat).size ≤ 9223372036854775807) = true := yF c39
         try have c39b2 : (9223372036854775807 < x4_6.size + (t260.extract 0 ((ji36) : Int).toNat).size) = False := eq_false (Nat.not_lt.2 c39)
         by_cases c40 : (x4_6 ++ (t260.extract 0 ((ji36) : Int).toNat)).size + 1 ≤ 9223372036854775807
         ·rw [if_pos c40] at H
          (try (have c40b9 := eq_true c40; simp only [ByteArray.size_append, Int.natCast_add] at c40b9))
          have c40b0 := eq_true c40
          have c40b1 : decide ((x4_6 ++ (t260.extract 0 ((ji36) : Int).toNat)).size + 1 ≤ 9223372036854775807) = true := yF c40
          try have c40b2 : (9223372036854775807 < (x4_6 ++ (t260.extract 0 ((ji36) : Int).toNat)).size + 1) = False := eq_false (Nat.not_lt.2 c40)
          try simp only [ByteArray.size_append] at c40b2
          have c41b0 := eq_true (yG apC : 0 ≤ (ji36))
          have c42b0 := eq_true (yG apC : (ji36) ≤ (t260.size : Int))
          by_cases c43 : ((x4_6 ++ (t260.extract 0 ((ji36) : Int).toNat)) ++ (⟨#[46]⟩ : ByteArray)).size + (t260.extract ((ji36) : Int).toNat t260.size).size ≤ 9223372036854775807
          ·rw [if_pos c43] at H
           (try (have c43b9 := eq_true c43; simp only [ByteArray.size_append, Int.natCast_add, show ((⟨#[46]⟩ : ByteArray)).size = 1 from rfl] at c43b9))
           (try (have c43b8 := eq_false (Nat.not_lt.2 c43); simp only [ByteArray.size_append, show ((⟨#[46]⟩ : ByteArray)).size = 1 from rfl] at c43b8))
           have c43b0 := eq_true c43
           have c43b1 : decide (((x4_6 ++ (t260.extract 0 ((ji36) : Int).toNat)) ++ (⟨#[46]⟩ : ByteArray)).size + (t260.extract ((ji36) : Int).toNat t260.size).size ≤ 9223372036854775807) = true := yF c43
           try have c43b2 : (9223372036854775807 < ((x4_6 ++ (t260.extract 0 ((ji36) : Int).toNat)) ++ (⟨#[46]⟩ : ByteArray)).size + (t260.extract ((ji36) : Int).toNat t260.size).size) = False := eq_false (Nat.not_lt.2 c43)
           try simp only [ByteArray.size_append] at c43b2
           obtain rfl := yH H
           have hcz44_0 : wc.cell? ⟨gb257, 0, none⟩ = some (.int .i64 a0_0) := (zJ BK257.out 0).trans rfl
           have hcz44_1 : wc.cell? ⟨gb257, 1, none⟩ = some (.int .i64 a0_1) := (zJ BK257.out 1).trans rfl
           have hfz44_0 := zK BK257.out 0
           have hfz44_1 := zK BK257.out 1
           go_wp2
           repeat (go_quiet (fail); try go_wp2)
           go_ret
           exact ⟨by first | rfl | (simp [errW_none, errW_some] <;> rfl) | (simp only [← hji36]; first | rfl | (simp [errW_none, errW_some] <;> rfl)) | (simp [*, errW_none, errW_some] <;> rfl), apO⟩
          ·rw [if_neg c43] at H
           exact absurd H (by simp)
         ·rw [if_neg c40] at H
          exact absurd H (by simp)
        ·rw [if_neg c39] at H
         exact absurd H (by simp)
       ·rw [if_neg c38] at H
        exact absurd H (by simp)
      ·rw [if_neg c37] at H
       exact absurd H (by simp)
 ·replace c4 := Bool.eq_false_iff.mpr c4
  subst c4
  have H1 : (some (⟨#[]⟩ : ByteArray)) = some r := by rw [if_neg (show ¬ (false = true) by decide)] at H; exact H
  clear H
  have H := H1
  clear H1
  obtain rfl := yH H
  go_enter Tryd.func28, Tryd.ntmps28
  go_wp2_with (first | ((with_reducible refine zT (N := 1) rfl ?_); refine zX ?hg (N := 1) ?hd (cs := #[.int .i64 a0_0, .int .i64 a0_1]) (t := 30) ?hr ?_; (case hd => rfl); (case hg => rfl); (case hr => first | (go_simp; done) | (go_simp; rfl)); intro gb257 hg w45 hbox hb; have n0_ := zA (zQ apA hb); have n1_ := zA (hbox); have n2_ := zA ((by rw [hg]; exact (zR apA) : w.heap.size ≤ gb257)); have n3_ := zA ((by rw [hg]; exact (zR apA) : w.heap.size ≤ gb257)); clear HB; have HB := n0_; have BK257 := n1_; have GW257 := n2_; have GE257 := n3_; clear n0_ n1_ n2_ n3_; clear hb hbox hg; have hcz46_0 : w45.cell? ⟨gb257, 0, none⟩ = some (.int .i64 a0_0) := (zJ BK257.out 0).trans rfl; have hcz46_1 : w45.cell? ⟨gb257, 1, none⟩ = some (.int .i64 a0_1) := (zJ BK257.out 1).trans rfl; have hfz46_0 := zK BK257.out 0; have hfz46_1 := zK BK257.out 1) | (go_at_call 34; (with_reducible refine (impl_DecOk.calls a0_0 a0_1 false _ A3.out).mono ?_); rintro e w47 ⟨rfl, hb⟩; have n0_ := zA (zQ apA hb); clear HB; have HB := n0_; clear n0_; (try clear hb); (try clear hb2); (try clear hk); (try clear hi)))
  repeat (go_quiet (first | ((with_reducible refine zT (N := 1) rfl ?_); refine zX ?hg (N := 1) ?hd (cs := #[.int .i64 a0_0, .int .i64 a0_1]) (t := 30) ?hr ?_; (case hd => rfl); (case hg => rfl); (case hr => first | (go_simp; done) | (go_simp; rfl)); intro gb257 hg w45 hbox hb; have n0_ := zA (zQ apA hb); have n1_ := zA (hbox); have n2_ := zA ((by rw [hg]; exact (zR apA) : w.heap.size ≤ gb257)); have n3_ := zA ((by rw [hg]; exact (zR apA) : w.heap.size ≤ gb257)); clear HB; have HB := n0_; have BK257 := n1_; have GW257 := n2_; have GE257 := n3_; clear n0_ n1_ n2_ n3_; clear hb hbox hg; have hcz46_0 : w45.cell? ⟨gb257, 0, none⟩ = some (.int .i64 a0_0) := (zJ BK257.out 0).trans rfl; have hcz46_1 : w45.cell? ⟨gb257, 1, none⟩ = some (.int .i64 a0_1) := (zJ BK257.out 1).trans rfl; have hfz46_0 := zK BK257.out 0; have hfz46_1 := zK BK257.out 1) | (go_at_call 34; (with_reducible refine (impl_DecOk.calls a0_0 a0_1 false _ A3.out).mono ?_); rintro e w47 ⟨rfl, hb⟩; have n0_ := zA (zQ apA hb); clear HB; have HB := n0_; clear n0_; (try clear hb); (try clear hb2); (try clear hk); (try clear hi))); try go_wp2_with (first | ((with_reducible refine zT (N := 1) rfl ?_); refine zX ?hg (N := 1) ?hd (cs := #[.int .i64 a0_0, .int .i64 a0_1]) (t := 30) ?hr ?_; (case hd => rfl); (case hg => rfl); (case hr => first | (go_simp; done) | (go_simp; rfl)); intro gb257 hg w45 hbox hb; have n0_ := zA (zQ apA hb); have n1_ := zA (hbox); have n2_ := zA ((by rw [hg]; exact (zR apA) : w.heap.size ≤ gb257)); have n3_ := zA ((by rw [hg]; exact (zR apA) : w.heap.size ≤ gb257)); clear HB; have HB := n0_; have BK257 := n1_; have GW257 := n2_; have GE257 := n3_; clear n0_ n1_ n2_ n3_; clear hb hbox hg; have hcz46_0 : w45.cell? ⟨gb257, 0, none⟩ = some (.int .i64 a0_0) := (zJ BK257.out 0).trans rfl; have hcz46_1 : w45.cell? ⟨gb257, 1, none⟩ = some (.int .i64 a0_1) := (zJ BK257.out 1).trans rfl; have hfz46_0 := zK BK257.out 0; have hfz46_1 := zK BK257.out 1) | (go_at_call 34; (with_reducible refine (impl_DecOk.calls a0_0 a0_1 false _ A3.out).mono ?_); rintro e w47 ⟨rfl, hb⟩; have n0_ := zA (zQ apA hb); clear HB; have HB := n0_; clear n0_; (try clear hb); (try clear hb2); (try clear hk); (try clear hi))))
  go_ret
  exact ⟨apD, apA⟩

end Go.Proofs.YtihepjjjdjemfaaDoor.Q

namespace Go.Proofs.YtihepjjjdjemfaaDoor.Q
open Go.RowKit Go.Proofs.YtihepjjjdjemfaaDoorW.PrintWords Go.Proofs.YtihepjjjdjemfaaDoorW.PrintLast Go.Proofs.YtihepjjjdjemfaaDoorW.PrintMore Go.Proofs.YtihepjjjdjemfaaDoorX
attribute [local go_sem] max2_int min2_int max_two min_two max_three min_three max_four min_four   -- for this text's walks alone
set_option linter.unusedVariables false
set_option linter.unusedSimpArgs false

def spec_l1Neg.f (a0_0 : Int) (a0_1 : Int) : Option (Int × Int) := some (wrap64 (-a0_0), a0_1)
set_option maxHeartbeats 8000000 in
set_option maxRecDepth 100000 in
theorem spec_l1Neg.calls (a0_0 : Int) (a0_1 : Int) (r1 : Int) (r2 : Int) (w : World) (h : spec_l1Neg.f a0_0 a0_1 = some (r1, r2)) :
  Calls Tryd.prog 48 #[.agg #[.int .i64 a0_0, .int .i64 a0_1]] w fun e w' => e = .returned (.agg #[.int .i64 r1, .int .i64 r2]) ∧ Below w.heap.size w w' := by
 have hu30 := Tryd.underlying30
 have HB := zA (yJ w.heap.size w)
 have H : (some (wrap64 (-a0_0), a0_1)) = some (r1, r2) := h
 clear h
 simp only [Option.some.injEq, Prod.mk.injEq] at H
 obtain ⟨rfl, rfl⟩ := H
 go_enter Tryd.func48, Tryd.ntmps48
 go_wp2_with (first | ((with_reducible refine zT (N := 1) rfl ?_); refine zX ?hg (N := 1) ?hd (cs := #[.int .i64 a0_0, .int .i64 a0_1]) (t := 30) ?hr ?_; (case hd => rfl); (case hg => rfl); (case hr => first | (go_simp; done) | (go_simp; rfl)); intro gb177 hg w2 hbox hb; have n0_ := zA (zQ apA hb); have n1_ := zA (hbox); have n2_ := zA ((by rw [hg]; exact (zR apA) : w.heap.size ≤ gb177)); have n3_ := zA ((by rw [hg]; exact (zR apA) : w.heap.size ≤ gb177)); clear HB; have HB := n0_; have BK177 := n1_; have GW177 := n2_; have GE177 := n3_; clear n0_ n1_ n2_ n3_; clear hb hbox hg) | ((with_reducible refine zT (N := 2) rfl ?_); refine zX ?hg (N := 2) ?hd (cs := #[.int .i64 0, .int .i64 0]) (t := 30) ?hr ?_; (case hd => rfl); (case hg => rfl); (case hr => first | (go_simp; done) | (go_simp; rfl)); intro gb178 hg w3 hbox hb; have n0_ := zA (zP (g := gb177) (o := .cells #[.int .i64 a0_0, .int .i64 a0_1] 30 (0, 0)) (by (with_reducible repeat (first | refine zB ?_ _ | refine zD ?_ | refine zC ?_ _)); exact BK177.out) hb); have n1_ := zA (zQ (by repeat (first | (with_reducible first | exact HB.out | apply zG | apply zE | apply zF | refine zH ?_ GE177.out) | exact HB.out)) hb); have n2_ := zA (hbox); have n3_ := zA ((by rw [hg]; exact (zR (by repeat (first | (with_reducible first | exact HB.out | apply zG | apply zE | apply zF | refine zH ?_ GE177.out) | exact HB.out))) : w.heap.size ≤ gb178)); have n4_ := zA ((by rw [hg]; exact (zR (by repeat (first | (with_reducible first | exact HB.out | apply zG | apply zE | apply zF | refine zH ?_ GE177.out) | exact HB.out))) : w.heap.size ≤ gb178)); have n5_ := zA ((by rw [hg]; exact Nat.ne_of_lt (blk_lt (g := gb177) (o := .cells #[.int .i64 a0_0, .int .i64 a0_1] 30 (0, 0)) (by (with_reducible repeat (first | refine zB ?_ _ | refine zD ?_ | refine zC ?_ _)); exact BK177.out)) : gb177 ≠ gb178)); have n6_ := zA ((by rw [hg]; exact Nat.ne_of_gt (blk_lt (g := gb177) (o := .cells #[.int .i64 a0_0, .int .i64 a0_1] 30 (0, 0)) (by (with_reducible repeat (first | refine zB ?_ _ | refine zD ?_ | refine zC ?_ _)); exact BK177.out)) : gb178 ≠ gb177)); clear BK177; clear HB; have BK177 := n0_; have HB := n1_; have BK178 := n2_; have GW178 := n3_; have GE178 := n4_; have NB177_178 := n5_; have NB178_177 := n6_; clear n0_ n1_ n2_ n3_ n4_ n5_ n6_; clear hb hbox hg; have hnb4 := NB177_178.out; have hnc4 := NB178_177.out; have hcz5_0 : w3.cell? ⟨gb177, 0, none⟩ = some (.int .i64 a0_0) := (zJ BK177.out 0).trans rfl; have hcz5_1 : w3.cell? ⟨gb177, 1, none⟩ = some (.int .i64 a0_1) := (zJ BK177.out 1).trans rfl; have hfz5_0 := zK BK177.out 0; have hfz5_1 := zK BK177.out 1; have hcz6_0 : w3.cell? ⟨gb178, 0, none⟩ = some (.int .i64 0) := (zJ BK178.out 0).trans rfl; have hcz6_1 : w3.cell? ⟨gb178, 1, none⟩ = some (.int .i64 0) := (zJ BK178.out 1).trans rfl; have hfz6_0 := zK BK178.out 0; have hfz6_1 := zK BK178.out 1))
 refine bodyPost_ret (results_cell_row rfl _ _ gb178 30 #[.int .i64 (wrap64 (-a0_0)), .int .i64 a0_1] (0, 0) _ rfl (by (with_reducible repeat (first | refine zB ?_ _ | refine zD ?_ | refine zC ?_ _)); refine blk_put (cs := #[.int .i64 (wrap64 (-a0_0)), .int .i64 0]) ?_ 1 _ rfl; (with_reducible repeat (first | refine zB ?_ _ | refine zD ?_ | refine zC ?_ _)); refine blk_put (cs := #[.int .i64 0, .int .i64 0]) ?_ 0 _ rfl; (with_reducible repeat (first | refine zB ?_ _ | refine zD ?_ | refine zC ?_ _)); exact BK178.out) Tryd.underlying30 rfl (by kernel_rfl)) rfl ?_
 exact ⟨apD, by repeat (first | (with_reducible first | exact HB.out | apply zG | apply zE | apply zF | refine zH ?_ GE177.out | refine zH ?_ GE178.out) | exact HB.out)⟩


def spec_l1Dec.f : Nat → Int → Option (ByteArray)
 | 0, _ => none
 | k + 1, a0 => if a0 < (-9223372036854775807) then (some (⟨#[45, 57, 50, 50, 51, 51, 55, 50, 48, 51, 54, 56, 53, 52, 55, 55, 53, 56, 48, 56]⟩ : ByteArray)) else (if a0 < 0 then ((spec_l1Dec.f k (wrap64 (-a0))).bind fun t179 => (if 1 + t179.size ≤ 9223372036854775807 then (some ((⟨#[45]⟩ : ByteArray) ++ t179)) else (none))) else (if a0 < 10 then (some (strOfNums (([(wrap64 (48 + a0)) % 256] : List Int)))) else ((spec_l1Dec.f k (wrap64 (Int.tdiv a0 10))).bind fun t183 => ((some (([(wrap64 (48 + (Int.tmod a0 10))) % 256] : List Int) : List Int)).bind fun y184 => (if t183.size + (strOfNums y184).size ≤ 9223372036854775807 then (some (t183 ++ (strOfNums y184))) else (none))))))
theorem spec_l1Dec.mono_l : ∀ k, (∀ y0, LeO (spec_l1Dec.f k y0) (spec_l1Dec.f (k + 1) y0))
 | 0 => fun _ r h => by simp [spec_l1Dec.f] at h
 | k + 1 => by
  have ih0 := spec_l1Dec.mono_l k
  ·intro y0
   unfold spec_l1Dec.f
   repeat' first
   | (with_reducible exact ih0 _)
   | (with_reducible exact LeO.refl _)
   | (with_reducible exact LeO.none _)
   | (with_reducible refine LeO.ite ?_ ?_)
   | (with_reducible refine LeO.bind ?_ (fun _ => ?_))
   | exact ih0 _
theorem spec_l1Dec.mono : ∀ a0 k, LeO (spec_l1Dec.f k a0) (spec_l1Dec.f (k + 1) a0) := by
 intro a0 k
 have ih0 := spec_l1Dec.mono_l k
 exact ih0 a0
def spec_l1Dec.T7 : Bool × List (List Nat × List Nat) := (true, [([], []), ([0], [0]), ([1], [1]), ([], []), ([3], [3]), ([4], [4]), ([5], [5]), ([6], [6]), ([7], [7]), ([2, 8], [2, 8]), ([9, 2, 0, 1, 2, 3, 4, 5, 6, 7, 8, 9], [9])])
def spec_l1Dec.B7 : List Nat := [0, 1, 3, 0, 8, 24, 56, 120, 248, 511, 1023]
theorem spec_l1Dec.tab7 : rtab .any (opsOf Tryd.f49 7) = spec_l1Dec.T7 := by kernel_rfl
theorem spec_l1Dec.bits7 : waitsOk spec_l1Dec.T7.2 spec_l1Dec.B7 = true := by kernel_rfl
set_option maxHeartbeats 8000000 in
set_option maxRecDepth 100000 in
theorem spec_l1Dec.calls (k : Nat) : ∀ (a0 : Int) (r : ByteArray) (w : World) (h : spec_l1Dec.f k a0 = some r),
  Calls Tryd.prog 49 #[.int .i64 a0] w fun e w' => e = .returned (.string r) ∧ Below w.heap.size w w' := by
 induction k using Nat.strongRecOn with
 | _ k ih =>
 intro a0 r w h
 cases k with
 | zero => exact absurd h (by simp [spec_l1Dec.f])
 | succ k =>
 simp only [spec_l1Dec.f] at h
 have HB := zA (yJ w.heap.size w)
 have H : (if a0 < (-9223372036854775807) then (some (⟨#[45, 57, 50, 50, 51, 51, 55, 50, 48, 51, 54, 56, 53, 52, 55, 55, 53, 56, 48, 56]⟩ : ByteArray)) else (if a0 < 0 then ((spec_l1Dec.f k (wrap64 (-a0))).bind fun t179 => (if 1 + t179.size ≤ 9223372036854775807 then (some ((⟨#[45]⟩ : ByteArray) ++ t179)) else (none))) else (if a0 < 10 then (some (strOfNums (([(wrap64 (48 + a0)) % 256] : List Int)))) else ((spec_l1Dec.f k (wrap64 (Int.tdiv a0 10))).bind fun t183 => ((some (([(wrap64 (48 + (Int.tmod a0 10))) % 256] : List Int) : List Int)).bind fun y184 => (if t183.size + (strOfNums y184).size ≤ 9223372036854775807 then (some (t183 ++ (strOfNums y184))) else (none))))))) = some r := h
 clear h
 by_cases c2 : a0 < (-9223372036854775807)
 ·rw [if_pos c2] at H
  have c2b0 : decide (a0 < (-9223372036854775807)) = true := yF c2
  clear c2
  obtain rfl := yH H
  go_enter Tryd.func49, Tryd.ntmps49
  go_wp2
  go_ret
  exact ⟨apD, apA⟩
 ·rw [if_neg c2] at H
  have c2b0 : decide (a0 < (-9223372036854775807)) = false := decide_eq_false c2
  clear c2
  by_cases c3 : a0 < 0
  ·rw [if_pos c3] at H
   have c3b0 : decide (a0 < 0) = true := yF c3
   clear c3
   replace H := Option.bind_eq_some_iff.mp H
   obtain ⟨t179, A40, H⟩ := H
   replace H : (if 1 + t179.size ≤ 9223372036854775807 then (some ((⟨#[45]⟩ : ByteArray) ++ t179)) else (none)) = some r := H
   have A4 := zA A40
   clear A40
   by_cases c5 : 1 + t179.size ≤ 9223372036854775807
   ·rw [if_pos c5] at H
    have c5b0 := eq_true c5
    have c5b1 : decide (1 + t179.size ≤ 9223372036854775807) = true := yF c5
    try have c5b2 : (9223372036854775807 < 1 + t179.size) = False := eq_false (Nat.not_lt.2 c5)
    obtain rfl := yH H
    go_enter Tryd.func49, Tryd.ntmps49
    go_wp2_with (first | ((with_reducible refine zV (f := 49) rfl ?_); refine goesL_ (some 9) rfl rfl Tryd.func49 (by kernel_rfl) rfl #[.int .i64 (wrap64 (-a0))] rfl apE ?_; (with_reducible refine (ih k (by omega) (wrap64 (-a0)) t179 _ A4.out).mono ?_); rintro e w6 ⟨rfl, hb⟩; refine ⟨_, rfl, ?_⟩; have n0_ := zA (zQ apA hb); clear HB; have HB := n0_; clear n0_; (try clear hb); (try clear hb2); (try clear hk); (try clear hi)))
    go_ret
    exact ⟨apD, apA⟩
   ·rw [if_neg c5] at H
    exact absurd H (by simp)
  ·rw [if_neg c3] at H
   have c3b0 : decide (a0 < 0) = false := decide_eq_false c3
   clear c3
   by_cases c7 : a0 < 10
   ·rw [if_pos c7] at H
    have c7b0 : decide (a0 < 10) = true := yF c7
    clear c7
    obtain ⟨y180, hy180⟩ : ∃ y_ : List Int, y_ = (([(wrap64 (48 + a0)) % 256] : List Int)) := ⟨_, rfl⟩
    replace H : (some (strOfNums y180)) = some r := by first | (rw [hy180]; with_reducible exact H) | (have H2_ := (Option.bind_some _ _).symm.trans H; rw [hy180]; with_reducible exact H2_) | (have H2_ := (Option.bind_some _ _).symm.trans H; with_reducible exact H2_) | with_reducible exact H | (rw [hy180]; exact H) | exact H
    have Ny180 := zA hy180
    clear hy180
    obtain rfl := yH H
    go_enter Tryd.func49, Tryd.ntmps49
    go_wp2_with (first | ((with_reducible refine zT (N := 16) rfl ?_); refine Kd.R_lit (Kd.int .u8) _ 5 ?hg (N := 16) ?hd (xs := ([(wrap64 (48 + a0)) % 256] : List Int)) (inner := [.int .u8 ((wrap64 (48 + a0)) % 256)]) (ok := fun _ => True) (okp := fun _ => True) ?hr ?hp (fun _ hk => hk) trivial (yJ _ _) (yK _) (by simp) ?_; (case hd => rfl); (case hg => rfl); (case hr => first | (go_simp; done) | (go_simp; rfl)); (case hp => exact (Reps.one (show Kd.M (Kd.int .u8) _ _ _ ((wrap64 (48 + a0)) % 256) [.int .u8 ((wrap64 (48 + a0)) % 256)] from rfl) (Reps.none _ _))); intro v181 w8 ho9 hb hg_ hnew_; clear hg_ hnew_; (first | rw [← Ny180.out] at ho9 | (simp only [Int.reduceToNat] at ho9; rw [← Ny180.out] at ho9)); have n0_ := zA (Kd.R_lower ho9 (zR apA)); have n1_ := zA (zQ apA hb); clear HB; have HO182 := n0_; have HB := n1_; clear n0_ n1_; clear hb ho9; have hcv10 := own_string (P := Tryd.prog) Tryd.underlying60 Tryd.underlying5 Tryd.underlying9 (Kd.own_of_R HO182.out)))
    go_ret
    exact ⟨apD, apA⟩
   ·rw [if_neg c7] at H
    have c7b0 : decide (a0 < 10) = false := decide_eq_false c7
    clear c7
    replace H := Option.bind_eq_some_iff.mp H
    obtain ⟨t183, A110, H⟩ := H
    replace H : ((some (([(wrap64 (48 + (Int.tmod a0 10))) % 256] : List Int) : List Int)).bind fun y184 => (if t183.size + (strOfNums y184).size ≤ 9223372036854775807 then (some (t183 ++ (strOfNums y184))) else (none))) = some r := H
    have A11 := zA A110
    clear A110
    obtain ⟨y184, hy184⟩ : ∃ y_ : List Int, y_ = (([(wrap64 (48 + (Int.tmod a0 10))) % 256] : List Int)) := ⟨_, rfl⟩
    replace H : (if t183.size + (strOfNums y184).size ≤ 9223372036854775807 then (some (t183 ++ (strOfNums y184))) else (none)) = some r := by first | (rw [hy184]; with_reducible exact H) | (have H2_ := (Option.bind_some _ _).symm.trans H; rw [hy184]; with_reducible exact H2_) | (have H2_ := (Option.bind_some _ _).symm.trans H; with_reducible exact H2_) | with_reducible exact H | (rw [hy184]; exact H) | exact H
    have Ny184 := zA hy184
    clear hy184
    by_cases c12 : t183.size + (strOfNums y184).size ≤ 9223372036854775807
    ·rw [if_pos c12] at H
     have c12b0 := eq_true c12
     have c12b1 : decide (t183.size + (strOfNums y184).size ≤ 9223372036854775807) = true := yF c12
     try have c12b2 : (9223372036854775807 < t183.size + (strOfNums y184).size) = False := eq_false (Nat.not_lt.2 c12)
     obtain rfl := yH H
     go_enter Tryd.func49, Tryd.ntmps49
     try go_wp2
     have n0_ := zA (zF HB.out)
     clear HB
     have HB := n0_
     clear n0_
     refine start_ (n := 11) (S := fun w' => True) (ds := []) #[false, false, false, false, false, false, false, false, false, false, false] (by kernel_rfl) rfl rfl trivial (fun hHeld => ?_); refine with_tabW spec_l1Dec.tab7 spec_l1Dec.bits7 (fun HT_ HW_ => ?_)
     generalize w.drew = w13 at HB hHeld ⊢
     refine pure_ (i := 0) (N := some 18) (v := ?_) (a' := ?_) #[true, false, false, false, false, false, false, false, false, false, false] rfl rfl (any_of HT_.out (by kernel_rfl)) (fun _ _ _ h => h) (Or.inl ⟨by rfl, ?_⟩) ?_ ?_
     rotate_left
     ·intro w'
      go_simp
      with_reducible rfl
     rotate_left
     ·simp only [Act.put, zL, zM, zN, i64_w, i32_w]
      rfl
     refine pure_ (i := 1) (N := some 19) (v := ?_) (a' := ?_) #[true, true, false, false, false, false, false, false, false, false, false] rfl rfl (any_of HT_.out (by kernel_rfl)) (fun _ _ _ h => h) (Or.inl ⟨by rfl, ?_⟩) ?_ ?_
     rotate_left
     ·intro w'
      go_simp
      with_reducible rfl
     rotate_left
     ·simp only [Act.put, zL, zM, zN, i64_w, i32_w]
      rfl
     refine pure_ (i := 3) (N := some 21) (v := ?_) (a' := ?_) #[true, true, false, true, false, false, false, false, false, false, false] rfl rfl (any_of HT_.out (by kernel_rfl)) (fun _ _ _ h => h) (Or.inl ⟨by rfl, ?_⟩) ?_ ?_
     rotate_left
     ·intro w'
      go_simp
      with_reducible rfl
     rotate_left
     ·simp only [Act.put, zL, zM, zN, i64_w, i32_w]
      rfl
     refine pure_ (i := 4) (N := some 22) (v := ?_) (a' := ?_) #[true, true, false, true, true, false, false, false, false, false, false] rfl rfl (any_of HT_.out (by kernel_rfl)) (fun _ _ _ h => h) (Or.inl ⟨by rfl, ?_⟩) ?_ ?_
     rotate_left
     ·intro w'
      go_simp
      with_reducible rfl
     rotate_left
     ·simp only [Act.put, zL, zM, zN, i64_w, i32_w]
      rfl
     refine pure_ (i := 5) (N := some 23) (v := ?_) (a' := ?_) #[true, true, false, true, true, true, false, false, false, false, false] rfl rfl (any_of HT_.out (by kernel_rfl)) (fun _ _ _ h => h) (Or.inl ⟨by rfl, ?_⟩) ?_ ?_
     rotate_left
     ·intro w'
      go_simp
      with_reducible rfl
     rotate_left
     ·simp only [Act.put, zL, zM, zN, i64_w, i32_w]
      rfl
     refine pure_ (i := 6) (N := some 24) (v := ?_) (a' := ?_) #[true, true, false, true, true, true, true, false, false, false, false] rfl rfl (any_of HT_.out (by kernel_rfl)) (fun _ _ _ h => h) (Or.inl ⟨by rfl, ?_⟩) ?_ ?_
     rotate_left
     ·intro w'
      go_simp
      with_reducible rfl
     rotate_left
     ·simp only [Act.put, zL, zM, zN, i64_w, i32_w]
      rfl
     refine join_ (σ := Value) 2 #[true, true, true, true, true, true, true, true, true, false, false] (fun s_ => [(20, .string t183), (25, s_), (26, .string (strOfNums y184))]) (fun s_ w' => (Kd.R (Kd.int .u8) 5 w' w.heap.size (fun _ => True) s_ y184) ∧ (Below w.heap.size w w')) ?_ ?_
     rotate_left
     ·intro hCont
      refine two_ (i := 2) (j := 7) (Ni := some 20) (Nj := some 25) #[true, true, true, true, true, true, true, false, false, false, false] #[true, true, false, true, true, true, true, true, false, false, false] rfl rfl rfl rfl (two_of HT_.out (by kernel_rfl)) (by decide) (by decide) (fun K hK => ?_) (fun K hK => ?_)
      ·skip
       refine goes_ Tryd.func49 (by kernel_rfl) rfl #[.int .i64 (wrap64 (Int.tdiv a0 10))] (by rfl) rfl rfl apE ?_
       with_reducible refine (ih k (by omega) (wrap64 (Int.tdiv a0 10)) t183 _ A11.out).mono ?_
       rintro e w14 ⟨rfl, hb⟩
       refine ⟨_, rfl, ?_⟩
       have n0_ := zA (zQ apA hb)
       clear HB
       have HB := n0_
       clear n0_
       (try clear hb)
       (try clear hb2)
       (try clear hk)
       (try clear hi)
       refine hK.out _ _ trivial (fun hHeld => ?_)
       clear hK K
       refine norm_ (a' := ?_) ?_ ?_
       rotate_left
       ·show Act.put _ (some 20) _ = _
        simp only [Act.put, zL, zM, zN, i64_w, i32_w]
        rfl
       refine one_ (i := 7) (N := some 25) #[true, true, true, true, true, true, true, true, false, false, false] rfl rfl (one_of HT_.out (by kernel_rfl)) (by decide) (fun K hK => ?_)
       refine Kd.R_lit_step (Kd.int .u8) _ 5 ?hg (N := 25) ?hd (xs := ([(wrap64 (48 + (Int.tmod a0 10))) % 256] : List Int)) (inner := [.int .u8 ((wrap64 (48 + (Int.tmod a0 10))) % 256)]) (ok := fun _ => True) (okp := fun _ => True) ?hr ?hp (fun _ hk => hk) trivial (yJ _ _) (yK _) (by simp) ?_; (case hd => rfl); (case hg => rfl); (case hr => first | (go_simp; done) | (go_simp; rfl)); (case hp => exact (Reps.one (show Kd.M (Kd.int .u8) _ _ _ ((wrap64 (48 + (Int.tmod a0 10))) % 256) [.int .u8 ((wrap64 (48 + (Int.tmod a0 10))) % 256)] from rfl) (Reps.none _ _)))
       intro v185 w15 ho16 hb hg_ hnew_
       clear hg_ hnew_
       (first | rw [← Ny184.out] at ho16 | (simp only [Int.reduceToNat] at ho16; rw [← Ny184.out] at ho16))
       have n0_ := zA (Kd.R_lower ho16 (zR apA))
       have n1_ := zA (zQ apA hb)
       clear HB
       have HO186 := n0_
       have HB := n1_
       clear n0_ n1_
       clear hb ho16
       refine hK.out _ _ trivial (fun hHeld => ?_)
       clear hK K
       refine norm_ (a' := ?_) ?_ ?_
       rotate_left
       ·show Act.put _ (some 25) _ = _
        simp only [Act.put, zL, zM, zN, i64_w, i32_w]
        rfl
       refine one_ (i := 8) (N := some 26) #[true, true, true, true, true, true, true, true, true, false, false] rfl rfl (one_of HT_.out (by kernel_rfl)) (by decide) (fun K hK => ?_)
       have hcv17 := own_string (P := Tryd.prog) Tryd.underlying60 Tryd.underlying5 Tryd.underlying9 (Kd.own_of_R HO186.out)
       refine value_ (w1 := ?_) (v := ?_) (by rfl) rfl ?_ ?_
       rotate_left 2
       ·go_simp
        constructor
        ·rfl
        ·rfl
       clear hcv17
       refine hK.out _ _ trivial (fun hHeld => ?_)
       clear hK K
       refine norm_ (a' := ?_) ?_ ?_
       rotate_left
       ·show Act.put _ (some 26) _ = _
        simp only [Act.put, zL, zM, zN, i64_w, i32_w]
        rfl
       exact norm_ (by simp only [putAll, Act.put, zL, zM, zN]) (hCont (v185) _ ⟨(by (with_reducible repeat (first | apply Kd.R_alloc | apply Kd.R_drewN | apply Kd.R_drew)); exact HO186.out), apA⟩)
      ·skip
       refine Kd.R_lit_step (Kd.int .u8) _ 5 ?hg (N := 25) ?hd (xs := ([(wrap64 (48 + (Int.tmod a0 10))) % 256] : List Int)) (inner := [.int .u8 ((wrap64 (48 + (Int.tmod a0 10))) % 256)]) (ok := fun _ => True) (okp := fun _ => True) ?hr ?hp (fun _ hk => hk) trivial (yJ _ _) (yK _) (by simp) ?_; (case hd => rfl); (case hg => rfl); (case hr => first | (go_simp; done) | (go_simp; rfl)); (case hp => exact (Reps.one (show Kd.M (Kd.int .u8) _ _ _ ((wrap64 (48 + (Int.tmod a0 10))) % 256) [.int .u8 ((wrap64 (48 + (Int.tmod a0 10))) % 256)] from rfl) (Reps.none _ _)))
       intro v185 w14 ho15 hb hg_ hnew_
       clear hg_ hnew_
       (first | rw [← Ny184.out] at ho15 | (simp only [Int.reduceToNat] at ho15; rw [← Ny184.out] at ho15))
       have n0_ := zA (Kd.R_lower ho15 (zR apA))
       have n1_ := zA (zQ apA hb)
       clear HB
       have HO186 := n0_
       have HB := n1_
       clear n0_ n1_
       clear hb ho15
       refine hK.out _ _ trivial (fun hHeld => ?_)
       clear hK K
       refine norm_ (a' := ?_) ?_ ?_
       rotate_left
       ·show Act.put _ (some 25) _ = _
        simp only [Act.put, zL, zM, zN, i64_w, i32_w]
        rfl
       refine two_ (i := 2) (j := 8) (Ni := some 20) (Nj := some 26) #[true, true, true, true, true, true, true, true, false, false, false] #[true, true, false, true, true, true, true, true, true, false, false] rfl rfl rfl rfl (two_of HT_.out (by kernel_rfl)) (by decide) (by decide) (fun K hK => ?_) (fun K hK => ?_)
       ·skip
        refine goes_ Tryd.func49 (by kernel_rfl) rfl #[.int .i64 (wrap64 (Int.tdiv a0 10))] (by rfl) rfl rfl apE ?_
        with_reducible refine (ih k (by omega) (wrap64 (Int.tdiv a0 10)) t183 _ A11.out).mono ?_
        rintro e w16 ⟨rfl, hb⟩
        refine ⟨_, rfl, ?_⟩
        have n0_ := zA (Kd.R_below (by (with_reducible repeat (first | apply Kd.R_alloc | apply Kd.R_drewN | apply Kd.R_drew)); exact HO186.out) hb)
        have n1_ := zA (zQ apA hb)
        clear HO186
        clear HB
        have HO186 := n0_
        have HB := n1_
        clear n0_ n1_
        (try clear hb)
        (try clear hb2)
        (try clear hk)
        (try clear hi)
        refine hK.out _ _ trivial (fun hHeld => ?_)
        clear hK K
        refine norm_ (a' := ?_) ?_ ?_
        rotate_left
        ·show Act.put _ (some 20) _ = _
         simp only [Act.put, zL, zM, zN, i64_w, i32_w]
         rfl
        refine one_ (i := 8) (N := some 26) #[true, true, true, true, true, true, true, true, true, false, false] rfl rfl (one_of HT_.out (by kernel_rfl)) (by decide) (fun K hK => ?_)
        have hcv17 := own_string (P := Tryd.prog) Tryd.underlying60 Tryd.underlying5 Tryd.underlying9 (Kd.own_of_R HO186.out)
        refine value_ (w1 := ?_) (v := ?_) (by rfl) rfl ?_ ?_
        rotate_left 2
        ·go_simp
         constructor
         ·rfl
         ·rfl
        clear hcv17
        refine hK.out _ _ trivial (fun hHeld => ?_)
        clear hK K
        refine norm_ (a' := ?_) ?_ ?_
        rotate_left
        ·show Act.put _ (some 26) _ = _
         simp only [Act.put, zL, zM, zN, i64_w, i32_w]
         rfl
        exact norm_ (by simp only [putAll, Act.put, zL, zM, zN]) (hCont (v185) _ ⟨(by (with_reducible repeat (first | apply Kd.R_alloc | apply Kd.R_drewN | apply Kd.R_drew)); exact HO186.out), apA⟩)
       ·skip
        have hcv16 := own_string (P := Tryd.prog) Tryd.underlying60 Tryd.underlying5 Tryd.underlying9 (Kd.own_of_R HO186.out)
        refine value_ (w1 := ?_) (v := ?_) (by rfl) rfl ?_ ?_
        rotate_left 2
        ·go_simp
         constructor
         ·rfl
         ·rfl
        clear hcv16
        refine hK.out _ _ trivial (fun hHeld => ?_)
        clear hK K
        refine norm_ (a' := ?_) ?_ ?_
        rotate_left
        ·show Act.put _ (some 26) _ = _
         simp only [Act.put, zL, zM, zN, i64_w, i32_w]
         rfl
        refine one_ (i := 2) (N := some 20) #[true, true, true, true, true, true, true, true, true, false, false] rfl rfl (one_of HT_.out (by kernel_rfl)) (by decide) (fun K hK => ?_)
        refine goes_ Tryd.func49 (by kernel_rfl) rfl #[.int .i64 (wrap64 (Int.tdiv a0 10))] (by rfl) rfl rfl apE ?_
        with_reducible refine (ih k (by omega) (wrap64 (Int.tdiv a0 10)) t183 _ A11.out).mono ?_
        rintro e w17 ⟨rfl, hb⟩
        refine ⟨_, rfl, ?_⟩
        have n0_ := zA (Kd.R_below (by (with_reducible repeat (first | apply Kd.R_alloc | apply Kd.R_drewN | apply Kd.R_drew)); exact HO186.out) hb)
        have n1_ := zA (zQ apA hb)
        clear HO186
        clear HB
        have HO186 := n0_
        have HB := n1_
        clear n0_ n1_
        (try clear hb)
        (try clear hb2)
        (try clear hk)
        (try clear hi)
        refine hK.out _ _ trivial (fun hHeld => ?_)
        clear hK K
        refine norm_ (a' := ?_) ?_ ?_
        rotate_left
        ·show Act.put _ (some 20) _ = _
         simp only [Act.put, zL, zM, zN, i64_w, i32_w]
         rfl
        exact norm_ (by simp only [putAll, Act.put, zL, zM, zN]) (hCont (v185) _ ⟨(by (with_reducible repeat (first | apply Kd.R_alloc | apply Kd.R_drewN | apply Kd.R_drew)); exact HO186.out), apA⟩)
     rintro v185 w18 ⟨h0_, h1_⟩
     have n0_ : Aside0 (Kd.R (Kd.int .u8) 5 w18 w.heap.size (fun _ => True) v185 y184) := ⟨h0_⟩
     have n1_ : Aside0 (Below w.heap.size w w18) := ⟨h1_⟩
     clear HB
     clear h0_ h1_
     have HO186 := n0_
     have HB := n1_
     clear n0_ n1_
     have hHeld := trivial
     refine norm_ (a' := ?_) ?_ ?_
     rotate_left
     ·simp only [putAll, Act.put, zL, zM, zN]
      rfl
     refine pure_ (i := 9) (N := some 27) (v := ?_) (a' := ?_) #[true, true, true, true, true, true, true, true, true, true, false] rfl rfl (any_of HT_.out (by kernel_rfl)) (fun _ _ _ h => h) (Or.inl ⟨by rfl, ?_⟩) ?_ ?_
     rotate_left
     ·intro w'
      go_simp
      with_reducible rfl
     rotate_left
     ·simp only [Act.put, zL, zM, zN, i64_w, i32_w]
      rfl
     refine pure_ (i := 10) (N := some 2) (v := ?_) (a' := ?_) #[true, true, true, true, true, true, true, true, true, true, true] rfl rfl (any_of HT_.out (by kernel_rfl)) (fun _ _ _ h => h) (Or.inl ⟨by rfl, ?_⟩) ?_ ?_
     rotate_left
     ·intro w'
      go_simp
      with_reducible rfl
     rotate_left
     ·simp only [Act.put, zL, zM, zN, i64_w, i32_w]
      rfl
     refine done_ (done_of HT_.out (by kernel_rfl)) ?_
     try go_wp2
     go_ret
     exact ⟨apD, apA⟩
    ·rw [if_neg c12] at H
     exact absurd H (by simp)


def spec_l1Many.l0 : Nat → ByteArray → Int → ByteArray → Option (ByteArray)
 | 0, _, _, _ => none
 | k + 1, x0, x1, x5 => if x1 > 0 then (if (Int.tmod x1 2) = 1 then (if x5.size + x0.size ≤ 9223372036854775807 then (if x0.size + x0.size ≤ 9223372036854775807 then (spec_l1Many.l0 k (x0 ++ x0) (wrap64 (Int.tdiv x1 2)) (x5 ++ x0)) else (none)) else (none)) else (if x0.size + x0.size ≤ 9223372036854775807 then (spec_l1Many.l0 k (x0 ++ x0) (wrap64 (Int.tdiv x1 2)) x5) else (none))) else (some x5)
def spec_l1Many.f (k : Nat) (a0 : ByteArray) (a1 : Int) : Option (ByteArray) := spec_l1Many.l0 k a0 a1 (⟨#[]⟩ : ByteArray)
theorem spec_l1Many.mono_l : ∀ k, (∀ y0 y1 y2, LeO (spec_l1Many.l0 k y0 y1 y2) (spec_l1Many.l0 (k + 1) y0 y1 y2))
 | 0 => fun _ _ _ r h => by simp [spec_l1Many.l0] at h
 | k + 1 => by
  have ih0 := spec_l1Many.mono_l k
  ·intro y0 y1 y2
   unfold spec_l1Many.l0
   repeat' first
   | (with_reducible exact ih0 _ _ _)
   | (with_reducible exact LeO.refl _)
   | (with_reducible exact LeO.none _)
   | (with_reducible refine LeO.ite ?_ ?_)
   | (with_reducible refine LeO.bind ?_ (fun _ => ?_))
   | exact ih0 _ _ _
theorem spec_l1Many.mono : ∀ a0 a1 k, LeO (spec_l1Many.f k a0 a1) (spec_l1Many.f (k + 1) a0 a1) := by
 intro a0 a1 k
 have ih0 := spec_l1Many.mono_l k
 unfold spec_l1Many.f
 repeat' first
   | (with_reducible exact ih0 _ _ _)
   | (with_reducible exact LeO.refl _)
   | (with_reducible exact LeO.none _)
   | (with_reducible refine LeO.ite ?_ ?_)
   | (with_reducible refine LeO.bind ?_ (fun _ => ?_))
   | exact ih0 _ _ _
set_option maxHeartbeats 8000000 in
set_option maxRecDepth 100000 in
theorem spec_l1Many.calls (k : Nat) (a0 : ByteArray) (a1 : Int) (r : ByteArray) (w : World) (h : spec_l1Many.f k a0 a1 = some r) :
  Calls Tryd.prog 50 #[.string a0, .int .i64 a1] w fun e w' => e = .returned (.string r) ∧ Drawn0 w w' := by
 have H : (spec_l1Many.l0 k a0 a1 (⟨#[]⟩ : ByteArray)) = some r := h
 clear h
 have H' := zA H
 clear H
 go_enter Tryd.func50, Tryd.ntmps50
 go_wp2
 go_loopg [0, 1, 5] k (fun kq v0 v1 v5 w' => ∃ (x0_1 : ByteArray) (x1_1 : Int) (x5_1 : ByteArray), v0 = .string x0_1 ∧ v1 = .int .i64 x1_1 ∧ v5 = .string x5_1 ∧ Aside0 (spec_l1Many.l0 kq x0_1 x1_1 x5_1 = some r) ∧ Aside0 (kq ≤ k) ∧ Drawn0 w w')
 case atStart => exact ⟨(a0), (a1), ((⟨#[]⟩ : ByteArray)), apB, apB, apB, H', ⟨yK _⟩, apF⟩
 case round =>
  clear H'
  try clear p2
  obtain ⟨x0_1, x1_1, x5_1, rfl, rfl, rfl, HA, HK1, ⟨m1, rfl⟩⟩ := hrel
  cases gk with
  | zero => exact absurd HA.out (by simp [spec_l1Many.l0])
  | succ k1 =>
   have H := HA.out
   clear HA
   simp only [spec_l1Many.l0] at H
   by_cases c3 : x1_1 > 0
   ·rw [if_pos c3] at H
    have c3b0 : decide (0 < x1_1) = true := yF c3
    clear c3
    by_cases c4 : (Int.tmod x1_1 2) = 1
    ·rw [if_pos c4] at H
     have c4b0 : ((Int.tmod x1_1 2) == 1) = true := beq_iff_eq.mpr c4
     have c4b1 : ((Int.tmod x1_1 2) != 1) = false := bne_eq_false_iff_eq.mpr c4
     clear c4
     by_cases c5 : x5_1.size + x0_1.size ≤ 9223372036854775807
     ·rw [if_pos c5] at H
      have c5b0 := eq_true c5
      have c5b1 : decide (x5_1.size + x0_1.size ≤ 9223372036854775807) = true := yF c5
      try have c5b2 : (9223372036854775807 < x5_1.size + x0_1.size) = False := eq_false (Nat.not_lt.2 c5)
      by_cases c6 : x0_1.size + x0_1.size ≤ 9223372036854775807
      ·rw [if_pos c6] at H
       have c6b0 := eq_true c6
       have c6b1 : decide (x0_1.size + x0_1.size ≤ 9223372036854775807) = true := yF c6
       try have c6b2 : (9223372036854775807 < x0_1.size + x0_1.size) = False := eq_false (Nat.not_lt.2 c6)
       have H' := zA H
       clear H
       go_wp2
       go_roundg k1
       case measure => have := HK1.out; omega
       case rel => exact ⟨(x0_1 ++ x0_1), (wrap64 (Int.tdiv x1_1 2)), (x5_1 ++ x0_1), apB, apB, apB, H', ⟨by have := HK1.out; omega⟩, apF⟩
      ·rw [if_neg c6] at H
       exact absurd H (by simp)
     ·rw [if_neg c5] at H
      exact absurd H (by simp)
    ·rw [if_neg c4] at H
     have c4b0 : ((Int.tmod x1_1 2) == 1) = false := beq_eq_false_iff_ne.mpr c4
     have c4b1 : ((Int.tmod x1_1 2) != 1) = true := bne_iff_ne.mpr c4
     by_cases c7 : x0_1.size + x0_1.size ≤ 9223372036854775807
     ·rw [if_pos c7] at H
      have c7b0 := eq_true c7
      have c7b1 : decide (x0_1.size + x0_1.size ≤ 9223372036854775807) = true := yF c7
      try have c7b2 : (9223372036854775807 < x0_1.size + x0_1.size) = False := eq_false (Nat.not_lt.2 c7)
      have H' := zA H
      clear H
      go_wp2
      go_roundg k1
      case measure => have := HK1.out; omega
      case rel => exact ⟨(x0_1 ++ x0_1), (wrap64 (Int.tdiv x1_1 2)), (x5_1), apB, apB, apB, H', ⟨by have := HK1.out; omega⟩, apF⟩
     ·rw [if_neg c7] at H
      exact absurd H (by simp)
   ·rw [if_neg c3] at H
    have c3b0 : decide (0 < x1_1) = false := decide_eq_false c3
    clear c3
    obtain rfl := yH H
    go_wp2
    go_ret
    exact ⟨apB, apF⟩

end Go.Proofs.YtihepjjjdjemfaaDoor.Q
