-- laid by a program of this session (wip/tools) out of the translation; Lean checks it
import Derived.Test.YtihepjjjdjemfaaDoorSh
import Derived.Test.YtihepjjjdjemfaaDoorBFnExactJsonWideq2
namespace Go.Proofs.YtihepjjjdjemfaaDoor.Q
open Go.RowKit Go.Proofs.YtihepjjjdjemfaaDoorW.PrintWords Go.Proofs.YtihepjjjdjemfaaDoorW.PrintLast Go.Proofs.YtihepjjjdjemfaaDoorW.PrintMore Go.Proofs.YtihepjjjdjemfaaDoorX
attribute [local go_sem] max2_int min2_int max_two min_two max_three min_three max_four min_four   -- for this text's walks alone
set_option linter.unusedVariables false
set_option linter.unusedSimpArgs false

attribute [-simp] ByteArray.size_extract
mutual
def spec_l1Text.l0 : Nat → ByteArray → Int → Int → Option (ByteArray)
 | 0, _, _, _ => none
 | k + 1, x3, x188000, x188001 => if (x3.size : Int) ≤ (wrap64 (-x188001)) then (if 1 + x3.size ≤ 9223372036854775807 then (spec_l1Text.l0 k ((⟨#[48]⟩ : ByteArray) ++ x3) x188000 x188001) else (none)) else (if 0 ≤ (wrap64 ((x3.size : Int) + x188001)) then (if (wrap64 ((x3.size : Int) + x188001)) ≤ (x3.size : Int) then (if (x3.extract 0 ((wrap64 ((x3.size : Int) + x188001)) : Int).toNat).size + 1 ≤ 9223372036854775807 then (if ((x3.extract 0 ((wrap64 ((x3.size : Int) + x188001)) : Int).toNat) ++ (⟨#[46]⟩ : ByteArray)).size + (x3.extract ((wrap64 ((x3.size : Int) + x188001)) : Int).toNat x3.size).size ≤ 9223372036854775807 then (some (((x3.extract 0 ((wrap64 ((x3.size : Int) + x188001)) : Int).toNat) ++ (⟨#[46]⟩ : ByteArray)) ++ (x3.extract ((wrap64 ((x3.size : Int) + x188001)) : Int).toNat x3.size))) else (none)) else (none)) else (none)) else (none))
def spec_l1Text.f : Nat → Int → Int → Option (ByteArray)
 | 0, _, _ => none
 | k + 1, a0_0, a0_1 => if a0_0 < 0 then ((spec_l1Neg.f a0_0 a0_1).bind fun bt188 => ((spec_l1Text.f k bt188.1 bt188.2).bind fun t190 => (if 1 + t190.size ≤ 9223372036854775807 then (some ((⟨#[45]⟩ : ByteArray) ++ t190)) else (none)))) else ((spec_l1Dec.f k a0_0).bind fun t191 => (if a0_1 ≥ 0 then ((spec_l1Many.f k (⟨#[48]⟩ : ByteArray) a0_1).bind fun t192 => (if t191.size + t192.size ≤ 9223372036854775807 then (some (t191 ++ t192)) else (none))) else (spec_l1Text.l0 k t191 a0_0 a0_1)))
end
theorem spec_l1Text.mono_l : ∀ k, (∀ y0 y1, LeO (spec_l1Text.f k y0 y1) (spec_l1Text.f (k + 1) y0 y1)) ∧ (∀ y0 y1 y2, LeO (spec_l1Text.l0 k y0 y1 y2) (spec_l1Text.l0 (k + 1) y0 y1 y2))
 | 0 => ⟨fun _ _ r h => by simp [spec_l1Text.f] at h, fun _ _ _ r h => by simp [spec_l1Text.l0] at h⟩
 | k + 1 => by
  obtain ⟨ih0, ih1⟩ := spec_l1Text.mono_l k
  refine ⟨?_, ?_⟩
  ·intro y0 y1
   unfold spec_l1Text.f
   repeat' first
   | (with_reducible exact ih0 _ _)
   | (with_reducible exact ih1 _ _ _)
   | (with_reducible exact spec_l1Dec.mono _ _)
   | (with_reducible exact spec_l1Many.mono _ _ _)
   | (with_reducible exact LeO.refl _)
   | (with_reducible exact LeO.none _)
   | (with_reducible refine LeO.ite ?_ ?_)
   | (with_reducible refine LeO.bind ?_ (fun _ => ?_))
   | exact ih0 _ _
   | exact ih1 _ _ _
  ·intro y0 y1 y2
   unfold spec_l1Text.l0
   repeat' first
   | (with_reducible exact ih0 _ _)
   | (with_reducible exact ih1 _ _ _)
   | (with_reducible exact spec_l1Dec.mono _ _)
   | (with_reducible exact spec_l1Many.mono _ _ _)
   | (with_reducible exact LeO.refl _)
   | (with_reducible exact LeO.none _)
   | (with_reducible refine LeO.ite ?_ ?_)
   | (with_reducible refine LeO.bind ?_ (fun _ => ?_))
   | exact ih0 _ _
   | exact ih1 _ _ _
theorem spec_l1Text.mono : ∀ a0 a1 k, LeO (spec_l1Text.f k a0 a1) (spec_l1Text.f (k + 1) a0 a1) := by
 intro a0 a1 k
 obtain ⟨ih0, ih1⟩ := spec_l1Text.mono_l k
 exact ih0 a0 a1
set_option maxHeartbeats 8000000 in
set_option maxRecDepth 100000 in
theorem spec_l1Text.calls (k : Nat) : ∀ (a0_0 : Int) (a0_1 : Int) (r : ByteArray) (w : World) (h : spec_l1Text.f k a0_0 a0_1 = some r),
  Calls Tryd.prog 32 #[.agg #[.int .i64 a0_0, .int .i64 a0_1]] w fun e w' => e = .returned (.string r) ∧ Below w.heap.size w w' := by
 induction k using Nat.strongRecOn with
 | _ k ih =>
 intro a0_0 a0_1 r w h
 cases k with
 | zero => exact absurd h (by simp [spec_l1Text.f])
 | succ k =>
 simp only [spec_l1Text.f] at h
 have hu30 := Tryd.underlying30
 have HB := zA (yJ w.heap.size w)
 have H : (if a0_0 < 0 then ((spec_l1Neg.f a0_0 a0_1).bind fun bt188 => ((spec_l1Text.f k bt188.1 bt188.2).bind fun t190 => (if 1 + t190.size ≤ 9223372036854775807 then (some ((⟨#[45]⟩ : ByteArray) ++ t190)) else (none)))) else ((spec_l1Dec.f k a0_0).bind fun t191 => (if a0_1 ≥ 0 then ((spec_l1Many.f k (⟨#[48]⟩ : ByteArray) a0_1).bind fun t192 => (if t191.size + t192.size ≤ 9223372036854775807 then (some (t191 ++ t192)) else (none))) else (spec_l1Text.l0 k t191 a0_0 a0_1)))) = some r := h
 clear h
 by_cases c2 : a0_0 < 0
 ·rw [if_pos c2] at H
  have c2b0 : decide (a0_0 < 0) = true := yF c2
  clear c2
  replace H := Option.bind_eq_some_iff.mp H
  obtain ⟨⟨t188, t189⟩, A30, H⟩ := H
  replace H : ((spec_l1Text.f k t188 t189).bind fun t190 => (if 1 + t190.size ≤ 9223372036854775807 then (some ((⟨#[45]⟩ : ByteArray) ++ t190)) else (none))) = some r := H
  have A3 := zA A30
  clear A30
  replace H := Option.bind_eq_some_iff.mp H
  obtain ⟨t190, A40, H⟩ := H
  replace H : (if 1 + t190.size ≤ 9223372036854775807 then (some ((⟨#[45]⟩ : ByteArray) ++ t190)) else (none)) = some r := H
  have A4 := zA A40
  clear A40
  by_cases c5 : 1 + t190.size ≤ 9223372036854775807
  ·rw [if_pos c5] at H
   have c5b0 := eq_true c5
   have c5b1 : decide (1 + t190.size ≤ 9223372036854775807) = true := yF c5
   try have c5b2 : (9223372036854775807 < 1 + t190.size) = False := eq_false (Nat.not_lt.2 c5)
   obtain rfl := yH H
   go_enter Tryd.func32, Tryd.ntmps32
   go_wp2_with (first | ((with_reducible refine zT (N := 1) rfl ?_); refine zX ?hg (N := 1) ?hd (cs := #[.int .i64 a0_0, .int .i64 a0_1]) (t := 30) ?hr ?_; (case hd => rfl); (case hg => rfl); (case hr => first | (go_simp; done) | (go_simp; rfl)); intro gb187 hg w6 hbox hb; have n0_ := zA (zQ apA hb); have n1_ := zA (hbox); have n2_ := zA ((by rw [hg]; exact (zR apA) : w.heap.size ≤ gb187)); have n3_ := zA ((by rw [hg]; exact (zR apA) : w.heap.size ≤ gb187)); clear HB; have HB := n0_; have BK187 := n1_; have GW187 := n2_; have GE187 := n3_; clear n0_ n1_ n2_ n3_; clear hb hbox hg; have hcz7_0 : w6.cell? ⟨gb187, 0, none⟩ = some (.int .i64 a0_0) := (zJ BK187.out 0).trans rfl; have hcz7_1 : w6.cell? ⟨gb187, 1, none⟩ = some (.int .i64 a0_1) := (zJ BK187.out 1).trans rfl; have hfz7_0 := zK BK187.out 0; have hfz7_1 := zK BK187.out 1) | (go_at_call 48; (with_reducible refine (spec_l1Neg.calls a0_0 a0_1 t188 t189 _ A3.out).mono ?_); rintro e w8 ⟨rfl, hb⟩; have n0_ := zA (zQ apA hb); clear HB; have HB := n0_; clear n0_; (try clear hb); (try clear hb2); (try clear hk); (try clear hi)) | (go_at_call 32; (with_reducible refine (ih k (by omega) t188 t189 t190 _ A4.out).mono ?_); rintro e w9 ⟨rfl, hb⟩; have n0_ := zA (zQ apA hb); clear HB; have HB := n0_; clear n0_; (try clear hb); (try clear hb2); (try clear hk); (try clear hi)))
   repeat (go_quiet (first | ((with_reducible refine zT (N := 1) rfl ?_); refine zX ?hg (N := 1) ?hd (cs := #[.int .i64 a0_0, .int .i64 a0_1]) (t := 30) ?hr ?_; (case hd => rfl); (case hg => rfl); (case hr => first | (go_simp; done) | (go_simp; rfl)); intro gb187 hg w6 hbox hb; have n0_ := zA (zQ apA hb); have n1_ := zA (hbox); have n2_ := zA ((by rw [hg]; exact (zR apA) : w.heap.size ≤ gb187)); have n3_ := zA ((by rw [hg]; exact (zR apA) : w.heap.size ≤ gb187)); clear HB; have HB := n0_; have BK187 := n1_; have GW187 := n2_; have GE187 := n3_; clear n0_ n1_ n2_ n3_; clear hb hbox hg; have hcz7_0 : w6.cell? ⟨gb187, 0, none⟩ = some (.int .i64 a0_0) := (zJ BK187.out 0).trans rfl; have hcz7_1 : w6.cell? ⟨gb187, 1, none⟩ = some (.int .i64 a0_1) := (zJ BK187.out 1).trans rfl; have hfz7_0 := zK BK187.out 0; have hfz7_1 := zK BK187.out 1) | (go_at_call 48; (with_reducible refine (spec_l1Neg.calls a0_0 a0_1 t188 t189 _ A3.out).mono ?_); rintro e w8 ⟨rfl, hb⟩; have n0_ := zA (zQ apA hb); clear HB; have HB := n0_; clear n0_; (try clear hb); (try clear hb2); (try clear hk); (try clear hi)) | (go_at_call 32; (with_reducible refine (ih k (by omega) t188 t189 t190 _ A4.out).mono ?_); rintro e w9 ⟨rfl, hb⟩; have n0_ := zA (zQ apA hb); clear HB; have HB := n0_; clear n0_; (try clear hb); (try clear hb2); (try clear hk); (try clear hi))); try go_wp2_with (first | ((with_reducible refine zT (N := 1) rfl ?_); refine zX ?hg (N := 1) ?hd (cs := #[.int .i64 a0_0, .int .i64 a0_1]) (t := 30) ?hr ?_; (case hd => rfl); (case hg => rfl); (case hr => first | (go_simp; done) | (go_simp; rfl)); intro gb187 hg w6 hbox hb; have n0_ := zA (zQ apA hb); have n1_ := zA (hbox); have n2_ := zA ((by rw [hg]; exact (zR apA) : w.heap.size ≤ gb187)); have n3_ := zA ((by rw [hg]; exact (zR apA) : w.heap.size ≤ gb187)); clear HB; have HB := n0_; have BK187 := n1_; have GW187 := n2_; have GE187 := n3_; clear n0_ n1_ n2_ n3_; clear hb hbox hg; have hcz7_0 : w6.cell? ⟨gb187, 0, none⟩ = some (.int .i64 a0_0) := (zJ BK187.out 0).trans rfl; have hcz7_1 : w6.cell? ⟨gb187, 1, none⟩ = some (.int .i64 a0_1) := (zJ BK187.out 1).trans rfl; have hfz7_0 := zK BK187.out 0; have hfz7_1 := zK BK187.out 1) | (go_at_call 48; (with_reducible refine (spec_l1Neg.calls a0_0 a0_1 t188 t189 _ A3.out).mono ?_); rintro e w8 ⟨rfl, hb⟩; have n0_ := zA (zQ apA hb); clear HB; have HB := n0_; clear n0_; (try clear hb); (try clear hb2); (try clear hk); (try clear hi)) | (go_at_call 32; (with_reducible refine (ih k (by omega) t188 t189 t190 _ A4.out).mono ?_); rintro e w9 ⟨rfl, hb⟩; have n0_ := zA (zQ apA hb); clear HB; have HB := n0_; clear n0_; (try clear hb); (try clear hb2); (try clear hk); (try clear hi))))
   go_ret
   exact ⟨apD, apA⟩
  ·rw [if_neg c5] at H
   exact absurd H (by simp)
 ·rw [if_neg c2] at H
  have c2b0 : decide (a0_0 < 0) = false := decide_eq_false c2
  clear c2
  replace H := Option.bind_eq_some_iff.mp H
  obtain ⟨t191, A100, H⟩ := H
  replace H : (if a0_1 ≥ 0 then ((spec_l1Many.f k (⟨#[48]⟩ : ByteArray) a0_1).bind fun t192 => (if t191.size + t192.size ≤ 9223372036854775807 then (some (t191 ++ t192)) else (none))) else (spec_l1Text.l0 k t191 a0_0 a0_1)) = some r := H
  have A10 := zA A100
  clear A100
  by_cases c11 : a0_1 ≥ 0
  ·rw [if_pos c11] at H
   have c11b0 : decide (0 ≤ a0_1) = true := yF c11
   clear c11
   replace H := Option.bind_eq_some_iff.mp H
   obtain ⟨t192, A120, H⟩ := H
   replace H : (if t191.size + t192.size ≤ 9223372036854775807 then (some (t191 ++ t192)) else (none)) = some r := H
   have A12 := zA A120
   clear A120
   by_cases c13 : t191.size + t192.size ≤ 9223372036854775807
   ·rw [if_pos c13] at H
    have c13b0 := eq_true c13
    have c13b1 : decide (t191.size + t192.size ≤ 9223372036854775807) = true := yF c13
    try have c13b2 : (9223372036854775807 < t191.size + t192.size) = False := eq_false (Nat.not_lt.2 c13)
    obtain rfl := yH H
    go_enter Tryd.func32, Tryd.ntmps32
    go_wp2_with (first | ((with_reducible refine zT (N := 1) rfl ?_); refine zX ?hg (N := 1) ?hd (cs := #[.int .i64 a0_0, .int .i64 a0_1]) (t := 30) ?hr ?_; (case hd => rfl); (case hg => rfl); (case hr => first | (go_simp; done) | (go_simp; rfl)); intro gb187 hg w14 hbox hb; have n0_ := zA (zQ apA hb); have n1_ := zA (hbox); have n2_ := zA ((by rw [hg]; exact (zR apA) : w.heap.size ≤ gb187)); have n3_ := zA ((by rw [hg]; exact (zR apA) : w.heap.size ≤ gb187)); clear HB; have HB := n0_; have BK187 := n1_; have GW187 := n2_; have GE187 := n3_; clear n0_ n1_ n2_ n3_; clear hb hbox hg; have hcz15_0 : w14.cell? ⟨gb187, 0, none⟩ = some (.int .i64 a0_0) := (zJ BK187.out 0).trans rfl; have hcz15_1 : w14.cell? ⟨gb187, 1, none⟩ = some (.int .i64 a0_1) := (zJ BK187.out 1).trans rfl; have hfz15_0 := zK BK187.out 0; have hfz15_1 := zK BK187.out 1) | (go_at_call 49; (with_reducible refine (spec_l1Dec.calls k a0_0 t191 _ A10.out).mono ?_); rintro e w16 ⟨rfl, hb⟩; have n0_ := zA (zP (g := gb187) (o := .cells #[.int .i64 a0_0, .int .i64 a0_1] 30 (0, 0)) (by (with_reducible repeat (first | refine zB ?_ _ | refine zD ?_ | refine zC ?_ _)); exact BK187.out) hb); have n1_ := zA (zQ (by repeat (first | (with_reducible first | exact HB.out | apply zG | apply zE | apply zF | refine zH ?_ GE187.out) | exact HB.out)) hb); clear BK187; clear HB; have BK187 := n0_; have HB := n1_; clear n0_ n1_; (try clear hb); (try clear hb2); (try clear hk); (try clear hi); have hcz17_0 : w16.cell? ⟨gb187, 0, none⟩ = some (.int .i64 a0_0) := (zJ BK187.out 0).trans rfl; have hcz17_1 : w16.cell? ⟨gb187, 1, none⟩ = some (.int .i64 a0_1) := (zJ BK187.out 1).trans rfl; have hfz17_0 := zK BK187.out 0; have hfz17_1 := zK BK187.out 1) | (go_at_call 50; (with_reducible refine (spec_l1Many.calls k (⟨#[48]⟩ : ByteArray) a0_1 t192 _ A12.out).mono ?_); rintro e w' ⟨rfl, ⟨nd, rfl⟩⟩; (try first | exact ⟨rfl, _, World.drewN_drewN _ _ _⟩ | exact ⟨rfl, _, Eq.trans (World.drewN_drewN _ _ _) (congrArg (World.drewN _) (Nat.add_assoc _ _ _))⟩)))
    repeat (go_quiet (first | ((with_reducible refine zT (N := 1) rfl ?_); refine zX ?hg (N := 1) ?hd (cs := #[.int .i64 a0_0, .int .i64 a0_1]) (t := 30) ?hr ?_; (case hd => rfl); (case hg => rfl); (case hr => first | (go_simp; done) | (go_simp; rfl)); intro gb187 hg w14 hbox hb; have n0_ := zA (zQ apA hb); have n1_ := zA (hbox); have n2_ := zA ((by rw [hg]; exact (zR apA) : w.heap.size ≤ gb187)); have n3_ := zA ((by rw [hg]; exact (zR apA) : w.heap.size ≤ gb187)); clear HB; have HB := n0_; have BK187 := n1_; have GW187 := n2_; have GE187 := n3_; clear n0_ n1_ n2_ n3_; clear hb hbox hg; have hcz15_0 : w14.cell? ⟨gb187, 0, none⟩ = some (.int .i64 a0_0) := (zJ BK187.out 0).trans rfl; have hcz15_1 : w14.cell? ⟨gb187, 1, none⟩ = some (.int .i64 a0_1) := (zJ BK187.out 1).trans rfl; have hfz15_0 := zK BK187.out 0; have hfz15_1 := zK BK187.out 1) | (go_at_call 49; (with_reducible refine (spec_l1Dec.calls k a0_0 t191 _ A10.out).mono ?_); rintro e w16 ⟨rfl, hb⟩; have n0_ := zA (zP (g := gb187) (o := .cells #[.int .i64 a0_0, .int .i64 a0_1] 30 (0, 0)) (by (with_reducible repeat (first | refine zB ?_ _ | refine zD ?_ | refine zC ?_ _)); exact BK187.out) hb); have n1_ := zA (zQ (by repeat (first | (with_reducible first | exact HB.out | apply zG | apply zE | apply zF | refine zH ?_ GE187.out) | exact HB.out)) hb); clear BK187; clear HB; have BK187 := n0_; have HB := n1_; clear n0_ n1_; (try clear hb); (try clear hb2); (try clear hk); (try clear hi); have hcz17_0 : w16.cell? ⟨gb187, 0, none⟩ = some (.int .i64 a0_0) := (zJ BK187.out 0).trans rfl; have hcz17_1 : w16.cell? ⟨gb187, 1, none⟩ = some (.int .i64 a0_1) := (zJ BK187.out 1).trans rfl; have hfz17_0 := zK BK187.out 0; have hfz17_1 := zK BK187.out 1) | (go_at_call 50; (with_reducible refine (spec_l1Many.calls k (⟨#[48]⟩ : ByteArray) a0_1 t192 _ A12.out).mono ?_); rintro e w' ⟨rfl, ⟨nd, rfl⟩⟩; (try first | exact ⟨rfl, _, World.drewN_drewN _ _ _⟩ | exact ⟨rfl, _, Eq.trans (World.drewN_drewN _ _ _) (congrArg (World.drewN _) (Nat.add_assoc _ _ _))⟩))); try go_wp2_with (first | ((with_reducible refine zT (N := 1) rfl ?_); refine zX ?hg (N := 1) ?hd (cs := #[.int .i64 a0_0, .int .i64 a0_1]) (t := 30) ?hr ?_; (case hd => rfl); (case hg => rfl); (case hr => first | (go_simp; done) | (go_simp; rfl)); intro gb187 hg w14 hbox hb; have n0_ := zA (zQ apA hb); have n1_ := zA (hbox); have n2_ := zA ((by rw [hg]; exact (zR apA) : w.heap.size ≤ gb187)); have n3_ := zA ((by rw [hg]; exact (zR apA) : w.heap.size ≤ gb187)); clear HB; have HB := n0_; have BK187 := n1_; have GW187 := n2_; have GE187 := n3_; clear n0_ n1_ n2_ n3_; clear hb hbox hg; have hcz15_0 : w14.cell? ⟨gb187, 0, none⟩ = some (.int .i64 a0_0) := (zJ BK187.out 0).trans rfl; have hcz15_1 : w14.cell? ⟨gb187, 1, none⟩ = some (.int .i64 a0_1) := (zJ BK187.out 1).trans rfl; have hfz15_0 := zK BK187.out 0; have hfz15_1 := zK BK187.out 1) | (go_at_call 49; (with_reducible refine (spec_l1Dec.calls k a0_0 t191 _ A10.out).mono ?_); rintro e w16 ⟨rfl, hb⟩; have n0_ := zA (zP (g := gb187) (o := .cells #[.int .i64 a0_0, .int .i64 a0_1] 30 (0, 0)) (by (with_reducible repeat (first | refine zB ?_ _ | refine zD ?_ | refine zC ?_ _)); exact BK187.out) hb); have n1_ := zA (zQ (by repeat (first | (with_reducible first | exact HB.out | apply zG | apply zE | apply zF | refine zH ?_ GE187.out) | exact HB.out)) hb); clear BK187; clear HB; have BK187 := n0_; have HB := n1_; clear n0_ n1_; (try clear hb); (try clear hb2); (try clear hk); (try clear hi); have hcz17_0 : w16.cell? ⟨gb187, 0, none⟩ = some (.int .i64 a0_0) := (zJ BK187.out 0).trans rfl; have hcz17_1 : w16.cell? ⟨gb187, 1, none⟩ = some (.int .i64 a0_1) := (zJ BK187.out 1).trans rfl; have hfz17_0 := zK BK187.out 0; have hfz17_1 := zK BK187.out 1) | (go_at_call 50; (with_reducible refine (spec_l1Many.calls k (⟨#[48]⟩ : ByteArray) a0_1 t192 _ A12.out).mono ?_); rintro e w' ⟨rfl, ⟨nd, rfl⟩⟩; (try first | exact ⟨rfl, _, World.drewN_drewN _ _ _⟩ | exact ⟨rfl, _, Eq.trans (World.drewN_drewN _ _ _) (congrArg (World.drewN _) (Nat.add_assoc _ _ _))⟩))))
    go_ret
    exact ⟨apD, apA⟩
   ·rw [if_neg c13] at H
    exact absurd H (by simp)
  ·rw [if_neg c11] at H
   have c11b0 : decide (0 ≤ a0_1) = false := decide_eq_false c11
   clear c11
   have H' := zA H
   clear H
   go_enter Tryd.func32, Tryd.ntmps32
   go_wp2_with (first | ((with_reducible refine zT (N := 1) rfl ?_); refine zX ?hg (N := 1) ?hd (cs := #[.int .i64 a0_0, .int .i64 a0_1]) (t := 30) ?hr ?_; (case hd => rfl); (case hg => rfl); (case hr => first | (go_simp; done) | (go_simp; rfl)); intro gb187 hg w18 hbox hb; have n0_ := zA (zQ apA hb); have n1_ := zA (hbox); have n2_ := zA ((by rw [hg]; exact (zR apA) : w.heap.size ≤ gb187)); have n3_ := zA ((by rw [hg]; exact (zR apA) : w.heap.size ≤ gb187)); clear HB; have HB := n0_; have BK187 := n1_; have GW187 := n2_; have GE187 := n3_; clear n0_ n1_ n2_ n3_; clear hb hbox hg; have hcz19_0 : w18.cell? ⟨gb187, 0, none⟩ = some (.int .i64 a0_0) := (zJ BK187.out 0).trans rfl; have hcz19_1 : w18.cell? ⟨gb187, 1, none⟩ = some (.int .i64 a0_1) := (zJ BK187.out 1).trans rfl; have hfz19_0 := zK BK187.out 0; have hfz19_1 := zK BK187.out 1) | (go_at_call 49; (with_reducible refine (spec_l1Dec.calls k a0_0 t191 _ A10.out).mono ?_); rintro e w20 ⟨rfl, hb⟩; have n0_ := zA (zP (g := gb187) (o := .cells #[.int .i64 a0_0, .int .i64 a0_1] 30 (0, 0)) (by (with_reducible repeat (first | refine zB ?_ _ | refine zD ?_ | refine zC ?_ _)); exact BK187.out) hb); have n1_ := zA (zQ (by repeat (first | (with_reducible first | exact HB.out | apply zG | apply zE | apply zF | refine zH ?_ GE187.out) | exact HB.out)) hb); clear BK187; clear HB; have BK187 := n0_; have HB := n1_; clear n0_ n1_; (try clear hb); (try clear hb2); (try clear hk); (try clear hi); have hcz21_0 : w20.cell? ⟨gb187, 0, none⟩ = some (.int .i64 a0_0) := (zJ BK187.out 0).trans rfl; have hcz21_1 : w20.cell? ⟨gb187, 1, none⟩ = some (.int .i64 a0_1) := (zJ BK187.out 1).trans rfl; have hfz21_0 := zK BK187.out 0; have hfz21_1 := zK BK187.out 1))
   repeat (go_quiet (first | ((with_reducible refine zT (N := 1) rfl ?_); refine zX ?hg (N := 1) ?hd (cs := #[.int .i64 a0_0, .int .i64 a0_1]) (t := 30) ?hr ?_; (case hd => rfl); (case hg => rfl); (case hr => first | (go_simp; done) | (go_simp; rfl)); intro gb187 hg w18 hbox hb; have n0_ := zA (zQ apA hb); have n1_ := zA (hbox); have n2_ := zA ((by rw [hg]; exact (zR apA) : w.heap.size ≤ gb187)); have n3_ := zA ((by rw [hg]; exact (zR apA) : w.heap.size ≤ gb187)); clear HB; have HB := n0_; have BK187 := n1_; have GW187 := n2_; have GE187 := n3_; clear n0_ n1_ n2_ n3_; clear hb hbox hg; have hcz19_0 : w18.cell? ⟨gb187, 0, none⟩ = some (.int .i64 a0_0) := (zJ BK187.out 0).trans rfl; have hcz19_1 : w18.cell? ⟨gb187, 1, none⟩ = some (.int .i64 a0_1) := (zJ BK187.out 1).trans rfl; have hfz19_0 := zK BK187.out 0; have hfz19_1 := zK BK187.out 1) | (go_at_call 49; (with_reducible refine (spec_l1Dec.calls k a0_0 t191 _ A10.out).mono ?_); rintro e w20 ⟨rfl, hb⟩; have n0_ := zA (zP (g := gb187) (o := .cells #[.int .i64 a0_0, .int .i64 a0_1] 30 (0, 0)) (by (with_reducible repeat (first | refine zB ?_ _ | refine zD ?_ | refine zC ?_ _)); exact BK187.out) hb); have n1_ := zA (zQ (by repeat (first | (with_reducible first | exact HB.out | apply zG | apply zE | apply zF | refine zH ?_ GE187.out) | exact HB.out)) hb); clear BK187; clear HB; have BK187 := n0_; have HB := n1_; clear n0_ n1_; (try clear hb); (try clear hb2); (try clear hk); (try clear hi); have hcz21_0 : w20.cell? ⟨gb187, 0, none⟩ = some (.int .i64 a0_0) := (zJ BK187.out 0).trans rfl; have hcz21_1 : w20.cell? ⟨gb187, 1, none⟩ = some (.int .i64 a0_1) := (zJ BK187.out 1).trans rfl; have hfz21_0 := zK BK187.out 0; have hfz21_1 := zK BK187.out 1)); try go_wp2_with (first | ((with_reducible refine zT (N := 1) rfl ?_); refine zX ?hg (N := 1) ?hd (cs := #[.int .i64 a0_0, .int .i64 a0_1]) (t := 30) ?hr ?_; (case hd => rfl); (case hg => rfl); (case hr => first | (go_simp; done) | (go_simp; rfl)); intro gb187 hg w18 hbox hb; have n0_ := zA (zQ apA hb); have n1_ := zA (hbox); have n2_ := zA ((by rw [hg]; exact (zR apA) : w.heap.size ≤ gb187)); have n3_ := zA ((by rw [hg]; exact (zR apA) : w.heap.size ≤ gb187)); clear HB; have HB := n0_; have BK187 := n1_; have GW187 := n2_; have GE187 := n3_; clear n0_ n1_ n2_ n3_; clear hb hbox hg; have hcz19_0 : w18.cell? ⟨gb187, 0, none⟩ = some (.int .i64 a0_0) := (zJ BK187.out 0).trans rfl; have hcz19_1 : w18.cell? ⟨gb187, 1, none⟩ = some (.int .i64 a0_1) := (zJ BK187.out 1).trans rfl; have hfz19_0 := zK BK187.out 0; have hfz19_1 := zK BK187.out 1) | (go_at_call 49; (with_reducible refine (spec_l1Dec.calls k a0_0 t191 _ A10.out).mono ?_); rintro e w20 ⟨rfl, hb⟩; have n0_ := zA (zP (g := gb187) (o := .cells #[.int .i64 a0_0, .int .i64 a0_1] 30 (0, 0)) (by (with_reducible repeat (first | refine zB ?_ _ | refine zD ?_ | refine zC ?_ _)); exact BK187.out) hb); have n1_ := zA (zQ (by repeat (first | (with_reducible first | exact HB.out | apply zG | apply zE | apply zF | refine zH ?_ GE187.out) | exact HB.out)) hb); clear BK187; clear HB; have BK187 := n0_; have HB := n1_; clear n0_ n1_; (try clear hb); (try clear hb2); (try clear hk); (try clear hi); have hcz21_0 : w20.cell? ⟨gb187, 0, none⟩ = some (.int .i64 a0_0) := (zJ BK187.out 0).trans rfl; have hcz21_1 : w20.cell? ⟨gb187, 1, none⟩ = some (.int .i64 a0_1) := (zJ BK187.out 1).trans rfl; have hfz21_0 := zK BK187.out 0; have hfz21_1 := zK BK187.out 1)))
   go_loopg [3] k (fun kq v3 w' => ∃ (x3_1 : ByteArray), v3 = .string x3_1 ∧ Aside0 (spec_l1Text.l0 kq x3_1 a0_0 a0_1 = some r) ∧ Aside0 (kq ≤ k) ∧ Aside0 (w'.heap[gb187]? = some (.cells #[.int .i64 a0_0, .int .i64 a0_1] 30 (0, 0))) ∧ Aside0 (Below w.heap.size w w'))
   case atStart => exact ⟨(t191), apB, H', ⟨yK _⟩, ⟨by (with_reducible repeat (first | refine zB ?_ _ | refine zD ?_ | refine zC ?_ _)); exact BK187.out⟩, ⟨by repeat (first | (with_reducible first | exact HB.out | apply zG | apply zE | apply zF | refine zH ?_ GE187.out) | exact HB.out)⟩⟩
   case round =>
    clear H'
    try clear c1
    try clear c2
    try clear c2b0
    try clear p2
    try clear c3
    try clear c5
    try clear c5b0
    try clear c5b1
    try clear c5b2
    try clear c11
    try clear c11b0
    try clear c13
    try clear c13b0
    try clear c13b1
    try clear c13b2
    try clear hcz15_0
    try clear hcz15_1
    try clear hcz17_0
    try clear hcz17_1
    try clear hcz19_0
    try clear hcz19_1
    try clear hcz21_0
    try clear hcz21_1
    try clear hcz7_0
    try clear hcz7_1
    try clear hfz15_0
    try clear hfz15_1
    try clear hfz17_0
    try clear hfz17_1
    try clear hfz19_0
    try clear hfz19_1
    try clear hfz21_0
    try clear hfz21_1
    try clear hfz7_0
    try clear hfz7_1
    obtain ⟨x3_1, rfl, HA, HK1, BK187, HB⟩ := hrel
    cases gk with
    | zero => exact absurd HA.out (by simp [spec_l1Text.l0])
    | succ k1 =>
     have H := HA.out
     clear HA
     simp only [spec_l1Text.l0] at H
     by_cases c22 : (x3_1.size : Int) ≤ (wrap64 (-a0_1))
     ·rw [if_pos c22] at H
      have c22b0 : decide ((x3_1.size : Int) ≤ (wrap64 (-a0_1))) = true := yF c22
      clear c22
      by_cases c23 : 1 + x3_1.size ≤ 9223372036854775807
      ·rw [if_pos c23] at H
       have c23b0 := eq_true c23
       have c23b1 : decide (1 + x3_1.size ≤ 9223372036854775807) = true := yF c23
       try have c23b2 : (9223372036854775807 < 1 + x3_1.size) = False := eq_false (Nat.not_lt.2 c23)
       have H' := zA H
       clear H
       have hcz24_0 : wr.cell? ⟨gb187, 0, none⟩ = some (.int .i64 a0_0) := (zJ BK187.out 0).trans rfl
       have hcz24_1 : wr.cell? ⟨gb187, 1, none⟩ = some (.int .i64 a0_1) := (zJ BK187.out 1).trans rfl
       have hfz24_0 := zK BK187.out 0
       have hfz24_1 := zK BK187.out 1
       go_wp2
       repeat (go_quiet (fail); try go_wp2)
       go_roundg k1
       case measure => have := HK1.out; omega
       case rel => exact ⟨((⟨#[48]⟩ : ByteArray) ++ x3_1), apB, H', ⟨by have := HK1.out; omega⟩, ⟨by (with_reducible repeat (first | refine zB ?_ _ | refine zD ?_ | refine zC ?_ _)); exact BK187.out⟩, ⟨by repeat (first | (with_reducible first | exact HB.out | apply zG | apply zE | apply zF | refine zH ?_ GE187.out) | exact HB.out)⟩⟩
      ·rw [if_neg c23] at H
       exact absurd H (by simp)
     ·rw [if_neg c22] at H
      have c22b0 : decide ((x3_1.size : Int) ≤ (wrap64 (-a0_1))) = false := decide_eq_false c22
      clear c22
      obtain ⟨ji25, hji25⟩ : ∃ j_ : Int, (wrap64 ((x3_1.size : Int) + a0_1)) = j_ := ⟨_, rfl⟩
      replace H : (if 0 ≤ (ji25) then (if (ji25) ≤ (x3_1.size : Int) then (if (x3_1.extract 0 ((ji25) : Int).toNat).size + 1 ≤ 9223372036854775807 then (if ((x3_1.extract 0 ((ji25) : Int).toNat) ++ (⟨#[46]⟩ : ByteArray)).size + (x3_1.extract ((ji25) : Int).toNat x3_1.size).size ≤ 9223372036854775807 then (some (((x3_1.extract 0 ((ji25) : Int).toNat) ++ (⟨#[46]⟩ : ByteArray)) ++ (x3_1.extract ((ji25) : Int).toNat x3_1.size))) else (none)) else (none)) else (none)) else (none)) = some r := by first | (rw [hji25] at H; exact H) | (simp only [hji25] at H ⊢; exact H)
      have hji25w : (IntKind.i64.wrap ((x3_1.size : Int) + a0_1)) = ji25 := (i64_w _).trans hji25
      by_cases c26 : 0 ≤ (ji25)
      ·rw [if_pos c26] at H
       have c26b0 := eq_true c26
       have c26b1 : decide (0 ≤ (ji25)) = true := yF c26
       clear c26
       by_cases c27 : (ji25) ≤ (x3_1.size : Int)
       ·rw [if_pos c27] at H
        have c27b0 := eq_true c27
        have c27b1 : decide ((ji25) ≤ (x3_1.size : Int)) = true := yF c27
        clear c27
        by_cases c28 : (x3_1.extract 0 ((ji25) : Int).toNat).size + 1 ≤ 9223372036854775807
        ·rw [if_pos c28] at H
         have c28b0 := eq_true c28
         have c28b1 : decide ((x3_1.extract 0 ((ji25) : Int).toNat).size + 1 ≤ 9223372036854775807) = true := yF c28
         try have c28b2 : (9223372036854775807 < (x3_1.extract 0 ((ji25) : Int).toNat).size + 1) = False := eq_false (Nat.not_lt.2 c28)
         have c29b0 := eq_true (yG apC : 0 ≤ (ji25))
         have c30b0 := eq_true (yG apC : (ji25) ≤ (x3_1.size : Int))
         by_cases c31 : ((x3_1.extract 0 ((ji25) : Int).toNat) ++ (⟨#[46]⟩ : ByteArray)).size + (x3_1.extract ((ji25) : Int).toNat x3_1.size).size ≤ 9223372036854775807
         ·rw [if_pos c31] at H
          (try (have c31b9 := eq_true c31; simp only [ByteArray.size_append, Int.natCast_add, show ((⟨#[46]⟩ : ByteArray)).size = 1 from rfl] at c31b9))
          (try (have c31b8 := eq_false (Nat.not_lt.2 c31); simp only [ByteArray.size_append, show ((⟨#[46]⟩ : ByteArray)).size = 1 from rfl] at c31b8))
          have c31b0 := eq_true c31
          have c31b1 : decide (((x3_1.extract 0 ((ji25) : Int).toNat) ++ (⟨#[46]⟩ : ByteArray)).size + (x3_1.extract ((ji25) : Int).toNat x3_1.size).size ≤ 9223372036854775807) = true := yF c31
          try have c31b2 : (9223372036854775807 < ((x3_1.extract 0 ((ji25) : Int).toNat) ++ (⟨#[46]⟩ : ByteArray)).size + (x3_1.extract ((ji25) : Int).toNat x3_1.size).size) = False := eq_false (Nat.not_lt.2 c31)
          try simp only [ByteArray.size_append] at c31b2
          obtain rfl := yH H
          have hcz32_0 : wr.cell? ⟨gb187, 0, none⟩ = some (.int .i64 a0_0) := (zJ BK187.out 0).trans rfl
          have hcz32_1 : wr.cell? ⟨gb187, 1, none⟩ = some (.int .i64 a0_1) := (zJ BK187.out 1).trans rfl
          have hfz32_0 := zK BK187.out 0
          have hfz32_1 := zK BK187.out 1
          go_wp2
          repeat (go_quiet (fail); try go_wp2)
          go_ret
          exact ⟨by first | rfl | (simp [errW_none, errW_some] <;> rfl) | (simp only [← hji25]; first | rfl | (simp [errW_none, errW_some] <;> rfl)) | (simp [*, errW_none, errW_some] <;> rfl), by repeat (first | (with_reducible first | exact HB.out | apply zG | apply zE | apply zF | refine zH ?_ GE187.out) | exact HB.out)⟩
         ·rw [if_neg c31] at H
          exact absurd H (by simp)
        ·rw [if_neg c28] at H
         exact absurd H (by simp)
       ·rw [if_neg c27] at H
        exact absurd H (by simp)
      ·rw [if_neg c26] at H
       exact absurd H (by simp)

end Go.Proofs.YtihepjjjdjemfaaDoor.Q

namespace Go.Proofs.YtihepjjjdjemfaaDoor.Q
open Go.RowKit Go.Proofs.YtihepjjjdjemfaaDoorW.PrintWords Go.Proofs.YtihepjjjdjemfaaDoorW.PrintLast Go.Proofs.YtihepjjjdjemfaaDoorW.PrintMore Go.Proofs.YtihepjjjdjemfaaDoorX
attribute [local go_sem] max2_int min2_int max_two min_two max_three min_three max_four min_four   -- for this text's walks alone
set_option linter.unusedVariables false
set_option linter.unusedSimpArgs false

def spec_l7Escape.j0 : Nat → Int → ByteArray → Bool → Option (ByteArray)
 | 0, _, _, _ => none
 | k + 1, x0, x3, x4 => if x4 = true then (some (strOfNums (([92, x0] : List Int)))) else (if x0 ≥ 32 then (if x0 < 127 then (some (strOfNums (([x0] : List Int)))) else (if 0 ≤ ((Int.tdiv x0 16) % 256) then (if ((Int.tdiv x0 16) % 256) < (x3.size : Int) then (if 0 ≤ (Int.tmod x0 16) then (if (Int.tmod x0 16) < (x3.size : Int) then ((some (([bt x3 ((Int.tdiv x0 16) % 256), bt x3 (Int.tmod x0 16)] : List Int) : List Int)).bind fun y199 => (if 4 + (strOfNums y199).size ≤ 9223372036854775807 then (some ((⟨#[92, 117, 48, 48]⟩ : ByteArray) ++ (strOfNums y199))) else (none))) else (none)) else (none)) else (none)) else (none))) else (if 0 ≤ ((Int.tdiv x0 16) % 256) then (if ((Int.tdiv x0 16) % 256) < (x3.size : Int) then (if 0 ≤ (Int.tmod x0 16) then (if (Int.tmod x0 16) < (x3.size : Int) then ((some (([bt x3 ((Int.tdiv x0 16) % 256), bt x3 (Int.tmod x0 16)] : List Int) : List Int)).bind fun y202 => (if 4 + (strOfNums y202).size ≤ 9223372036854775807 then (some ((⟨#[92, 117, 48, 48]⟩ : ByteArray) ++ (strOfNums y202))) else (none))) else (none)) else (none)) else (none)) else (none)))
def spec_l7Escape.f (k : Nat) (a0 : Int) : Option (ByteArray) := if a0 = 34 then (spec_l7Escape.j0 k a0 (⟨#[48, 49, 50, 51, 52, 53, 54, 55, 56, 57, 97, 98, 99, 100, 101, 102]⟩ : ByteArray) true) else (spec_l7Escape.j0 k a0 (⟨#[48, 49, 50, 51, 52, 53, 54, 55, 56, 57, 97, 98, 99, 100, 101, 102]⟩ : ByteArray) (a0 == 92))
theorem spec_l7Escape.mono_l : ∀ k, (∀ y0 y1 y2, LeO (spec_l7Escape.j0 k y0 y1 y2) (spec_l7Escape.j0 (k + 1) y0 y1 y2))
 | 0 => fun _ _ _ r h => by simp [spec_l7Escape.j0] at h
 | k + 1 => by
  have ih0 := spec_l7Escape.mono_l k
  ·intro y0 y1 y2
   unfold spec_l7Escape.j0
   repeat' first
   | (with_reducible exact ih0 _ _ _)
   | (with_reducible exact LeO.refl _)
   | (with_reducible exact LeO.none _)
   | (with_reducible refine LeO.ite ?_ ?_)
   | (with_reducible refine LeO.bind ?_ (fun _ => ?_))
   | exact ih0 _ _ _
theorem spec_l7Escape.mono : ∀ a0 k, LeO (spec_l7Escape.f k a0) (spec_l7Escape.f (k + 1) a0) := by
 intro a0 k
 have ih0 := spec_l7Escape.mono_l k
 unfold spec_l7Escape.f
 repeat' first
   | (with_reducible exact ih0 _ _ _)
   | (with_reducible exact LeO.refl _)
   | (with_reducible exact LeO.none _)
   | (with_reducible refine LeO.ite ?_ ?_)
   | (with_reducible refine LeO.bind ?_ (fun _ => ?_))
   | exact ih0 _ _ _
def spec_l7Escape.T6 : Bool × List (List Nat × List Nat) := (true, [([], []), ([], []), ([1], [1]), ([0, 2], [0, 2]), ([], []), ([], []), ([5], [5]), ([4, 6], [4, 6]), ([3, 7], [3, 7]), ([8], [8]), ([9], [9]), ([10, 0, 1, 2, 3, 4, 5, 6, 7, 8, 9, 10], [10])])
def spec_l7Escape.B6 : List Nat := [0, 0, 2, 7, 0, 0, 32, 112, 255, 511, 1023, 2047]
theorem spec_l7Escape.tab6 : rtab .any (opsOf Tryd.f33 6) = spec_l7Escape.T6 := by kernel_rfl
theorem spec_l7Escape.bits6 : waitsOk spec_l7Escape.T6.2 spec_l7Escape.B6 = true := by kernel_rfl
set_option maxHeartbeats 8000000 in
set_option maxRecDepth 100000 in
theorem spec_l7Escape.calls (k : Nat) (a0 : Int) (r : ByteArray) (w : World) (h : spec_l7Escape.f k a0 = some r) :
  Calls Tryd.prog 33 #[.int .u8 a0] w fun e w' => e = .returned (.string r) ∧ Below w.heap.size w w' := by
 have HB := zA (yJ w.heap.size w)
 have H : (if a0 = 34 then (spec_l7Escape.j0 k a0 (⟨#[48, 49, 50, 51, 52, 53, 54, 55, 56, 57, 97, 98, 99, 100, 101, 102]⟩ : ByteArray) true) else (spec_l7Escape.j0 k a0 (⟨#[48, 49, 50, 51, 52, 53, 54, 55, 56, 57, 97, 98, 99, 100, 101, 102]⟩ : ByteArray) (a0 == 92))) = some r := h
 clear h
 have HC2 := zA H
 clear H
 go_enter Tryd.func33, Tryd.ntmps33
 go_upto_region 2 with (fail)
 go_cut [4] (fun v4 wc => ∃ (kq : Nat) (x4_1 : Bool), v4 = .bool x4_1 ∧ Aside0 (spec_l7Escape.j0 kq a0 (⟨#[48, 49, 50, 51, 52, 53, 54, 55, 56, 57, 97, 98, 99, 100, 101, 102]⟩ : ByteArray) x4_1 = some r) ∧ Aside0 (kq ≤ k) ∧ Aside0 (Below w.heap.size w wc))
 case first =>
  have H := HC2.out
  clear HC2
  by_cases c3 : a0 = 34
  ·rw [if_pos c3] at H
   have c3b0 : (a0 == 34) = true := beq_iff_eq.mpr c3
   have c3b1 : (a0 != 34) = false := bne_eq_false_iff_eq.mpr c3
   clear c3
   (first | rw [c3b0] | (simp only [i64_w, i32_w]; rw [c3b0]) | skip)
   have H' := zA H
   clear H
   go_wp2
   go_meet
   case rel => exact ⟨_, (true), apB, H', ⟨by first | omega | exact yK _⟩, ⟨apA⟩⟩
  ·rw [if_neg c3] at H
   have c3b0 : (a0 == 34) = false := beq_eq_false_iff_ne.mpr c3
   have c3b1 : (a0 != 34) = true := bne_iff_ne.mpr c3
   (first | rw [c3b0] | (simp only [i64_w, i32_w]; rw [c3b0]) | skip)
   have H' := zA H
   clear H
   go_wp2
   go_meet
   case rel => exact ⟨_, ((a0 == 92)), apB, H', ⟨by first | omega | exact yK _⟩, ⟨apA⟩⟩
 case rest =>
  clear HC2
  try clear p2
  try clear c3
  try clear c3b0
  try clear c3b1
  obtain ⟨kq, x4_1, rfl, HA, HJ1, HB⟩ := hcut
  cases kq with
  | zero => exact absurd HA.out (by simp [spec_l7Escape.j0])
  | succ kj1 =>
   have H := HA.out
   clear HA
   simp only [spec_l7Escape.j0] at H
   by_cases c4 : x4_1 = true
   ·subst c4
    have H1 : (some (strOfNums (([92, a0] : List Int)))) = some r := by rw [if_pos rfl] at H; exact H
    clear H
    have H := H1
    clear H1
    obtain ⟨y193, hy193⟩ : ∃ y_ : List Int, y_ = (([92, a0] : List Int)) := ⟨_, rfl⟩
    replace H : (some (strOfNums y193)) = some r := by first | (rw [hy193]; with_reducible exact H) | (have H2_ := (Option.bind_some _ _).symm.trans H; rw [hy193]; with_reducible exact H2_) | (have H2_ := (Option.bind_some _ _).symm.trans H; with_reducible exact H2_) | with_reducible exact H | (rw [hy193]; exact H) | exact H
    have Ny193 := zA hy193
    clear hy193
    obtain rfl := yH H
    go_wp2_with (first | ((with_reducible refine zT (N := 12) rfl ?_); refine Kd.R_lit (Kd.int .u8) _ 5 ?hg (N := 12) ?hd (xs := ([92, a0] : List Int)) (inner := [.int .u8 92, .int .u8 a0]) (ok := fun _ => True) (okp := fun _ => True) ?hr ?hp (fun _ hk => hk) trivial (yJ _ _) (yK _) (by simp) ?_; (case hd => rfl); (case hg => rfl); (case hr => first | (go_simp; done) | (go_simp; rfl)); (case hp => exact (Reps.one (show Kd.M (Kd.int .u8) _ _ _ 92 [.int .u8 92] from rfl) (Reps.one (show Kd.M (Kd.int .u8) _ _ _ a0 [.int .u8 a0] from rfl) (Reps.none _ _)))); intro v194 w5 ho6 hb hg_ hnew_; clear hg_ hnew_; (first | rw [← Ny193.out] at ho6 | (simp only [Int.reduceToNat] at ho6; rw [← Ny193.out] at ho6)); have n0_ := zA (Kd.R_lower ho6 (zR apA)); have n1_ := zA (zQ apA hb); clear HB; have HO195 := n0_; have HB := n1_; clear n0_ n1_; clear hb ho6; have hcv7 := own_string (P := Tryd.prog) Tryd.underlying60 Tryd.underlying5 Tryd.underlying9 (Kd.own_of_R HO195.out)))
    go_ret
    exact ⟨apD, apA⟩
   ·replace c4 := Bool.eq_false_iff.mpr c4
    subst c4
    have H1 : (if a0 ≥ 32 then (if a0 < 127 then (some (strOfNums (([a0] : List Int)))) else (if 0 ≤ ((Int.tdiv a0 16) % 256) then (if ((Int.tdiv a0 16) % 256) < ((⟨#[48, 49, 50, 51, 52, 53, 54, 55, 56, 57, 97, 98, 99, 100, 101, 102]⟩ : ByteArray).size : Int) then (if 0 ≤ (Int.tmod a0 16) then (if (Int.tmod a0 16) < ((⟨#[48, 49, 50, 51, 52, 53, 54, 55, 56, 57, 97, 98, 99, 100, 101, 102]⟩ : ByteArray).size : Int) then ((some (([bt (⟨#[48, 49, 50, 51, 52, 53, 54, 55, 56, 57, 97, 98, 99, 100, 101, 102]⟩ : ByteArray) ((Int.tdiv a0 16) % 256), bt (⟨#[48, 49, 50, 51, 52, 53, 54, 55, 56, 57, 97, 98, 99, 100, 101, 102]⟩ : ByteArray) (Int.tmod a0 16)] : List Int) : List Int)).bind fun y199 => (if 4 + (strOfNums y199).size ≤ 9223372036854775807 then (some ((⟨#[92, 117, 48, 48]⟩ : ByteArray) ++ (strOfNums y199))) else (none))) else (none)) else (none)) else (none)) else (none))) else (if 0 ≤ ((Int.tdiv a0 16) % 256) then (if ((Int.tdiv a0 16) % 256) < ((⟨#[48, 49, 50, 51, 52, 53, 54, 55, 56, 57, 97, 98, 99, 100, 101, 102]⟩ : ByteArray).size : Int) then (if 0 ≤ (Int.tmod a0 16) then (if (Int.tmod a0 16) < ((⟨#[48, 49, 50, 51, 52, 53, 54, 55, 56, 57, 97, 98, 99, 100, 101, 102]⟩ : ByteArray).size : Int) then ((some (([bt (⟨#[48, 49, 50, 51, 52, 53, 54, 55, 56, 57, 97, 98, 99, 100, 101, 102]⟩ : ByteArray) ((Int.tdiv a0 16) % 256), bt (⟨#[48, 49, 50, 51, 52, 53, 54, 55, 56, 57, 97, 98, 99, 100, 101, 102]⟩ : ByteArray) (Int.tmod a0 16)] : List Int) : List Int)).bind fun y202 => (if 4 + (strOfNums y202).size ≤ 9223372036854775807 then (some ((⟨#[92, 117, 48, 48]⟩ : ByteArray) ++ (strOfNums y202))) else (none))) else (none)) else (none)) else (none)) else (none))) = some r := by rw [if_neg (show ¬ (false = true) by decide)] at H; exact H
    clear H
    have H := H1
    clear H1
    by_cases c8 : a0 ≥ 32
    ·rw [if_pos c8] at H
     have c8b0 : decide (32 ≤ a0) = true := yF c8
     clear c8
     by_cases c9 : a0 < 127
     ·rw [if_pos c9] at H
      have c9b0 : decide (a0 < 127) = true := yF c9
      clear c9
      obtain ⟨y196, hy196⟩ : ∃ y_ : List Int, y_ = (([a0] : List Int)) := ⟨_, rfl⟩
      replace H : (some (strOfNums y196)) = some r := by first | (rw [hy196]; with_reducible exact H) | (have H2_ := (Option.bind_some _ _).symm.trans H; rw [hy196]; with_reducible exact H2_) | (have H2_ := (Option.bind_some _ _).symm.trans H; with_reducible exact H2_) | with_reducible exact H | (rw [hy196]; exact H) | exact H
      have Ny196 := zA hy196
      clear hy196
      obtain rfl := yH H
      go_wp2_with (first | ((with_reducible refine zT (N := 22) rfl ?_); refine Kd.R_lit (Kd.int .u8) _ 5 ?hg (N := 22) ?hd (xs := ([a0] : List Int)) (inner := [.int .u8 a0]) (ok := fun _ => True) (okp := fun _ => True) ?hr ?hp (fun _ hk => hk) trivial (yJ _ _) (yK _) (by simp) ?_; (case hd => rfl); (case hg => rfl); (case hr => first | (go_simp; done) | (go_simp; rfl)); (case hp => exact (Reps.one (show Kd.M (Kd.int .u8) _ _ _ a0 [.int .u8 a0] from rfl) (Reps.none _ _))); intro v197 w10 ho11 hb hg_ hnew_; clear hg_ hnew_; (first | rw [← Ny196.out] at ho11 | (simp only [Int.reduceToNat] at ho11; rw [← Ny196.out] at ho11)); have n0_ := zA (Kd.R_lower ho11 (zR apA)); have n1_ := zA (zQ apA hb); clear HB; have HO198 := n0_; have HB := n1_; clear n0_ n1_; clear hb ho11; have hcv12 := own_string (P := Tryd.prog) Tryd.underlying60 Tryd.underlying5 Tryd.underlying9 (Kd.own_of_R HO198.out)))
      go_ret
      exact ⟨apD, apA⟩
     ·rw [if_neg c9] at H
      have c9b0 : decide (a0 < 127) = false := decide_eq_false c9
      clear c9
      obtain ⟨ji13, hji13⟩ : ∃ j_ : Int, ((Int.tdiv a0 16) % 256) = j_ := ⟨_, rfl⟩
      replace H : (if 0 ≤ (ji13) then (if (ji13) < ((⟨#[48, 49, 50, 51, 52, 53, 54, 55, 56, 57, 97, 98, 99, 100, 101, 102]⟩ : ByteArray).size : Int) then (if 0 ≤ (Int.tmod a0 16) then (if (Int.tmod a0 16) < ((⟨#[48, 49, 50, 51, 52, 53, 54, 55, 56, 57, 97, 98, 99, 100, 101, 102]⟩ : ByteArray).size : Int) then ((some (([bt (⟨#[48, 49, 50, 51, 52, 53, 54, 55, 56, 57, 97, 98, 99, 100, 101, 102]⟩ : ByteArray) (ji13), bt (⟨#[48, 49, 50, 51, 52, 53, 54, 55, 56, 57, 97, 98, 99, 100, 101, 102]⟩ : ByteArray) (Int.tmod a0 16)] : List Int) : List Int)).bind fun y199 => (if 4 + (strOfNums y199).size ≤ 9223372036854775807 then (some ((⟨#[92, 117, 48, 48]⟩ : ByteArray) ++ (strOfNums y199))) else (none))) else (none)) else (none)) else (none)) else (none)) = some r := by first | (rw [hji13] at H; exact H) | (simp only [hji13] at H ⊢; exact H)
      (try have hji13u : (IntKind.u8.wrap (Int.tdiv a0 16)) = ji13 := (IntKind.wrap_u8 _).trans hji13)
      by_cases c14 : 0 ≤ (ji13)
      ·rw [if_pos c14] at H
       have c14b0 : decide (0 ≤ (ji13)) = true := yF c14
       clear c14
       by_cases c15 : (ji13) < ((⟨#[48, 49, 50, 51, 52, 53, 54, 55, 56, 57, 97, 98, 99, 100, 101, 102]⟩ : ByteArray).size : Int)
       ·rw [if_pos c15] at H
        have c15b0 : decide ((ji13) < ((⟨#[48, 49, 50, 51, 52, 53, 54, 55, 56, 57, 97, 98, 99, 100, 101, 102]⟩ : ByteArray).size : Int)) = true := yF c15
        clear c15
        obtain ⟨ji17, hji17⟩ : ∃ j_ : Int, (Int.tmod a0 16) = j_ := ⟨_, rfl⟩
        replace H : (if 0 ≤ (ji17) then (if (ji17) < ((⟨#[48, 49, 50, 51, 52, 53, 54, 55, 56, 57, 97, 98, 99, 100, 101, 102]⟩ : ByteArray).size : Int) then ((some (([bt (⟨#[48, 49, 50, 51, 52, 53, 54, 55, 56, 57, 97, 98, 99, 100, 101, 102]⟩ : ByteArray) (ji13), bt (⟨#[48, 49, 50, 51, 52, 53, 54, 55, 56, 57, 97, 98, 99, 100, 101, 102]⟩ : ByteArray) (ji17)] : List Int) : List Int)).bind fun y199 => (if 4 + (strOfNums y199).size ≤ 9223372036854775807 then (some ((⟨#[92, 117, 48, 48]⟩ : ByteArray) ++ (strOfNums y199))) else (none))) else (none)) else (none)) = some r := by first | (rw [hji17] at H; exact H) | (simp only [hji17] at H ⊢; exact H)
        by_cases c18 : 0 ≤ (ji17)
        ·rw [if_pos c18] at H
         have c18b0 : decide (0 ≤ (ji17)) = true := yF c18
         clear c18
         by_cases c19 : (ji17) < ((⟨#[48, 49, 50, 51, 52, 53, 54, 55, 56, 57, 97, 98, 99, 100, 101, 102]⟩ : ByteArray).size : Int)
         ·rw [if_pos c19] at H
          have c19b0 : decide ((ji17) < ((⟨#[48, 49, 50, 51, 52, 53, 54, 55, 56, 57, 97, 98, 99, 100, 101, 102]⟩ : ByteArray).size : Int)) = true := yF c19
          clear c19
          obtain ⟨y199, hy199⟩ : ∃ y_ : List Int, y_ = (([bt (⟨#[48, 49, 50, 51, 52, 53, 54, 55, 56, 57, 97, 98, 99, 100, 101, 102]⟩ : ByteArray) (ji13), bt (⟨#[48, 49, 50, 51, 52, 53, 54, 55, 56, 57, 97, 98, 99, 100, 101, 102]⟩ : ByteArray) (ji17)] : List Int)) := ⟨_, rfl⟩
          replace H : (if 4 + (strOfNums y199).size ≤ 9223372036854775807 then (some ((⟨#[92, 117, 48, 48]⟩ : ByteArray) ++ (strOfNums y199))) else (none)) = some r := by first | (rw [hy199]; with_reducible exact H) | (have H2_ := (Option.bind_some _ _).symm.trans H; rw [hy199]; with_reducible exact H2_) | (have H2_ := (Option.bind_some _ _).symm.trans H; with_reducible exact H2_) | with_reducible exact H | (rw [hy199]; exact H) | exact H
          have Ny199 := zA hy199
          clear hy199
          by_cases c21 : 4 + (strOfNums y199).size ≤ 9223372036854775807
          ·rw [if_pos c21] at H
           have c21b0 := eq_true c21
           have c21b1 : decide (4 + (strOfNums y199).size ≤ 9223372036854775807) = true := yF c21
           try have c21b2 : (9223372036854775807 < 4 + (strOfNums y199).size) = False := eq_false (Nat.not_lt.2 c21)
           obtain rfl := yH H
           try go_wp2
           have n0_ := zA (zF HB.out)
           clear HB
           have HB := n0_
           clear n0_
           have p16 : 0 ≤ ((ji13) : Int) := yG apC
           have q16 : (ji13) < (16 : Int) := yG apC
           have hx16 := bt_at (⟨#[48, 49, 50, 51, 52, 53, 54, 55, 56, 57, 97, 98, 99, 100, 101, 102]⟩ : ByteArray) (ji13)
           replace p16 := eq_true p16
           replace q16 := eq_true q16
           have p20 : 0 ≤ ((ji17) : Int) := yG apC
           have q20 : (ji17) < (16 : Int) := yG apC
           have hx20 := bt_at (⟨#[48, 49, 50, 51, 52, 53, 54, 55, 56, 57, 97, 98, 99, 100, 101, 102]⟩ : ByteArray) (ji17)
           replace p20 := eq_true p20
           replace q20 := eq_true q20
           refine start_ (n := 12) (S := fun w' => True) (ds := []) #[false, false, false, false, false, false, false, false, false, false, false, false] (by kernel_rfl) rfl rfl trivial (fun hHeld => ?_); refine with_tabW spec_l7Escape.tab6 spec_l7Escape.bits6 (fun HT_ HW_ => ?_)
           generalize wc.drew = w22 at HB hHeld ⊢
           refine pure_ (i := 0) (N := some 24) (v := ?_) (a' := ?_) #[true, false, false, false, false, false, false, false, false, false, false, false] rfl rfl (any_of HT_.out (by kernel_rfl)) (fun _ _ _ h => h) (Or.inl ⟨by rfl, ?_⟩) ?_ ?_
           rotate_left
           ·intro w'
            go_simp
            with_reducible rfl
           rotate_left
           ·simp only [Act.put, zL, zM, zN, i64_w, i32_w]
            rfl
           refine pure_ (i := 1) (N := some 25) (v := ?_) (a' := ?_) #[true, true, false, false, false, false, false, false, false, false, false, false] rfl rfl (any_of HT_.out (by kernel_rfl)) (fun _ _ _ h => h) (Or.inl ⟨by rfl, ?_⟩) ?_ ?_
           rotate_left
           ·intro w'
            go_simp
            with_reducible rfl
           rotate_left
           ·simp only [Act.put, zL, zM, zN, i64_w, i32_w]
            rfl
           refine pure_ (i := 2) (N := some 26) (v := ?_) (a' := ?_) #[true, true, true, false, false, false, false, false, false, false, false, false] rfl rfl (any_of HT_.out (by kernel_rfl)) (fun _ _ _ h => h) (Or.inl ⟨by rfl, ?_⟩) ?_ ?_
           rotate_left
           ·intro w'
            go_simp
            with_reducible rfl
           rotate_left
           ·simp only [Act.put, zL, zM, zN, i64_w, i32_w]
            rfl
           refine pure_ (i := 4) (N := some 28) (v := ?_) (a' := ?_) #[true, true, true, false, true, false, false, false, false, false, false, false] rfl rfl (any_of HT_.out (by kernel_rfl)) (fun _ _ _ h => h) (Or.inl ⟨by rfl, ?_⟩) ?_ ?_
           rotate_left
           ·intro w'
            go_simp
            with_reducible rfl
           rotate_left
           ·simp only [Act.put, zL, zM, zN, i64_w, i32_w]
            rfl
           refine pure_ (i := 5) (N := some 29) (v := ?_) (a' := ?_) #[true, true, true, false, true, true, false, false, false, false, false, false] rfl rfl (any_of HT_.out (by kernel_rfl)) (fun _ _ _ h => h) (Or.inl ⟨by rfl, ?_⟩) ?_ ?_
           rotate_left
           ·intro w'
            go_simp
            with_reducible rfl
           rotate_left
           ·simp only [Act.put, zL, zM, zN, i64_w, i32_w]
            rfl
           refine pure_ (i := 6) (N := some 30) (v := ?_) (a' := ?_) #[true, true, true, false, true, true, true, false, false, false, false, false] rfl rfl (any_of HT_.out (by kernel_rfl)) (fun _ _ _ h => h) (Or.inl ⟨by rfl, ?_⟩) ?_ ?_
           rotate_left
           ·intro w'
            go_simp
            with_reducible rfl
           rotate_left
           ·simp only [Act.put, zL, zM, zN, i64_w, i32_w]
            rfl
           refine take_ (i := 3) (N := some 27) (v := ?_) (a' := ?_) #[true, true, true, true, true, true, true, false, false, false, false, false] rfl rfl (take_ofW HT_.out HW_.out (by kernel_rfl)) (fun _ _ _ h => h) (Or.inl ⟨by rfl, ?_⟩) hHeld ?_ ?_
           rotate_left
           ·intro w' _
            go_simp
            with_reducible rfl
           rotate_left
           ·simp only [Act.put, zL, zM, zN, i64_w, i32_w]
            rfl
           refine take_ (i := 7) (N := some 31) (v := ?_) (a' := ?_) #[true, true, true, true, true, true, true, true, false, false, false, false] rfl rfl (take_ofW HT_.out HW_.out (by kernel_rfl)) (fun _ _ _ h => h) (Or.inl ⟨by rfl, ?_⟩) hHeld ?_ ?_
           rotate_left
           ·intro w' _
            go_simp
            with_reducible rfl
           rotate_left
           ·simp only [Act.put, zL, zM, zN, i64_w, i32_w]
            rfl
           refine one_ (i := 8) (N := some 32) #[true, true, true, true, true, true, true, true, true, false, false, false] rfl rfl (one_of HT_.out (by kernel_rfl)) (by decide) (fun K hK => ?_)
           refine Kd.R_lit_step (Kd.int .u8) _ 5 ?hg (N := 32) ?hd (xs := ([bt (⟨#[48, 49, 50, 51, 52, 53, 54, 55, 56, 57, 97, 98, 99, 100, 101, 102]⟩ : ByteArray) (ji13), bt (⟨#[48, 49, 50, 51, 52, 53, 54, 55, 56, 57, 97, 98, 99, 100, 101, 102]⟩ : ByteArray) (ji17)] : List Int)) (inner := [.int .u8 (bt (⟨#[48, 49, 50, 51, 52, 53, 54, 55, 56, 57, 97, 98, 99, 100, 101, 102]⟩ : ByteArray) (ji13)), .int .u8 (bt (⟨#[48, 49, 50, 51, 52, 53, 54, 55, 56, 57, 97, 98, 99, 100, 101, 102]⟩ : ByteArray) (ji17))]) (ok := fun _ => True) (okp := fun _ => True) ?hr ?hp (fun _ hk => hk) trivial (yJ _ _) (yK _) (by simp) ?_; (case hd => rfl); (case hg => rfl); (case hr => first | (go_simp; done) | (go_simp; rfl)); (case hp => exact (Reps.one (show Kd.M (Kd.int .u8) _ _ _ (bt (⟨#[48, 49, 50, 51, 52, 53, 54, 55, 56, 57, 97, 98, 99, 100, 101, 102]⟩ : ByteArray) (ji13)) [.int .u8 (bt (⟨#[48, 49, 50, 51, 52, 53, 54, 55, 56, 57, 97, 98, 99, 100, 101, 102]⟩ : ByteArray) (ji13))] from rfl) (Reps.one (show Kd.M (Kd.int .u8) _ _ _ (bt (⟨#[48, 49, 50, 51, 52, 53, 54, 55, 56, 57, 97, 98, 99, 100, 101, 102]⟩ : ByteArray) (ji17)) [.int .u8 (bt (⟨#[48, 49, 50, 51, 52, 53, 54, 55, 56, 57, 97, 98, 99, 100, 101, 102]⟩ : ByteArray) (ji17))] from rfl) (Reps.none _ _))))
           intro v200 w23 ho24 hb hg_ hnew_
           clear hg_ hnew_
           (first | rw [← Ny199.out] at ho24 | (simp only [Int.reduceToNat] at ho24; rw [← Ny199.out] at ho24))
           have n0_ := zA (Kd.R_lower ho24 (zR apA))
           have n1_ := zA (zQ apA hb)
           clear HB
           have HO201 := n0_
           have HB := n1_
           clear n0_ n1_
           clear hb ho24
           refine hK.out _ _ trivial (fun hHeld => ?_)
           clear hK K
           refine norm_ (a' := ?_) ?_ ?_
           rotate_left
           ·show Act.put _ (some 32) _ = _
            simp only [Act.put, zL, zM, zN, i64_w, i32_w]
            rfl
           refine one_ (i := 9) (N := some 33) #[true, true, true, true, true, true, true, true, true, true, false, false] rfl rfl (one_of HT_.out (by kernel_rfl)) (by decide) (fun K hK => ?_)
           have hcv25 := own_string (P := Tryd.prog) Tryd.underlying60 Tryd.underlying5 Tryd.underlying9 (Kd.own_of_R HO201.out)
           refine value_ (w1 := ?_) (v := ?_) (by rfl) rfl ?_ ?_
           rotate_left 2
           ·go_simp
            constructor
            ·rfl
            ·rfl
           clear hcv25
           refine hK.out _ _ trivial (fun hHeld => ?_)
           clear hK K
           refine norm_ (a' := ?_) ?_ ?_
           rotate_left
           ·show Act.put _ (some 33) _ = _
            simp only [Act.put, zL, zM, zN, i64_w, i32_w]
            rfl
           refine pure_ (i := 10) (N := some 34) (v := ?_) (a' := ?_) #[true, true, true, true, true, true, true, true, true, true, true, false] rfl rfl (any_of HT_.out (by kernel_rfl)) (fun _ _ _ h => h) (Or.inl ⟨by rfl, ?_⟩) ?_ ?_
           rotate_left
           ·intro w'
            go_simp
            with_reducible rfl
           rotate_left
           ·simp only [Act.put, zL, zM, zN, i64_w, i32_w]
            rfl
           refine pure_ (i := 11) (N := some 2) (v := ?_) (a' := ?_) #[true, true, true, true, true, true, true, true, true, true, true, true] rfl rfl (any_of HT_.out (by kernel_rfl)) (fun _ _ _ h => h) (Or.inl ⟨by rfl, ?_⟩) ?_ ?_
           rotate_left
           ·intro w'
            go_simp
            with_reducible rfl
           rotate_left
           ·simp only [Act.put, zL, zM, zN, i64_w, i32_w]
            rfl
           refine done_ (done_of HT_.out (by kernel_rfl)) ?_
           try go_wp2
           go_ret
           exact ⟨by first | rfl | (simp [errW_none, errW_some] <;> rfl) | (simp only [← hji13, ← hji17]; first | rfl | (simp [errW_none, errW_some] <;> rfl)) | (simp [*, errW_none, errW_some] <;> rfl), apA⟩
          ·rw [if_neg c21] at H
           exact absurd H (by simp)
         ·rw [if_neg c19] at H
          exact absurd H (by simp)
        ·rw [if_neg c18] at H
         exact absurd H (by simp)
       ·rw [if_neg c15] at H
        exact absurd H (by simp)
      ·rw [if_neg c14] at H
       exact absurd H (by simp)
    ·rw [if_neg c8] at H
     have c8b0 : decide (32 ≤ a0) = false := decide_eq_false c8
     clear c8
     obtain ⟨ji26, hji26⟩ : ∃ j_ : Int, ((Int.tdiv a0 16) % 256) = j_ := ⟨_, rfl⟩
     replace H : (if 0 ≤ (ji26) then (if (ji26) < ((⟨#[48, 49, 50, 51, 52, 53, 54, 55, 56, 57, 97, 98, 99, 100, 101, 102]⟩ : ByteArray).size : Int) then (if 0 ≤ (Int.tmod a0 16) then (if (Int.tmod a0 16) < ((⟨#[48, 49, 50, 51, 52, 53, 54, 55, 56, 57, 97, 98, 99, 100, 101, 102]⟩ : ByteArray).size : Int) then ((some (([bt (⟨#[48, 49, 50, 51, 52, 53, 54, 55, 56, 57, 97, 98, 99, 100, 101, 102]⟩ : ByteArray) (ji26), bt (⟨#[48, 49, 50, 51, 52, 53, 54, 55, 56, 57, 97, 98, 99, 100, 101, 102]⟩ : ByteArray) (Int.tmod a0 16)] : List Int) : List Int)).bind fun y202 => (if 4 + (strOfNums y202).size ≤ 9223372036854775807 then (some ((⟨#[92, 117, 48, 48]⟩ : ByteArray) ++ (strOfNums y202))) else (none))) else (none)) else (none)) else (none)) else (none)) = some r := by first | (rw [hji26] at H; exact H) | (simp only [hji26] at H ⊢; exact H)
     (try have hji26u : (IntKind.u8.wrap (Int.tdiv a0 16)) = ji26 := (IntKind.wrap_u8 _).trans hji26)
     by_cases c27 : 0 ≤ (ji26)
     ·rw [if_pos c27] at H
      have c27b0 : decide (0 ≤ (ji26)) = true := yF c27
      clear c27
      by_cases c28 : (ji26) < ((⟨#[48, 49, 50, 51, 52, 53, 54, 55, 56, 57, 97, 98, 99, 100, 101, 102]⟩ : ByteArray).size : Int)
      ·rw [if_pos c28] at H
       have c28b0 : decide ((ji26) < ((⟨#[48, 49, 50, 51, 52, 53, 54, 55, 56, 57, 97, 98, 99, 100, 101, 102]⟩ : ByteArray).size : Int)) = true := yF c28
       clear c28
       obtain ⟨ji30, hji30⟩ : ∃ j_ : Int, (Int.tmod a0 16) = j_ := ⟨_, rfl⟩
       replace H : (if 0 ≤ (ji30) then (if (ji30) < ((⟨#[48, 49, 50, 51, 52, 53, 54, 55, 56, 57, 97, 98, 99, 100, 101, 102]⟩ : ByteArray).size : Int) then ((some (([bt (⟨#[48, 49, 50, 51, 52, 53, 54, 55, 56, 57, 97, 98, 99, 100, 101, 102]⟩ : ByteArray) (ji26), bt (⟨#[48, 49, 50, 51, 52, 53, 54, 55, 56, 57, 97, 98, 99, 100, 101, 102]⟩ : ByteArray) (ji30)] : List Int) : List Int)).bind fun y202 => (if 4 + (strOfNums y202).size ≤ 9223372036854775807 then (some ((⟨#[92, 117, 48, 48]⟩ : ByteArray) ++ (strOfNums y202))) else (none))) else (none)) else (none)) = some r := by first | (rw [hji30] at H; exact H) | (simp only [hji30] at H ⊢; exact H)
       by_cases c31 : 0 ≤ (ji30)
       ·rw [if_pos c31] at H
        have c31b0 : decide (0 ≤ (ji30)) = true := yF c31
        clear c31
        by_cases c32 : (ji30) < ((⟨#[48, 49, 50, 51, 52, 53, 54, 55, 56, 57, 97, 98, 99, 100, 101, 102]⟩ : ByteArray).size : Int)
        ·rw [if_pos c32] at H
         have c32b0 : decide ((ji30) < ((⟨#[48, 49, 50, 51, 52, 53, 54, 55, 56, 57, 97, 98, 99, 100, 101, 102]⟩ : ByteArray).size : Int)) = true := yF c32
         clear c32
         obtain ⟨y202, hy202⟩ : ∃ y_ : List Int, y_ = (([bt (⟨#[48, 49, 50, 51, 52, 53, 54, 55, 56, 57, 97, 98, 99, 100, 101, 102]⟩ : ByteArray) (ji26), bt (⟨#[48, 49, 50, 51, 52, 53, 54, 55, 56, 57, 97, 98, 99, 100, 101, 102]⟩ : ByteArray) (ji30)] : List Int)) := ⟨_, rfl⟩
         replace H : (if 4 + (strOfNums y202).size ≤ 9223372036854775807 then (some ((⟨#[92, 117, 48, 48]⟩ : ByteArray) ++ (strOfNums y202))) else (none)) = some r := by first | (rw [hy202]; with_reducible exact H) | (have H2_ := (Option.bind_some _ _).symm.trans H; rw [hy202]; with_reducible exact H2_) | (have H2_ := (Option.bind_some _ _).symm.trans H; with_reducible exact H2_) | with_reducible exact H | (rw [hy202]; exact H) | exact H
         have Ny202 := zA hy202
         clear hy202
         by_cases c34 : 4 + (strOfNums y202).size ≤ 9223372036854775807
         ·rw [if_pos c34] at H
          have c34b0 := eq_true c34
          have c34b1 : decide (4 + (strOfNums y202).size ≤ 9223372036854775807) = true := yF c34
          try have c34b2 : (9223372036854775807 < 4 + (strOfNums y202).size) = False := eq_false (Nat.not_lt.2 c34)
          obtain rfl := yH H
          try go_wp2
          have n0_ := zA (zF HB.out)
          clear HB
          have HB := n0_
          clear n0_
          have p29 : 0 ≤ ((ji26) : Int) := yG apC
          have q29 : (ji26) < (16 : Int) := yG apC
          have hx29 := bt_at (⟨#[48, 49, 50, 51, 52, 53, 54, 55, 56, 57, 97, 98, 99, 100, 101, 102]⟩ : ByteArray) (ji26)
          replace p29 := eq_true p29
          replace q29 := eq_true q29
          have p33 : 0 ≤ ((ji30) : Int) := yG apC
          have q33 : (ji30) < (16 : Int) := yG apC
          have hx33 := bt_at (⟨#[48, 49, 50, 51, 52, 53, 54, 55, 56, 57, 97, 98, 99, 100, 101, 102]⟩ : ByteArray) (ji30)
          replace p33 := eq_true p33
          replace q33 := eq_true q33
          refine start_ (n := 12) (S := fun w' => True) (ds := []) #[false, false, false, false, false, false, false, false, false, false, false, false] (by kernel_rfl) rfl rfl trivial (fun hHeld => ?_); refine with_tabW spec_l7Escape.tab6 spec_l7Escape.bits6 (fun HT_ HW_ => ?_)
          generalize wc.drew = w35 at HB hHeld ⊢
          refine pure_ (i := 0) (N := some 24) (v := ?_) (a' := ?_) #[true, false, false, false, false, false, false, false, false, false, false, false] rfl rfl (any_of HT_.out (by kernel_rfl)) (fun _ _ _ h => h) (Or.inl ⟨by rfl, ?_⟩) ?_ ?_
          rotate_left
          ·intro w'
           go_simp
           with_reducible rfl
          rotate_left
          ·simp only [Act.put, zL, zM, zN, i64_w, i32_w]
           rfl
          refine pure_ (i := 1) (N := some 25) (v := ?_) (a' := ?_) #[true, true, false, false, false, false, false, false, false, false, false, false] rfl rfl (any_of HT_.out (by kernel_rfl)) (fun _ _ _ h => h) (Or.inl ⟨by rfl, ?_⟩) ?_ ?_
          rotate_left
          ·intro w'
           go_simp
           with_reducible rfl
          rotate_left
          ·simp only [Act.put, zL, zM, zN, i64_w, i32_w]
           rfl
          refine pure_ (i := 2) (N := some 26) (v := ?_) (a' := ?_) #[true, true, true, false, false, false, false, false, false, false, false, false] rfl rfl (any_of HT_.out (by kernel_rfl)) (fun _ _ _ h => h) (Or.inl ⟨by rfl, ?_⟩) ?_ ?_
          rotate_left
          ·intro w'
           go_simp
           with_reducible rfl
          rotate_left
          ·simp only [Act.put, zL, zM, zN, i64_w, i32_w]
           rfl
          refine pure_ (i := 4) (N := some 28) (v := ?_) (a' := ?_) #[true, true, true, false, true, false, false, false, false, false, false, false] rfl rfl (any_of HT_.out (by kernel_rfl)) (fun _ _ _ h => h) (Or.inl ⟨by rfl, ?_⟩) ?_ ?_
          rotate_left
          ·intro w'
           go_simp
           with_reducible rfl
          rotate_left
          ·simp only [Act.put, zL, zM, zN, i64_w, i32_w]
           rfl
          refine pure_ (i := 5) (N := some 29) (v := ?_) (a' := ?_) #[true, true, true, false, true, true, false, false, false, false, false, false] rfl rfl (any_of HT_.out (by kernel_rfl)) (fun _ _ _ h => h) (Or.inl ⟨by rfl, ?_⟩) ?_ ?_
          rotate_left
          ·intro w'
           go_simp
           with_reducible rfl
          rotate_left
          ·simp only [Act.put, zL, zM, zN, i64_w, i32_w]
           rfl
          refine pure_ (i := 6) (N := some 30) (v := ?_) (a' := ?_) #[true, true, true, false, true, true, true, false, false, false, false, false] rfl rfl (any_of HT_.out (by kernel_rfl)) (fun _ _ _ h => h) (Or.inl ⟨by rfl, ?_⟩) ?_ ?_
          rotate_left
          ·intro w'
           go_simp
           with_reducible rfl
          rotate_left
          ·simp only [Act.put, zL, zM, zN, i64_w, i32_w]
           rfl
          refine take_ (i := 3) (N := some 27) (v := ?_) (a' := ?_) #[true, true, true, true, true, true, true, false, false, false, false, false] rfl rfl (take_ofW HT_.out HW_.out (by kernel_rfl)) (fun _ _ _ h => h) (Or.inl ⟨by rfl, ?_⟩) hHeld ?_ ?_
          rotate_left
          ·intro w' _
           go_simp
           with_reducible rfl
          rotate_left
          ·simp only [Act.put, zL, zM, zN, i64_w, i32_w]
           rfl
          refine take_ (i := 7) (N := some 31) (v := ?_) (a' := ?_) #[true, true, true, true, true, true, true, true, false, false, false, false] rfl rfl (take_ofW HT_.out HW_.out (by kernel_rfl)) (fun _ _ _ h => h) (Or.inl ⟨by rfl, ?_⟩) hHeld ?_ ?_
          rotate_left
          ·intro w' _
           go_simp
           with_reducible rfl
          rotate_left
          ·simp only [Act.put, zL, zM, zN, i64_w, i32_w]
           rfl
          refine one_ (i := 8) (N := some 32) #[true, true, true, true, true, true, true, true, true, false, false, false] rfl rfl (one_of HT_.out (by kernel_rfl)) (by decide) (fun K hK => ?_)
          refine Kd.R_lit_step (Kd.int .u8) _ 5 ?hg (N := 32) ?hd (xs := ([bt (⟨#[48, 49, 50, 51, 52, 53, 54, 55, 56, 57, 97, 98, 99, 100, 101, 102]⟩ : ByteArray) (ji26), bt (⟨#[48, 49, 50, 51, 52, 53, 54, 55, 56, 57, 97, 98, 99, 100, 101, 102]⟩ : ByteArray) (ji30)] : List Int)) (inner := [.int .u8 (bt (⟨#[48, 49, 50, 51, 52, 53, 54, 55, 56, 57, 97, 98, 99, 100, 101, 102]⟩ : ByteArray) (ji26)), .int .u8 (bt (⟨#[48, 49, 50, 51, 52, 53, 54, 55, 56, 57, 97, 98, 99, 100, 101, 102]⟩ : ByteArray) (ji30))]) (ok := fun _ => True) (okp := fun _ => True) ?hr ?hp (fun _ hk => hk) trivial (yJ _ _) (yK _) (by simp) ?_; (case hd => rfl); (case hg => rfl); (case hr => first | (go_simp; done) | (go_simp; rfl)); (case hp => exact (Reps.one (show Kd.M (Kd.int .u8) _ _ _ (bt (⟨#[48, 49, 50, 51, 52, 53, 54, 55, 56, 57, 97, 98, 99, 100, 101, 102]⟩ : ByteArray) (ji26)) [.int .u8 (bt (⟨#[48, 49, 50, 51, 52, 53, 54, 55, 56, 57, 97, 98, 99, 100, 101, 102]⟩ : ByteArray) (ji26))] from rfl) (Reps.one (show Kd.M (Kd.int .u8) _ _ _ (bt (⟨#[48, 49, 50, 51, 52, 53, 54, 55, 56, 57, 97, 98, 99, 100, 101, 102]⟩ : ByteArray) (ji30)) [.int .u8 (bt (⟨#[48, 49, 50, 51, 52, 53, 54, 55, 56, 57, 97, 98, 99, 100, 101, 102]⟩ : ByteArray) (ji30))] from rfl) (Reps.none _ _))))
          intro v203 w36 ho37 hb hg_ hnew_
          clear hg_ hnew_
          (first | rw [← Ny202.out] at ho37 | (simp only [Int.reduceToNat] at ho37; rw [← Ny202.out] at ho37))
          have n0_ := zA (Kd.R_lower ho37 (zR apA))
          have n1_ := zA (zQ apA hb)
          clear HB
          have HO204 := n0_
          have HB := n1_
          clear n0_ n1_
          clear hb ho37
          refine hK.out _ _ trivial (fun hHeld => ?_)
          clear hK K
          refine norm_ (a' := ?_) ?_ ?_
          rotate_left
          ·show Act.put _ (some 32) _ = _
           simp only [Act.put, zL, zM, zN, i64_w, i32_w]
           rfl
          refine one_ (i := 9) (N := some 33) #[true, true, true, true, true, true, true, true, true, true, false, false] rfl rfl (one_of HT_.out (by kernel_rfl)) (by decide) (fun K hK => ?_)
          have hcv38 := own_string (P := Tryd.prog) Tryd.underlying60 Tryd.underlying5 Tryd.underlying9 (Kd.own_of_R HO204.out)
          refine value_ (w1 := ?_) (v := ?_) (by rfl) rfl ?_ ?_
          rotate_left 2
          ·go_simp
           constructor
           ·rfl
           ·rfl
          clear hcv38
          refine hK.out _ _ trivial (fun hHeld => ?_)
          clear hK K
          refine norm_ (a' := ?_) ?_ ?_
          rotate_left
          ·show Act.put _ (some 33) _ = _
           simp only [Act.put, zL, zM, zN, i64_w, i32_w]
           rfl
          refine pure_ (i := 10) (N := some 34) (v := ?_) (a' := ?_) #[true, true, true, true, true, true, true, true, true, true, true, false] rfl rfl (any_of HT_.out (by kernel_rfl)) (fun _ _ _ h => h) (Or.inl ⟨by rfl, ?_⟩) ?_ ?_
          rotate_left
          ·intro w'
           go_simp
           with_reducible rfl
          rotate_left
          ·simp only [Act.put, zL, zM, zN, i64_w, i32_w]
           rfl
          refine pure_ (i := 11) (N := some 2) (v := ?_) (a' := ?_) #[true, true, true, true, true, true, true, true, true, true, true, true] rfl rfl (any_of HT_.out (by kernel_rfl)) (fun _ _ _ h => h) (Or.inl ⟨by rfl, ?_⟩) ?_ ?_
          rotate_left
          ·intro w'
           go_simp
           with_reducible rfl
          rotate_left
          ·simp only [Act.put, zL, zM, zN, i64_w, i32_w]
           rfl
          refine done_ (done_of HT_.out (by kernel_rfl)) ?_
          try go_wp2
          go_ret
          exact ⟨by first | rfl | (simp [errW_none, errW_some] <;> rfl) | (simp only [← hji26, ← hji30]; first | rfl | (simp [errW_none, errW_some] <;> rfl)) | (simp [*, errW_none, errW_some] <;> rfl), apA⟩
         ·rw [if_neg c34] at H
          exact absurd H (by simp)
        ·rw [if_neg c32] at H
         exact absurd H (by simp)
       ·rw [if_neg c31] at H
        exact absurd H (by simp)
      ·rw [if_neg c28] at H
       exact absurd H (by simp)
     ·rw [if_neg c27] at H
      exact absurd H (by simp)


def spec_l7Quote.l0 : Nat → ByteArray → ByteArray → Int → Option (ByteArray)
 | 0, _, _, _ => none
 | k + 1, x0, x3, x4 => if x4 < (x0.size : Int) then (if 0 ≤ x4 then ((spec_l7Escape.f k (bt x0 x4)).bind fun t205 => (if x3.size + t205.size ≤ 9223372036854775807 then (spec_l7Quote.l0 k x0 (x3 ++ t205) (wrap64 (x4 + 1))) else (none))) else (none)) else (if x3.size + 1 ≤ 9223372036854775807 then (some (x3 ++ (⟨#[34]⟩ : ByteArray))) else (none))
def spec_l7Quote.f (k : Nat) (a0 : ByteArray) : Option (ByteArray) := spec_l7Quote.l0 k a0 (⟨#[34]⟩ : ByteArray) 0
theorem spec_l7Quote.mono_l : ∀ k, (∀ y0 y1 y2, LeO (spec_l7Quote.l0 k y0 y1 y2) (spec_l7Quote.l0 (k + 1) y0 y1 y2))
 | 0 => fun _ _ _ r h => by simp [spec_l7Quote.l0] at h
 | k + 1 => by
  have ih0 := spec_l7Quote.mono_l k
  ·intro y0 y1 y2
   unfold spec_l7Quote.l0
   repeat' first
   | (with_reducible exact ih0 _ _ _)
   | (with_reducible exact spec_l7Escape.mono _ _)
   | (with_reducible exact LeO.refl _)
   | (with_reducible exact LeO.none _)
   | (with_reducible refine LeO.ite ?_ ?_)
   | (with_reducible refine LeO.bind ?_ (fun _ => ?_))
   | exact ih0 _ _ _
theorem spec_l7Quote.mono : ∀ a0 k, LeO (spec_l7Quote.f k a0) (spec_l7Quote.f (k + 1) a0) := by
 intro a0 k
 have ih0 := spec_l7Quote.mono_l k
 unfold spec_l7Quote.f
 repeat' first
   | (with_reducible exact ih0 _ _ _)
   | (with_reducible exact spec_l7Escape.mono _ _)
   | (with_reducible exact LeO.refl _)
   | (with_reducible exact LeO.none _)
   | (with_reducible refine LeO.ite ?_ ?_)
   | (with_reducible refine LeO.bind ?_ (fun _ => ?_))
   | exact ih0 _ _ _
set_option maxHeartbeats 8000000 in
set_option maxRecDepth 100000 in
theorem spec_l7Quote.calls (k : Nat) (a0 : ByteArray) (r : ByteArray) (w : World) (h : spec_l7Quote.f k a0 = some r) :
  Calls Tryd.prog 25 #[.string a0] w fun e w' => e = .returned (.string r) ∧ Below w.heap.size w w' := by
 have HB := zA (yJ w.heap.size w)
 have H : (spec_l7Quote.l0 k a0 (⟨#[34]⟩ : ByteArray) 0) = some r := h
 clear h
 have H' := zA H
 clear H
 go_enter Tryd.func25, Tryd.ntmps25
 go_wp2
 go_loopg [3, 4] k (fun kq v3 v4 w' => ∃ (x3_1 : ByteArray) (x4_1 : Int), v3 = .string x3_1 ∧ v4 = .int .i64 x4_1 ∧ Aside0 (spec_l7Quote.l0 kq a0 x3_1 x4_1 = some r) ∧ Aside0 (kq ≤ k) ∧ Aside0 (Below w.heap.size w w'))
 case atStart => exact ⟨((⟨#[34]⟩ : ByteArray)), (0), apB, apB, H', ⟨yK _⟩, ⟨apA⟩⟩
 case round =>
  clear H'
  obtain ⟨x3_1, x4_1, rfl, rfl, HA, HK1, HB⟩ := hrel
  cases gk with
  | zero => exact absurd HA.out (by simp [spec_l7Quote.l0])
  | succ k1 =>
   have H := HA.out
   clear HA
   simp only [spec_l7Quote.l0] at H
   by_cases c2 : x4_1 < (a0.size : Int)
   ·rw [if_pos c2] at H
    have c2b0 : decide (x4_1 < (a0.size : Int)) = true := yF c2
    clear c2
    by_cases c3 : 0 ≤ x4_1
    ·rw [if_pos c3] at H
     have c3b0 : decide (0 ≤ x4_1) = true := yF c3
     clear c3
     replace H := Option.bind_eq_some_iff.mp H
     obtain ⟨t205, A50, H⟩ := H
     replace H : (if x3_1.size + t205.size ≤ 9223372036854775807 then (spec_l7Quote.l0 k1 a0 (x3_1 ++ t205) (wrap64 (x4_1 + 1))) else (none)) = some r := H
     have A5 := zA A50
     clear A50
     by_cases c6 : x3_1.size + t205.size ≤ 9223372036854775807
     ·rw [if_pos c6] at H
      have c6b0 := eq_true c6
      have c6b1 : decide (x3_1.size + t205.size ≤ 9223372036854775807) = true := yF c6
      try have c6b2 : (9223372036854775807 < x3_1.size + t205.size) = False := eq_false (Nat.not_lt.2 c6)
      have H' := zA H
      clear H
      have p4 : 0 ≤ (x4_1 : Int) := yG apC
      have q4 : x4_1 < (a0.size : Int) := yG apC
      have hx4 := bt_at a0 x4_1
      replace p4 := eq_true p4
      replace q4 := eq_true q4
      go_wp2_with (first | ((with_reducible refine zV (f := 33) rfl ?_); refine goesL_ (some 15) rfl rfl Tryd.func33 (by kernel_rfl) rfl #[.int .u8 (bt a0 x4_1)] rfl apE ?_; (with_reducible refine (spec_l7Escape.calls k1 (bt a0 x4_1) t205 _ A5.out).mono ?_); rintro e w7 ⟨rfl, hb⟩; refine ⟨_, rfl, ?_⟩; have n0_ := zA (zQ apA hb); clear HB; have HB := n0_; clear n0_; (try clear hb); (try clear hb2); (try clear hk); (try clear hi)))
      go_roundg k1
      case measure => have := HK1.out; omega
      case rel => exact ⟨(x3_1 ++ t205), (wrap64 (x4_1 + 1)), apB, apB, H', ⟨by have := HK1.out; omega⟩, ⟨apA⟩⟩
     ·rw [if_neg c6] at H
      exact absurd H (by simp)
    ·rw [if_neg c3] at H
     exact absurd H (by simp)
   ·rw [if_neg c2] at H
    have c2b0 : decide (x4_1 < (a0.size : Int)) = false := decide_eq_false c2
    clear c2
    by_cases c8 : x3_1.size + 1 ≤ 9223372036854775807
    ·rw [if_pos c8] at H
     have c8b0 := eq_true c8
     have c8b1 : decide (x3_1.size + 1 ≤ 9223372036854775807) = true := yF c8
     try have c8b2 : (9223372036854775807 < x3_1.size + 1) = False := eq_false (Nat.not_lt.2 c8)
     obtain rfl := yH H
     go_wp2
     go_ret
     exact ⟨apD, apA⟩
    ·rw [if_neg c8] at H
     exact absurd H (by simp)


def impl_plain.f (a0 : Int) : Option (Bool) := if a0 ≥ 32 then (if a0 ≤ 126 then (if a0 = 34 then (some false) else (some (a0 != 92))) else (some false)) else (some false)
set_option maxHeartbeats 8000000 in
set_option maxRecDepth 100000 in
theorem impl_plain.calls (a0 : Int) (r : Bool) (w : World) (h : impl_plain.f a0 = some r) :
  Calls Tryd.prog 41 #[.int .u8 a0] w fun e w' => e = .returned (.bool r) ∧ Drawn0 w w' := by
 have H : (if a0 ≥ 32 then (if a0 ≤ 126 then (if a0 = 34 then (some false) else (some (a0 != 92))) else (some false)) else (some false)) = some r := h
 clear h
 by_cases c2 : a0 ≥ 32
 ·rw [if_pos c2] at H
  have c2b0 : decide (32 ≤ a0) = true := yF c2
  clear c2
  by_cases c3 : a0 ≤ 126
  ·rw [if_pos c3] at H
   have c3b0 : decide (a0 ≤ 126) = true := yF c3
   clear c3
   by_cases c4 : a0 = 34
   ·rw [if_pos c4] at H
    have c4b0 : (a0 == 34) = true := beq_iff_eq.mpr c4
    have c4b1 : (a0 != 34) = false := bne_eq_false_iff_eq.mpr c4
    clear c4
    obtain rfl := yH H
    go_enter Tryd.func41, Tryd.ntmps41
    go_wp2
    go_ret
    exact ⟨apB, apF⟩
   ·rw [if_neg c4] at H
    have c4b0 : (a0 == 34) = false := beq_eq_false_iff_ne.mpr c4
    have c4b1 : (a0 != 34) = true := bne_iff_ne.mpr c4
    obtain rfl := yH H
    go_enter Tryd.func41, Tryd.ntmps41
    go_wp2
    go_ret
    exact ⟨apB, apF⟩
  ·rw [if_neg c3] at H
   have c3b0 : decide (a0 ≤ 126) = false := decide_eq_false c3
   clear c3
   obtain rfl := yH H
   go_enter Tryd.func41, Tryd.ntmps41
   go_wp2
   go_ret
   exact ⟨apB, apF⟩
 ·rw [if_neg c2] at H
  have c2b0 : decide (32 ≤ a0) = false := decide_eq_false c2
  clear c2
  obtain rfl := yH H
  go_enter Tryd.func41, Tryd.ntmps41
  go_wp2
  go_ret
  exact ⟨apB, apF⟩

end Go.Proofs.YtihepjjjdjemfaaDoor.Q

namespace Go.Proofs.YtihepjjjdjemfaaDoor.Q
open Go.RowKit Go.Proofs.YtihepjjjdjemfaaDoorW.PrintWords Go.Proofs.YtihepjjjdjemfaaDoorW.PrintLast Go.Proofs.YtihepjjjdjemfaaDoorW.PrintMore Go.Proofs.YtihepjjjdjemfaaDoorX
attribute [local go_sem] max2_int min2_int max_two min_two max_three min_three max_four min_four   -- for this text's walks alone
set_option linter.unusedVariables false
set_option linter.unusedSimpArgs false

attribute [-simp] ByteArray.size_extract
def impl_hex.f (a0 : Int) : Option (ByteArray) := if 0 ≤ (a0 / 16) then (if (a0 / 16) ≤ (((a0 / 16) + 1) % 256) then (if (((a0 / 16) + 1) % 256) ≤ 16 then (if 0 ≤ (Go.bits .and .u8 a0 15) then (if (Go.bits .and .u8 a0 15) ≤ (((Go.bits .and .u8 a0 15) + 1) % 256) then (if (((Go.bits .and .u8 a0 15) + 1) % 256) ≤ 16 then (if ((⟨#[48, 49, 50, 51, 52, 53, 54, 55, 56, 57, 97, 98, 99, 100, 101, 102]⟩ : ByteArray).extract ((a0 / 16) : Int).toNat ((((a0 / 16) + 1) % 256) : Int).toNat).size + ((⟨#[48, 49, 50, 51, 52, 53, 54, 55, 56, 57, 97, 98, 99, 100, 101, 102]⟩ : ByteArray).extract ((Go.bits .and .u8 a0 15) : Int).toNat ((((Go.bits .and .u8 a0 15) + 1) % 256) : Int).toNat).size ≤ 9223372036854775807 then (some (((⟨#[48, 49, 50, 51, 52, 53, 54, 55, 56, 57, 97, 98, 99, 100, 101, 102]⟩ : ByteArray).extract ((a0 / 16) : Int).toNat ((((a0 / 16) + 1) % 256) : Int).toNat) ++ ((⟨#[48, 49, 50, 51, 52, 53, 54, 55, 56, 57, 97, 98, 99, 100, 101, 102]⟩ : ByteArray).extract ((Go.bits .and .u8 a0 15) : Int).toNat ((((Go.bits .and .u8 a0 15) + 1) % 256) : Int).toNat))) else (none)) else (none)) else (none)) else (none)) else (none)) else (none)) else (none)
set_option maxHeartbeats 8000000 in
set_option maxRecDepth 100000 in
theorem impl_hex.calls (a0 : Int) (r : ByteArray) (w : World) (h : impl_hex.f a0 = some r) :
  Calls Tryd.prog 42 #[.int .u8 a0] w fun e w' => e = .returned (.string r) ∧ Drawn0 w w' := by
 have H : (if 0 ≤ (a0 / 16) then (if (a0 / 16) ≤ (((a0 / 16) + 1) % 256) then (if (((a0 / 16) + 1) % 256) ≤ 16 then (if 0 ≤ (Go.bits .and .u8 a0 15) then (if (Go.bits .and .u8 a0 15) ≤ (((Go.bits .and .u8 a0 15) + 1) % 256) then (if (((Go.bits .and .u8 a0 15) + 1) % 256) ≤ 16 then (if ((⟨#[48, 49, 50, 51, 52, 53, 54, 55, 56, 57, 97, 98, 99, 100, 101, 102]⟩ : ByteArray).extract ((a0 / 16) : Int).toNat ((((a0 / 16) + 1) % 256) : Int).toNat).size + ((⟨#[48, 49, 50, 51, 52, 53, 54, 55, 56, 57, 97, 98, 99, 100, 101, 102]⟩ : ByteArray).extract ((Go.bits .and .u8 a0 15) : Int).toNat ((((Go.bits .and .u8 a0 15) + 1) % 256) : Int).toNat).size ≤ 9223372036854775807 then (some (((⟨#[48, 49, 50, 51, 52, 53, 54, 55, 56, 57, 97, 98, 99, 100, 101, 102]⟩ : ByteArray).extract ((a0 / 16) : Int).toNat ((((a0 / 16) + 1) % 256) : Int).toNat) ++ ((⟨#[48, 49, 50, 51, 52, 53, 54, 55, 56, 57, 97, 98, 99, 100, 101, 102]⟩ : ByteArray).extract ((Go.bits .and .u8 a0 15) : Int).toNat ((((Go.bits .and .u8 a0 15) + 1) % 256) : Int).toNat))) else (none)) else (none)) else (none)) else (none)) else (none)) else (none)) else (none)) = some r := h
 clear h
 obtain ⟨ji2, hji2⟩ : ∃ j_ : Int, (a0 / 16) = j_ := ⟨_, rfl⟩
 replace H : (if 0 ≤ (ji2) then (if (ji2) ≤ (((ji2) + 1) % 256) then (if (((ji2) + 1) % 256) ≤ 16 then (if 0 ≤ (Go.bits .and .u8 a0 15) then (if (Go.bits .and .u8 a0 15) ≤ (((Go.bits .and .u8 a0 15) + 1) % 256) then (if (((Go.bits .and .u8 a0 15) + 1) % 256) ≤ 16 then (if ((⟨#[48, 49, 50, 51, 52, 53, 54, 55, 56, 57, 97, 98, 99, 100, 101, 102]⟩ : ByteArray).extract ((ji2) : Int).toNat ((((ji2) + 1) % 256) : Int).toNat).size + ((⟨#[48, 49, 50, 51, 52, 53, 54, 55, 56, 57, 97, 98, 99, 100, 101, 102]⟩ : ByteArray).extract ((Go.bits .and .u8 a0 15) : Int).toNat ((((Go.bits .and .u8 a0 15) + 1) % 256) : Int).toNat).size ≤ 9223372036854775807 then (some (((⟨#[48, 49, 50, 51, 52, 53, 54, 55, 56, 57, 97, 98, 99, 100, 101, 102]⟩ : ByteArray).extract ((ji2) : Int).toNat ((((ji2) + 1) % 256) : Int).toNat) ++ ((⟨#[48, 49, 50, 51, 52, 53, 54, 55, 56, 57, 97, 98, 99, 100, 101, 102]⟩ : ByteArray).extract ((Go.bits .and .u8 a0 15) : Int).toNat ((((Go.bits .and .u8 a0 15) + 1) % 256) : Int).toNat))) else (none)) else (none)) else (none)) else (none)) else (none)) else (none)) else (none)) = some r := by first | (rw [hji2] at H; exact H) | (simp only [hji2] at H ⊢; exact H)
 by_cases c3 : 0 ≤ (ji2)
 ·rw [if_pos c3] at H
  have c3b0 := eq_true c3
  have c3b1 : decide (0 ≤ (ji2)) = true := yF c3
  clear c3
  by_cases c4 : (ji2) ≤ (((ji2) + 1) % 256)
  ·rw [if_pos c4] at H
   have c4b0 := eq_true c4
   have c4b1 : decide ((ji2) ≤ (((ji2) + 1) % 256)) = true := yF c4
   by_cases c5 : (((ji2) + 1) % 256) ≤ 16
   ·rw [if_pos c5] at H
    have c5b0 := eq_true c5
    have c5b1 : decide ((((ji2) + 1) % 256) ≤ 16) = true := yF c5
    by_cases c6 : 0 ≤ (Go.bits .and .u8 a0 15)
    ·rw [if_pos c6] at H
     have c6b0 := eq_true c6
     have c6b1 : decide (0 ≤ (Go.bits .and .u8 a0 15)) = true := yF c6
     clear c6
     by_cases c7 : (Go.bits .and .u8 a0 15) ≤ (((Go.bits .and .u8 a0 15) + 1) % 256)
     ·rw [if_pos c7] at H
      have c7b0 := eq_true c7
      have c7b1 : decide ((Go.bits .and .u8 a0 15) ≤ (((Go.bits .and .u8 a0 15) + 1) % 256)) = true := yF c7
      by_cases c8 : (((Go.bits .and .u8 a0 15) + 1) % 256) ≤ 16
      ·rw [if_pos c8] at H
       have c8b0 := eq_true c8
       have c8b1 : decide ((((Go.bits .and .u8 a0 15) + 1) % 256) ≤ 16) = true := yF c8
       by_cases c9 : ((⟨#[48, 49, 50, 51, 52, 53, 54, 55, 56, 57, 97, 98, 99, 100, 101, 102]⟩ : ByteArray).extract ((ji2) : Int).toNat ((((ji2) + 1) % 256) : Int).toNat).size + ((⟨#[48, 49, 50, 51, 52, 53, 54, 55, 56, 57, 97, 98, 99, 100, 101, 102]⟩ : ByteArray).extract ((Go.bits .and .u8 a0 15) : Int).toNat ((((Go.bits .and .u8 a0 15) + 1) % 256) : Int).toNat).size ≤ 9223372036854775807
       ·rw [if_pos c9] at H
        have c9b0 := eq_true c9
        have c9b1 : decide (((⟨#[48, 49, 50, 51, 52, 53, 54, 55, 56, 57, 97, 98, 99, 100, 101, 102]⟩ : ByteArray).extract ((ji2) : Int).toNat ((((ji2) + 1) % 256) : Int).toNat).size + ((⟨#[48, 49, 50, 51, 52, 53, 54, 55, 56, 57, 97, 98, 99, 100, 101, 102]⟩ : ByteArray).extract ((Go.bits .and .u8 a0 15) : Int).toNat ((((Go.bits .and .u8 a0 15) + 1) % 256) : Int).toNat).size ≤ 9223372036854775807) = true := yF c9
        try have c9b2 : (9223372036854775807 < ((⟨#[48, 49, 50, 51, 52, 53, 54, 55, 56, 57, 97, 98, 99, 100, 101, 102]⟩ : ByteArray).extract ((ji2) : Int).toNat ((((ji2) + 1) % 256) : Int).toNat).size + ((⟨#[48, 49, 50, 51, 52, 53, 54, 55, 56, 57, 97, 98, 99, 100, 101, 102]⟩ : ByteArray).extract ((Go.bits .and .u8 a0 15) : Int).toNat ((((Go.bits .and .u8 a0 15) + 1) % 256) : Int).toNat).size) = False := eq_false (Nat.not_lt.2 c9)
        obtain rfl := yH H
        go_enter Tryd.func42, Tryd.ntmps42
        go_wp2
        repeat (go_quiet (fail); try go_wp2)
        go_ret
        exact ⟨by first | rfl | (simp; done) | (simp only [*]; done) | (simp [*]; done) | ((simp only [← hji2] <;> (first | rfl | simp)); done), apF⟩
       ·rw [if_neg c9] at H
        exact absurd H (by simp)
      ·rw [if_neg c8] at H
       exact absurd H (by simp)
     ·rw [if_neg c7] at H
      exact absurd H (by simp)
    ·rw [if_neg c6] at H
     exact absurd H (by simp)
   ·rw [if_neg c5] at H
    exact absurd H (by simp)
  ·rw [if_neg c4] at H
   exact absurd H (by simp)
 ·rw [if_neg c3] at H
  exact absurd H (by simp)

end Go.Proofs.YtihepjjjdjemfaaDoor.Q

namespace Go.Proofs.YtihepjjjdjemfaaDoor.Q
open Go.RowKit Go.Proofs.YtihepjjjdjemfaaDoorW.PrintWords Go.Proofs.YtihepjjjdjemfaaDoorW.PrintLast Go.Proofs.YtihepjjjdjemfaaDoorW.PrintMore Go.Proofs.YtihepjjjdjemfaaDoorX
attribute [local go_sem] max2_int min2_int max_two min_two max_three min_three max_four min_four   -- for this text's walks alone
set_option linter.unusedVariables false
set_option linter.unusedSimpArgs false

def impl_jsonText.l0 : Nat → ByteArray → List Int → Int → Int → Option (ByteArray)
 | 0, _, _, _, _ => none
 | k + 1, x0, x3, x8, x9 => if x9 < x8 then (if 0 ≤ x9 then (if x9 < (x0.size : Int) then ((impl_plain.f (bt x0 x9)).bind fun t269 => (if t269 = true then (if x3.length < 140737488355328 then (impl_jsonText.l0 k x0 (x3 ++ [bt x0 x9]) x8 (wrap64 (x9 + 1))) else (none)) else (if (bt x0 x9) = 34 then ((some (([92, bt x0 x9] : List Int) : List Int)).bind fun y273 => (if x3.length + y273.length < 140737488355328 then (impl_jsonText.l0 k x0 (x3 ++ y273) x8 (wrap64 (x9 + 1))) else (none))) else (if (bt x0 x9) = 92 then ((some (([92, bt x0 x9] : List Int) : List Int)).bind fun y279 => (if x3.length + y279.length < 140737488355328 then (impl_jsonText.l0 k x0 (x3 ++ y279) x8 (wrap64 (x9 + 1))) else (none))) else ((impl_hex.f (bt x0 x9)).bind fun t285 => (if 4 + t285.size ≤ 9223372036854775807 then (if x3.length + ((⟨#[92, 117, 48, 48]⟩ : ByteArray) ++ t285).size < 140737488355328 then (impl_jsonText.l0 k x0 (x3 ++ bytesOf ((⟨#[92, 117, 48, 48]⟩ : ByteArray) ++ t285)) x8 (wrap64 (x9 + 1))) else (none)) else (none))))))) else (none)) else (none)) else (if x3.length < 140737488355328 then (some (strOfNums (x3 ++ [34]))) else (none))
def impl_jsonText.f (k : Nat) (a0 : ByteArray) : Option (ByteArray) := impl_jsonText.l0 k a0 (([34] : List Int)) (a0.size : Int) 0
theorem impl_jsonText.mono_l : ∀ k, (∀ y0 y1 y2 y3, LeO (impl_jsonText.l0 k y0 y1 y2 y3) (impl_jsonText.l0 (k + 1) y0 y1 y2 y3))
 | 0 => fun _ _ _ _ r h => by simp [impl_jsonText.l0] at h
 | k + 1 => by
  have ih0 := impl_jsonText.mono_l k
  ·intro y0 y1 y2 y3
   unfold impl_jsonText.l0
   repeat' first
   | (with_reducible exact ih0 _ _ _ _)
   | (with_reducible exact LeO.refl _)
   | (with_reducible exact LeO.none _)
   | (with_reducible refine LeO.ite ?_ ?_)
   | (with_reducible refine LeO.bind ?_ (fun _ => ?_))
   | exact ih0 _ _ _ _
theorem impl_jsonText.mono : ∀ a0 k, LeO (impl_jsonText.f k a0) (impl_jsonText.f (k + 1) a0) := by
 intro a0 k
 have ih0 := impl_jsonText.mono_l k
 unfold impl_jsonText.f
 repeat' first
   | (with_reducible exact ih0 _ _ _ _)
   | (with_reducible exact LeO.refl _)
   | (with_reducible exact LeO.none _)
   | (with_reducible refine LeO.ite ?_ ?_)
   | (with_reducible refine LeO.bind ?_ (fun _ => ?_))
   | exact ih0 _ _ _ _
set_option maxHeartbeats 8000000 in
set_option maxRecDepth 100000 in
theorem impl_jsonText.calls (k : Nat) (a0 : ByteArray) (r : ByteArray) (w : World) (h : impl_jsonText.f k a0 = some r) :
  Calls Tryd.prog 29 #[.string a0] w fun e w' => e = .returned (.string r) ∧ Below w.heap.size w w' := by
 have HB := zA (yJ w.heap.size w)
 have H : (impl_jsonText.l0 k a0 (([34] : List Int)) (a0.size : Int) 0) = some r := h
 clear h
 obtain ⟨y263, hy263⟩ : ∃ y_ : List Int, y_ = (([34] : List Int)) := ⟨_, rfl⟩
 replace H : (impl_jsonText.l0 k a0 y263 (a0.size : Int) 0) = some r := by first | (rw [hy263]; with_reducible exact H) | (have H2_ := (Option.bind_some _ _).symm.trans H; rw [hy263]; with_reducible exact H2_) | (have H2_ := (Option.bind_some _ _).symm.trans H; with_reducible exact H2_) | with_reducible exact H | (rw [hy263]; exact H) | exact H
 have Ny263 := zA hy263
 clear hy263
 have H' := zA H
 clear H
 go_enter Tryd.func29, Tryd.ntmps29
 go_wp2_with (first | ((with_reducible refine zT (N := 6) rfl ?_); refine Kd.R_lit (Kd.int .u8) _ 5 ?hg (N := 6) ?hd (xs := ([34] : List Int)) (inner := [.int .u8 34]) (ok := fun _ => True) (okp := fun _ => True) ?hr ?hp (fun _ hk => hk) trivial (yJ _ _) (yK _) (by simp) ?_; (case hd => rfl); (case hg => rfl); (case hr => first | (go_simp; done) | (go_simp; rfl)); (case hp => exact (Reps.one (show Kd.M (Kd.int .u8) _ _ _ 34 [.int .u8 34] from rfl) (Reps.none _ _))); intro v264 w2 ho3 hb hg_ hnew_; clear hg_ hnew_; (first | rw [← Ny263.out] at ho3 | (simp only [Int.reduceToNat] at ho3; rw [← Ny263.out] at ho3)); have n0_ := zA (Kd.R_lower ho3 (zR apA)); have n1_ := zA (zQ apA hb); clear HB; have HO265 := n0_; have HB := n1_; clear n0_ n1_; clear hb ho3))
 go_loopg [3, 9] k (fun kq v3 v9 w' => ∃ (x3_1 : List Int) (x9_1 : Int), v9 = .int .i64 x9_1 ∧ Aside0 (impl_jsonText.l0 kq a0 x3_1 (a0.size : Int) x9_1 = some r) ∧ Aside0 (kq ≤ k) ∧ Aside0 (Kd.R (Kd.int .u8) 5 w' w.heap.size (fun _ => True) v3 x3_1) ∧ Aside0 (Below w.heap.size w w'))
 case atStart => exact ⟨(y263), (0), apB, H', ⟨yK _⟩, ⟨by (with_reducible repeat (first | apply Kd.R_alloc | apply Kd.R_drewN | apply Kd.R_drew)); exact HO265.out⟩, ⟨apA⟩⟩
 case round =>
  clear H'
  try clear c2
  try clear p2
  obtain ⟨x3_1, x9_1, rfl, HA, HK1, HO_3, HB⟩ := hrel
  cases gk with
  | zero => exact absurd HA.out (by simp [impl_jsonText.l0])
  | succ k1 =>
   have H := HA.out
   clear HA
   simp only [impl_jsonText.l0] at H
   by_cases c4 : x9_1 < (a0.size : Int)
   ·rw [if_pos c4] at H
    have c4b0 : decide (x9_1 < (a0.size : Int)) = true := yF c4
    clear c4
    by_cases c5 : 0 ≤ x9_1
    ·rw [if_pos c5] at H
     have c5b0 : decide (0 ≤ x9_1) = true := yF c5
     clear c5
     by_cases c6 : x9_1 < (a0.size : Int)
     ·rw [if_pos c6] at H
      have c6b0 : decide (x9_1 < (a0.size : Int)) = true := yF c6
      clear c6
      replace H := Option.bind_eq_some_iff.mp H
      obtain ⟨t269, A80, H⟩ := H
      replace H : (if t269 = true then (if x3_1.length < 140737488355328 then (impl_jsonText.l0 k1 a0 (x3_1 ++ [bt a0 x9_1]) (a0.size : Int) (wrap64 (x9_1 + 1))) else (none)) else (if (bt a0 x9_1) = 34 then ((some (([92, bt a0 x9_1] : List Int) : List Int)).bind fun y273 => (if x3_1.length + y273.length < 140737488355328 then (impl_jsonText.l0 k1 a0 (x3_1 ++ y273) (a0.size : Int) (wrap64 (x9_1 + 1))) else (none))) else (if (bt a0 x9_1) = 92 then ((some (([92, bt a0 x9_1] : List Int) : List Int)).bind fun y279 => (if x3_1.length + y279.length < 140737488355328 then (impl_jsonText.l0 k1 a0 (x3_1 ++ y279) (a0.size : Int) (wrap64 (x9_1 + 1))) else (none))) else ((impl_hex.f (bt a0 x9_1)).bind fun t285 => (if 4 + t285.size ≤ 9223372036854775807 then (if x3_1.length + ((⟨#[92, 117, 48, 48]⟩ : ByteArray) ++ t285).size < 140737488355328 then (impl_jsonText.l0 k1 a0 (x3_1 ++ bytesOf ((⟨#[92, 117, 48, 48]⟩ : ByteArray) ++ t285)) (a0.size : Int) (wrap64 (x9_1 + 1))) else (none)) else (none)))))) = some r := H
      have A8 := zA A80
      clear A80
      by_cases c9 : t269 = true
      ·subst c9
       have H1 : (if x3_1.length < 140737488355328 then (impl_jsonText.l0 k1 a0 (x3_1 ++ [bt a0 x9_1]) (a0.size : Int) (wrap64 (x9_1 + 1))) else (none)) = some r := by rw [if_pos rfl] at H; exact H
       clear H
       have H := H1
       clear H1
       by_cases c10 : x3_1.length < 140737488355328
       ·rw [if_pos c10] at H
        have LMc10 := zA c10
        clear c10
        obtain ⟨y270, hy270⟩ : ∃ y_ : List Int, y_ = (x3_1 ++ [bt a0 x9_1]) := ⟨_, rfl⟩
        replace H : (impl_jsonText.l0 k1 a0 y270 (a0.size : Int) (wrap64 (x9_1 + 1))) = some r := by first | (rw [hy270]; with_reducible exact H) | (have H2_ := (Option.bind_some _ _).symm.trans H; rw [hy270]; with_reducible exact H2_) | (have H2_ := (Option.bind_some _ _).symm.trans H; with_reducible exact H2_) | with_reducible exact H | (rw [hy270]; exact H) | exact H
        have Ny270 := zA hy270
        clear hy270
        have H' := zA H
        clear H
        have p7 : 0 ≤ (x9_1 : Int) := yG apC
        have q7 : x9_1 < (a0.size : Int) := yG apC
        have hx7 := bt_at a0 x9_1
        replace p7 := eq_true p7
        replace q7 := eq_true q7
        go_wp2_with (first | ((with_reducible refine zV (f := 41) rfl ?_); refine goesL_ (some 22) rfl rfl Tryd.func41 (by kernel_rfl) rfl #[.int .u8 (bt a0 x9_1)] rfl apE ?_; (with_reducible refine (impl_plain.calls (bt a0 x9_1) true _ A8.out).mono ?_); rintro e w' ⟨rfl, ⟨nd, rfl⟩⟩; refine ⟨_, rfl, ?_⟩) | ((with_reducible refine gate_builtin (b := .append) (xs := #[.tmp 23, .tmp 25]) rfl ?_); at_builtin; refine Kd.R_append (Kd.int .u8) (w0 := w) w.heap.size rfl (.tmp 23) (.tmp 25) 60 5 (.int .u8 0) 1 rfl Tryd.underlying60 info5 rfl (by decide) (by omega) u3 x3_1 (bt a0 x9_1) [.int .u8 (bt a0 x9_1)] (fun _ => True) (fun _ => False) rfl rfl ?aP (fun _ hk => hk.elim) ?aF ?aO ?aB ?aS ?aL ?_; (case aP => exact rfl); (case aB => exact apA); (case aF => exact (fun _ _ => trivial)); (case aO => exact (by (with_reducible repeat (first | apply Kd.R_alloc | apply Kd.R_drewN | apply Kd.R_drew)); exact HO_3.out)); (case aS => exact (zR apA)); (case aL => have := LMc10.out; (first | omega | (simp only [ByteArray.size, List.size_toArray, List.length_cons, List.length_nil] at *; omega))); intro v271 w11 ho hb hg hat; rw [← Ny270.out] at ho; have n0_ := zA (hb); have n1_ := zA (ho); clear HB; clear HO_3; have HB := n0_; have HO272 := n1_; clear n0_ n1_; clear ho hb hg hat))
        go_roundg k1
        case measure => have := HK1.out; omega
        case rel => exact ⟨(y270), (wrap64 (x9_1 + 1)), apB, H', ⟨by have := HK1.out; omega⟩, ⟨by (with_reducible repeat (first | apply Kd.R_alloc | apply Kd.R_drewN | apply Kd.R_drew)); exact HO272.out⟩, ⟨apA⟩⟩
       ·rw [if_neg c10] at H
        exact absurd H (by simp)
      ·replace c9 := Bool.eq_false_iff.mpr c9
       subst c9
       have H1 : (if (bt a0 x9_1) = 34 then ((some (([92, bt a0 x9_1] : List Int) : List Int)).bind fun y273 => (if x3_1.length + y273.length < 140737488355328 then (impl_jsonText.l0 k1 a0 (x3_1 ++ y273) (a0.size : Int) (wrap64 (x9_1 + 1))) else (none))) else (if (bt a0 x9_1) = 92 then ((some (([92, bt a0 x9_1] : List Int) : List Int)).bind fun y279 => (if x3_1.length + y279.length < 140737488355328 then (impl_jsonText.l0 k1 a0 (x3_1 ++ y279) (a0.size : Int) (wrap64 (x9_1 + 1))) else (none))) else ((impl_hex.f (bt a0 x9_1)).bind fun t285 => (if 4 + t285.size ≤ 9223372036854775807 then (if x3_1.length + ((⟨#[92, 117, 48, 48]⟩ : ByteArray) ++ t285).size < 140737488355328 then (impl_jsonText.l0 k1 a0 (x3_1 ++ bytesOf ((⟨#[92, 117, 48, 48]⟩ : ByteArray) ++ t285)) (a0.size : Int) (wrap64 (x9_1 + 1))) else (none)) else (none))))) = some r := by rw [if_neg (show ¬ (false = true) by decide)] at H; exact H
       clear H
       have H := H1
       clear H1
       by_cases c12 : (bt a0 x9_1) = 34
       ·rw [if_pos c12] at H
        have c12b0 : ((bt a0 x9_1) == 34) = true := beq_iff_eq.mpr c12
        have c12b1 : ((bt a0 x9_1) != 34) = false := bne_eq_false_iff_eq.mpr c12
        clear c12
        obtain ⟨y273, hy273⟩ : ∃ y_ : List Int, y_ = (([92, bt a0 x9_1] : List Int)) := ⟨_, rfl⟩
        replace H : (if x3_1.length + y273.length < 140737488355328 then (impl_jsonText.l0 k1 a0 (x3_1 ++ y273) (a0.size : Int) (wrap64 (x9_1 + 1))) else (none)) = some r := by first | (rw [hy273]; with_reducible exact H) | (have H2_ := (Option.bind_some _ _).symm.trans H; rw [hy273]; with_reducible exact H2_) | (have H2_ := (Option.bind_some _ _).symm.trans H; with_reducible exact H2_) | with_reducible exact H | (rw [hy273]; exact H) | exact H
        have Ny273 := zA hy273
        clear hy273
        by_cases c13 : x3_1.length + y273.length < 140737488355328
        ·rw [if_pos c13] at H
         have LMc13 := zA c13
         clear c13
         obtain ⟨y276, hy276⟩ : ∃ y_ : List Int, y_ = (x3_1 ++ y273) := ⟨_, rfl⟩
         replace H : (impl_jsonText.l0 k1 a0 y276 (a0.size : Int) (wrap64 (x9_1 + 1))) = some r := by first | (rw [hy276]; with_reducible exact H) | (have H2_ := (Option.bind_some _ _).symm.trans H; rw [hy276]; with_reducible exact H2_) | (have H2_ := (Option.bind_some _ _).symm.trans H; with_reducible exact H2_) | with_reducible exact H | (rw [hy276]; exact H) | exact H
         have Ny276 := zA hy276
         clear hy276
         have H' := zA H
         clear H
         have p7 : 0 ≤ (x9_1 : Int) := yG apC
         have q7 : x9_1 < (a0.size : Int) := yG apC
         have hx7 := bt_at a0 x9_1
         replace p7 := eq_true p7
         replace q7 := eq_true q7
         go_wp2_with (first | ((with_reducible refine zV (f := 41) rfl ?_); refine goesL_ (some 22) rfl rfl Tryd.func41 (by kernel_rfl) rfl #[.int .u8 (bt a0 x9_1)] rfl apE ?_; (with_reducible refine (impl_plain.calls (bt a0 x9_1) false _ A8.out).mono ?_); rintro e w' ⟨rfl, ⟨nd, rfl⟩⟩; refine ⟨_, rfl, ?_⟩) | ((with_reducible refine zT (N := 36) rfl ?_); refine Kd.R_lit (Kd.int .u8) _ 5 ?hg (N := 36) ?hd (xs := ([92, bt a0 x9_1] : List Int)) (inner := [.int .u8 92, .int .u8 (bt a0 x9_1)]) (ok := fun _ => True) (okp := fun _ => True) ?hr ?hp (fun _ hk => hk) trivial (yJ _ _) (yK _) (by simp) ?_; (case hd => rfl); (case hg => rfl); (case hr => first | (go_simp; done) | (go_simp; rfl)); (case hp => exact (Reps.one (show Kd.M (Kd.int .u8) _ _ _ 92 [.int .u8 92] from rfl) (Reps.one (show Kd.M (Kd.int .u8) _ _ _ (bt a0 x9_1) [.int .u8 (bt a0 x9_1)] from rfl) (Reps.none _ _)))); intro v274 w14 ho15 hb hg_ hnew_; clear hg_ hnew_; (first | rw [← Ny273.out] at ho15 | (simp only [Int.reduceToNat] at ho15; rw [← Ny273.out] at ho15)); have n0_ := zA (Kd.R_elder' (by (with_reducible repeat (first | apply Kd.R_alloc | apply Kd.R_drewN | apply Kd.R_drew)); exact HO_3.out) (Kd.R_base ho15) hb); have n1_ := zA (Kd.R_lower (Kd.R_new' ho15 (Kd.R_lt (by (with_reducible repeat (first | apply Kd.R_alloc | apply Kd.R_drewN | apply Kd.R_drew)); exact HO_3.out))) (zR apA)); have n2_ := zA (zQ apA hb); clear HO_3; clear HB; have HO_3 := n0_; have HO275 := n1_; have HB := n2_; clear n0_ n1_ n2_; clear hb ho15; obtain ⟨Ao17, co17, eo17⟩ := Kd.R_slice HO275.out; subst eo17) | ((with_reducible refine gate_builtin (b := .append) (xs := #[.tmp 34, .tmp 36]) rfl ?_); at_builtin; refine Kd.R_append_rows (Kd.int .u8) (w0 := w) w.heap.size rfl (.tmp 34) (.tmp 36) 60 5 (.int .u8 0) 1 rfl Tryd.underlying60 info5 rfl (by decide) (by omega) u3 x3_1 y273 _ _ _ (fun k_ => some k_ ≠ (.slice Ao17 y273.length co17 : Value).ownBlock) (fun _ => False) rfl rfl ?aO ?aR (fun _ _ h => h) (fun _ h => h.elim) ?aF ?aB ?aS ?aL ?_; (case aR => repeat (first | exact (Kd.R_reads' HO275.out).2.2 | (with_reducible refine Kd.C_alloc ?_ _) | (with_reducible refine Kd.C_drewN ?_ _) | (with_reducible refine Kd.C_drew ?_))); (case aB => exact apA); (case aF => exact (fun k_ hk => Kd.fresh' (Kd.R_lt (by (with_reducible repeat (first | apply Kd.R_alloc | apply Kd.R_drewN | apply Kd.R_drew)); exact HO275.out)) k_ hk)); (case aO => exact (by (with_reducible repeat (first | apply Kd.R_alloc | apply Kd.R_drewN | apply Kd.R_drew)); exact Kd.R_mono HO_3.out (fun _ hk => hk.2))); (case aS => exact (zR apA)); (case aL => have := LMc13.out; (first | omega | (simp only [ByteArray.size, List.size_toArray, List.length_cons, List.length_nil] at *; omega))); intro v277 w16 ho hb hg hat; rw [← Ny276.out] at ho; have n0_ := zA (Kd.R_after (ok := (fun _ => True)) (by (with_reducible repeat (first | apply Kd.R_alloc | apply Kd.R_drewN | apply Kd.R_drew)); exact HO275.out) hg hat); have n1_ := zA (hb); have n2_ := zA (ho); clear HO275; clear HB; clear HO_3; have HO275 := n0_; have HB := n1_; have HO278 := n2_; clear n0_ n1_ n2_; clear ho hb hg hat))
         go_roundg k1
         case measure => have := HK1.out; omega
         case rel => exact ⟨(y276), (wrap64 (x9_1 + 1)), apB, H', ⟨by have := HK1.out; omega⟩, ⟨by (with_reducible repeat (first | apply Kd.R_alloc | apply Kd.R_drewN | apply Kd.R_drew)); exact Kd.R_mono HO278.out (fun _ hk => trivial)⟩, ⟨apA⟩⟩
        ·rw [if_neg c13] at H
         exact absurd H (by simp)
       ·rw [if_neg c12] at H
        have c12b0 : ((bt a0 x9_1) == 34) = false := beq_eq_false_iff_ne.mpr c12
        have c12b1 : ((bt a0 x9_1) != 34) = true := bne_iff_ne.mpr c12
        by_cases c18 : (bt a0 x9_1) = 92
        ·rw [if_pos c18] at H
         have c18b0 : ((bt a0 x9_1) == 92) = true := beq_iff_eq.mpr c18
         have c18b1 : ((bt a0 x9_1) != 92) = false := bne_eq_false_iff_eq.mpr c18
         clear c18
         obtain ⟨y279, hy279⟩ : ∃ y_ : List Int, y_ = (([92, bt a0 x9_1] : List Int)) := ⟨_, rfl⟩
         replace H : (if x3_1.length + y279.length < 140737488355328 then (impl_jsonText.l0 k1 a0 (x3_1 ++ y279) (a0.size : Int) (wrap64 (x9_1 + 1))) else (none)) = some r := by first | (rw [hy279]; with_reducible exact H) | (have H2_ := (Option.bind_some _ _).symm.trans H; rw [hy279]; with_reducible exact H2_) | (have H2_ := (Option.bind_some _ _).symm.trans H; with_reducible exact H2_) | with_reducible exact H | (rw [hy279]; exact H) | exact H
         have Ny279 := zA hy279
         clear hy279
         by_cases c19 : x3_1.length + y279.length < 140737488355328
         ·rw [if_pos c19] at H
          have LMc19 := zA c19
          clear c19
          obtain ⟨y282, hy282⟩ : ∃ y_ : List Int, y_ = (x3_1 ++ y279) := ⟨_, rfl⟩
          replace H : (impl_jsonText.l0 k1 a0 y282 (a0.size : Int) (wrap64 (x9_1 + 1))) = some r := by first | (rw [hy282]; with_reducible exact H) | (have H2_ := (Option.bind_some _ _).symm.trans H; rw [hy282]; with_reducible exact H2_) | (have H2_ := (Option.bind_some _ _).symm.trans H; with_reducible exact H2_) | with_reducible exact H | (rw [hy282]; exact H) | exact H
          have Ny282 := zA hy282
          clear hy282
          have H' := zA H
          clear H
          have p7 : 0 ≤ (x9_1 : Int) := yG apC
          have q7 : x9_1 < (a0.size : Int) := yG apC
          have hx7 := bt_at a0 x9_1
          replace p7 := eq_true p7
          replace q7 := eq_true q7
          go_wp2_with (first | ((with_reducible refine zV (f := 41) rfl ?_); refine goesL_ (some 22) rfl rfl Tryd.func41 (by kernel_rfl) rfl #[.int .u8 (bt a0 x9_1)] rfl apE ?_; (with_reducible refine (impl_plain.calls (bt a0 x9_1) false _ A8.out).mono ?_); rintro e w' ⟨rfl, ⟨nd, rfl⟩⟩; refine ⟨_, rfl, ?_⟩) | ((with_reducible refine zT (N := 36) rfl ?_); refine Kd.R_lit (Kd.int .u8) _ 5 ?hg (N := 36) ?hd (xs := ([92, bt a0 x9_1] : List Int)) (inner := [.int .u8 92, .int .u8 (bt a0 x9_1)]) (ok := fun _ => True) (okp := fun _ => True) ?hr ?hp (fun _ hk => hk) trivial (yJ _ _) (yK _) (by simp) ?_; (case hd => rfl); (case hg => rfl); (case hr => first | (go_simp; done) | (go_simp; rfl)); (case hp => exact (Reps.one (show Kd.M (Kd.int .u8) _ _ _ 92 [.int .u8 92] from rfl) (Reps.one (show Kd.M (Kd.int .u8) _ _ _ (bt a0 x9_1) [.int .u8 (bt a0 x9_1)] from rfl) (Reps.none _ _)))); intro v280 w20 ho21 hb hg_ hnew_; clear hg_ hnew_; (first | rw [← Ny279.out] at ho21 | (simp only [Int.reduceToNat] at ho21; rw [← Ny279.out] at ho21)); have n0_ := zA (Kd.R_elder' (by (with_reducible repeat (first | apply Kd.R_alloc | apply Kd.R_drewN | apply Kd.R_drew)); exact HO_3.out) (Kd.R_base ho21) hb); have n1_ := zA (Kd.R_lower (Kd.R_new' ho21 (Kd.R_lt (by (with_reducible repeat (first | apply Kd.R_alloc | apply Kd.R_drewN | apply Kd.R_drew)); exact HO_3.out))) (zR apA)); have n2_ := zA (zQ apA hb); clear HO_3; clear HB; have HO_3 := n0_; have HO281 := n1_; have HB := n2_; clear n0_ n1_ n2_; clear hb ho21; obtain ⟨Ao23, co23, eo23⟩ := Kd.R_slice HO281.out; subst eo23) | ((with_reducible refine gate_builtin (b := .append) (xs := #[.tmp 34, .tmp 36]) rfl ?_); at_builtin; refine Kd.R_append_rows (Kd.int .u8) (w0 := w) w.heap.size rfl (.tmp 34) (.tmp 36) 60 5 (.int .u8 0) 1 rfl Tryd.underlying60 info5 rfl (by decide) (by omega) u3 x3_1 y279 _ _ _ (fun k_ => some k_ ≠ (.slice Ao23 y279.length co23 : Value).ownBlock) (fun _ => False) rfl rfl ?aO ?aR (fun _ _ h => h) (fun _ h => h.elim) ?aF ?aB ?aS ?aL ?_; (case aR => repeat (first | exact (Kd.R_reads' HO281.out).2.2 | (with_reducible refine Kd.C_alloc ?_ _) | (with_reducible refine Kd.C_drewN ?_ _) | (with_reducible refine Kd.C_drew ?_))); (case aB => exact apA); (case aF => exact (fun k_ hk => Kd.fresh' (Kd.R_lt (by (with_reducible repeat (first | apply Kd.R_alloc | apply Kd.R_drewN | apply Kd.R_drew)); exact HO281.out)) k_ hk)); (case aO => exact (by (with_reducible repeat (first | apply Kd.R_alloc | apply Kd.R_drewN | apply Kd.R_drew)); exact Kd.R_mono HO_3.out (fun _ hk => hk.2))); (case aS => exact (zR apA)); (case aL => have := LMc19.out; (first | omega | (simp only [ByteArray.size, List.size_toArray, List.length_cons, List.length_nil] at *; omega))); intro v283 w22 ho hb hg hat; rw [← Ny282.out] at ho; have n0_ := zA (Kd.R_after (ok := (fun _ => True)) (by (with_reducible repeat (first | apply Kd.R_alloc | apply Kd.R_drewN | apply Kd.R_drew)); exact HO281.out) hg hat); have n1_ := zA (hb); have n2_ := zA (ho); clear HO281; clear HB; clear HO_3; have HO281 := n0_; have HB := n1_; have HO284 := n2_; clear n0_ n1_ n2_; clear ho hb hg hat))
          go_roundg k1
          case measure => have := HK1.out; omega
          case rel => exact ⟨(y282), (wrap64 (x9_1 + 1)), apB, H', ⟨by have := HK1.out; omega⟩, ⟨by (with_reducible repeat (first | apply Kd.R_alloc | apply Kd.R_drewN | apply Kd.R_drew)); exact Kd.R_mono HO284.out (fun _ hk => trivial)⟩, ⟨apA⟩⟩
         ·rw [if_neg c19] at H
          exact absurd H (by simp)
        ·rw [if_neg c18] at H
         have c18b0 : ((bt a0 x9_1) == 92) = false := beq_eq_false_iff_ne.mpr c18
         have c18b1 : ((bt a0 x9_1) != 92) = true := bne_iff_ne.mpr c18
         replace H := Option.bind_eq_some_iff.mp H
         obtain ⟨t285, A240, H⟩ := H
         replace H : (if 4 + t285.size ≤ 9223372036854775807 then (if x3_1.length + ((⟨#[92, 117, 48, 48]⟩ : ByteArray) ++ t285).size < 140737488355328 then (impl_jsonText.l0 k1 a0 (x3_1 ++ bytesOf ((⟨#[92, 117, 48, 48]⟩ : ByteArray) ++ t285)) (a0.size : Int) (wrap64 (x9_1 + 1))) else (none)) else (none)) = some r := H
         have A24 := zA A240
         clear A240
         by_cases c25 : 4 + t285.size ≤ 9223372036854775807
         ·rw [if_pos c25] at H
          have c25b0 := eq_true c25
          have c25b1 : decide (4 + t285.size ≤ 9223372036854775807) = true := yF c25
          try have c25b2 : (9223372036854775807 < 4 + t285.size) = False := eq_false (Nat.not_lt.2 c25)
          by_cases c26 : x3_1.length + ((⟨#[92, 117, 48, 48]⟩ : ByteArray) ++ t285).size < 140737488355328
          ·rw [if_pos c26] at H
           have LMc26 := zA c26
           clear c26
           obtain ⟨y286, hy286⟩ : ∃ y_ : List Int, y_ = (x3_1 ++ bytesOf ((⟨#[92, 117, 48, 48]⟩ : ByteArray) ++ t285)) := ⟨_, rfl⟩
           replace H : (impl_jsonText.l0 k1 a0 y286 (a0.size : Int) (wrap64 (x9_1 + 1))) = some r := by first | (rw [hy286]; with_reducible exact H) | (have H2_ := (Option.bind_some _ _).symm.trans H; rw [hy286]; with_reducible exact H2_) | (have H2_ := (Option.bind_some _ _).symm.trans H; with_reducible exact H2_) | with_reducible exact H | (rw [hy286]; exact H) | exact H
           have Ny286 := zA hy286
           clear hy286
           have H' := zA H
           clear H
           have p7 : 0 ≤ (x9_1 : Int) := yG apC
           have q7 : x9_1 < (a0.size : Int) := yG apC
           have hx7 := bt_at a0 x9_1
           replace p7 := eq_true p7
           replace q7 := eq_true q7
           go_wp2_with (first | ((with_reducible refine zV (f := 41) rfl ?_); refine goesL_ (some 22) rfl rfl Tryd.func41 (by kernel_rfl) rfl #[.int .u8 (bt a0 x9_1)] rfl apE ?_; (with_reducible refine (impl_plain.calls (bt a0 x9_1) false _ A8.out).mono ?_); rintro e w' ⟨rfl, ⟨nd, rfl⟩⟩; refine ⟨_, rfl, ?_⟩) | ((with_reducible refine zV (f := 42) rfl ?_); refine goesL_ (some 17) rfl rfl Tryd.func42 (by kernel_rfl) rfl #[.int .u8 (bt a0 x9_1)] rfl apE ?_; (with_reducible refine (impl_hex.calls (bt a0 x9_1) t285 _ A24.out).mono ?_); rintro e w' ⟨rfl, ⟨nd, rfl⟩⟩; refine ⟨_, rfl, ?_⟩) | (at_builtin; refine print_append_str (w0 := w) w.heap.size rfl (.tmp 15) _ 60 9 5 rfl Tryd.underlying60 Tryd.underlying9 info5 u3 x3_1 ((⟨#[92, 117, 48, 48]⟩ : ByteArray) ++ t285) rfl rfl ?aO ?aB ?aS ?aL ?_; (case aB => exact apA); (case aO => exact (Kd.own_of_R (by (with_reducible repeat (first | apply Kd.R_alloc | apply Kd.R_drewN | apply Kd.R_drew)); exact HO_3.out))); (case aS => exact (zR apA)); (case aL => have := LMc26.out; (first | omega | (simp only [ByteArray.size, List.size_toArray, List.length_cons, List.length_nil] at *; omega))); intro v287 w27 ho0 hb hg; have ho := Kd.R_of_own (h1 := fun _ => rfl) (ok := fun _ => True) ho0 (fun _ _ => trivial); clear ho0; have hat := True.intro; rw [← Ny286.out] at ho; change Kd.R (Kd.int .u8) 5 w27 w.heap.size (fun _ => True) v287 y286 at ho; have n0_ := zA (hb); have n1_ := zA (ho); clear HB; clear HO_3; have HB := n0_; have HO288 := n1_; clear n0_ n1_; clear ho hb hg hat))
           go_roundg k1
           case measure => have := HK1.out; omega
           case rel => exact ⟨(y286), (wrap64 (x9_1 + 1)), apB, H', ⟨by have := HK1.out; omega⟩, ⟨by (with_reducible repeat (first | apply Kd.R_alloc | apply Kd.R_drewN | apply Kd.R_drew)); exact HO288.out⟩, ⟨apA⟩⟩
          ·rw [if_neg c26] at H
           exact absurd H (by simp)
         ·rw [if_neg c25] at H
          exact absurd H (by simp)
     ·rw [if_neg c6] at H
      exact absurd H (by simp)
    ·rw [if_neg c5] at H
     exact absurd H (by simp)
   ·rw [if_neg c4] at H
    have c4b0 : decide (x9_1 < (a0.size : Int)) = false := decide_eq_false c4
    clear c4
    by_cases c28 : x3_1.length < 140737488355328
    ·rw [if_pos c28] at H
     have LMc28 := zA c28
     clear c28
     obtain ⟨y266, hy266⟩ : ∃ y_ : List Int, y_ = (x3_1 ++ [34]) := ⟨_, rfl⟩
     replace H : (some (strOfNums y266)) = some r := by first | (rw [hy266]; with_reducible exact H) | (have H2_ := (Option.bind_some _ _).symm.trans H; rw [hy266]; with_reducible exact H2_) | (have H2_ := (Option.bind_some _ _).symm.trans H; with_reducible exact H2_) | with_reducible exact H | (rw [hy266]; exact H) | exact H
     have Ny266 := zA hy266
     clear hy266
     obtain rfl := yH H
     go_wp2_with (first | ((with_reducible refine gate_builtin (b := .append) (xs := #[.tmp 39, .tmp 40]) rfl ?_); at_builtin; refine Kd.R_append (Kd.int .u8) (w0 := w) w.heap.size rfl (.tmp 39) (.tmp 40) 60 5 (.int .u8 0) 1 rfl Tryd.underlying60 info5 rfl (by decide) (by omega) u3 x3_1 34 [.int .u8 34] (fun _ => True) (fun _ => False) rfl rfl ?aP (fun _ hk => hk.elim) ?aF ?aO ?aB ?aS ?aL ?_; (case aP => exact rfl); (case aB => exact apA); (case aF => exact (fun _ _ => trivial)); (case aO => exact (by (with_reducible repeat (first | apply Kd.R_alloc | apply Kd.R_drewN | apply Kd.R_drew)); exact HO_3.out)); (case aS => exact (zR apA)); (case aL => have := LMc28.out; (first | omega | (simp only [ByteArray.size, List.size_toArray, List.length_cons, List.length_nil] at *; omega))); intro v267 w29 ho hb hg hat; rw [← Ny266.out] at ho; have n0_ := zA (hb); have n1_ := zA (ho); clear HB; clear HO_3; have HB := n0_; have HO268 := n1_; clear n0_ n1_; clear ho hb hg hat; have hcv30 := own_string (P := Tryd.prog) Tryd.underlying60 Tryd.underlying5 Tryd.underlying9 (Kd.own_of_R HO268.out)))
     go_ret
     exact ⟨apD, apA⟩
    ·rw [if_neg c28] at H
     exact absurd H (by simp)


def strings_Join.f (l0 : List ByteArray) (a1 : ByteArray) : Option (ByteArray) := if l0.length ≤ 140737488355328 ∧ (Lib.join (l0.map (·.data.toList)) a1.data.toList).length ≤ 140737488355328 then some (⟨(Lib.join (l0.map (·.data.toList)) a1.data.toList).toArray⟩) else none
theorem strings_Join.calls (A0 : Option Addr) (c0 : Nat) (l0 : List ByteArray) (a1 : ByteArray) (r : ByteArray) (w : World) (hr0 : Kd.C Kd.string w A0 l0.length l0) (hc0 : l0.length ≤ c0) (h : strings_Join.f l0 a1 = some r) :
  Calls Tryd.prog 30 #[.slice A0 l0.length c0, .string a1] w fun e w' => e = .returned (.string r) ∧ Below w.heap.size w w' := by
 unfold strings_Join.f at h
 split at h
 ·rename_i hh
  have h2 := yH h
  subst h2
  cases l0 with
  | nil => exact (Any.strings_Join_none Tryd.lays156 Tryd.Builder_Extra_156 A0 c0 a1 w).mono (by rintro e w' ⟨rfl, rfl⟩; exact ⟨rfl, yJ _ _⟩)
  | cons x xs =>
   obtain ⟨ad, rfl, hr⟩ := hr0.2.2 (by simp)
   have hcell : ∀ (j : Nat) y, (x :: xs)[j]? = some y → w.cell? (ad.add j) = some (.string y) := by
    intro j y hj
    obtain ⟨c, _, hK, hc⟩ := hr j y hj
    obtain rfl : c = [.string y] := hK
    have := hc 0 _ rfl
    rwa [show j * Kd.string.sz + 0 = j from by show j * 1 + 0 = j; omega] at this
   have h0 := hcell 0 x rfl
   obtain ⟨bk, o, sp⟩ := ad
   obtain rfl : sp = none := by
    cases sp with
    | none => rfl
    | some s =>
     exfalso
     unfold World.cell? at h0
     split at h0
     ·cases h0
     ·cases h0
   have hbk : bk < w.heap.size := by
    apply Classical.byContradiction
    intro hge
    unfold World.cell? at h0
    rw [show w.heap[(Addr.add ⟨bk, o, none⟩ 0).block]? = none from Array.getElem?_eq_none (by show w.heap.size ≤ bk; omega)] at h0
    cases h0
   exact Tryd.strings_Join bk o c0 (x :: xs) a1 w (fun j y hj => by
    have := hcell j y hj
    unfold Addr.add at this
    split at this
    ·rename_i hj0; subst hj0; exact this
    ·exact this) hbk hh.1 hc0 hh.2
 ·cases h

end Go.Proofs.YtihepjjjdjemfaaDoor.Q

namespace Go.Proofs.YtihepjjjdjemfaaDoor.Q
open Go.RowKit Go.Proofs.YtihepjjjdjemfaaDoorW.PrintWords Go.Proofs.YtihepjjjdjemfaaDoorW.PrintLast Go.Proofs.YtihepjjjdjemfaaDoorW.PrintMore Go.Proofs.YtihepjjjdjemfaaDoorX
attribute [local go_sem] max2_int min2_int max_two min_two max_three min_three max_four min_four   -- for this text's walks alone
set_option linter.unusedVariables false
set_option linter.unusedSimpArgs false

attribute [-simp] ByteArray.size_extract
mutual
def impl_layout.j0 : Nat → Bool → ByteArray → ByteArray → ByteArray → ByteArray → ByteArray → Bool → List Int → Int → Int → Int → ByteArray → List (S33) → List ByteArray → Option (ByteArray)
 | 0, _, _, _, _, _, _, _, _, _, _, _, _, _, _ => none
 | k + 1, x1, x2, x7, x8, x9, x10, x40, x997, x290000, x290001, x290002, x290003, x290004, x290005 => if x40 = true then (if x2.size + 2 ≤ 9223372036854775807 then (if 1 + (x2 ++ (⟨#[32, 32]⟩ : ByteArray)).size ≤ 9223372036854775807 then (if 1 + x2.size ≤ 9223372036854775807 then (impl_layout.j1 k x1 (x2 ++ (⟨#[32, 32]⟩ : ByteArray)) ((⟨#[10]⟩ : ByteArray) ++ (x2 ++ (⟨#[32, 32]⟩ : ByteArray))) (⟨#[32]⟩ : ByteArray) ((⟨#[10]⟩ : ByteArray) ++ x2) x997 x290000 x290001 x290002 x290003 x290004 x290005) else (none)) else (none)) else (none)) else (impl_layout.j1 k x1 x7 x8 x9 x10 x997 x290000 x290001 x290002 x290003 x290004 x290005)
def impl_layout.j1 : Nat → Bool → ByteArray → ByteArray → ByteArray → ByteArray → List Int → Int → Int → Int → ByteArray → List (S33) → List ByteArray → Option (ByteArray)
 | 0, _, _, _, _, _, _, _, _, _, _, _, _ => none
 | k + 1, x1, x7, x8, x9, x10, x997, x290000, x290001, x290002, x290003, x290004, x290005 => if x290000 = 6 then (impl_layout.j2 k x1 x7 x8 x9 x10 (⟨#[123, 125]⟩ : ByteArray) x997 x290000 x290001 x290002 x290003 x290004 x290005) else (impl_layout.j2 k x1 x7 x8 x9 x10 (⟨#[91, 93]⟩ : ByteArray) x997 x290000 x290001 x290002 x290003 x290004 x290005)
def impl_layout.j2 : Nat → Bool → ByteArray → ByteArray → ByteArray → ByteArray → ByteArray → List Int → Int → Int → Int → ByteArray → List (S33) → List ByteArray → Option (ByteArray)
 | 0, _, _, _, _, _, _, _, _, _, _, _, _, _ => none
 | k + 1, x1, x7, x8, x9, x10, x11, x997, x290000, x290001, x290002, x290003, x290004, x290005 => impl_layout.l0 k x1 x7 x8 x9 x10 x11 (([] : List ByteArray)) x290004 (x290004.length : Int) 0 x997 x290000 x290001 x290002 x290003 x290004 x290005
def impl_layout.l0 : Nat → Bool → ByteArray → ByteArray → ByteArray → ByteArray → ByteArray → List ByteArray → List (S33) → Int → Int → List Int → Int → Int → Int → ByteArray → List (S33) → List ByteArray → Option (ByteArray)
 | 0, _, _, _, _, _, _, _, _, _, _, _, _, _, _, _, _, _ => none
 | k + 1, x1, x7, x8, x9, x10, x11, x12, x52, x53, x54, x997, x290000, x290001, x290002, x290003, x290004, x290005 => if x54 < x53 then (if 0 ≤ x54 then (if x54 < (x52.length : Int) then (if x290000 = 6 then (if x54 < (x290005.length : Int) then ((impl_jsonText.f k (rdOf ByteArray.empty x290005 x54)).bind fun t299 => (if t299.size + 1 ≤ 9223372036854775807 then (if (t299 ++ (⟨#[58]⟩ : ByteArray)).size + x9.size ≤ 9223372036854775807 then (if x8.size + ((t299 ++ (⟨#[58]⟩ : ByteArray)) ++ x9).size ≤ 9223372036854775807 then ((impl_layout.f k ((rd_T33 x52 x54).f0) ((rd_T33 x52 x54).f1.f0) ((rd_T33 x52 x54).f1.f1) ((rd_T33 x52 x54).f2) ((rd_T33 x52 x54).f3) ((rd_T33 x52 x54).f4) x1 x7 x997).bind fun t300 => (if (x8 ++ ((t299 ++ (⟨#[58]⟩ : ByteArray)) ++ x9)).size + t300.size ≤ 9223372036854775807 then (if x12.length < 8796093022208 then (impl_layout.l0 k x1 x7 x8 x9 x10 x11 (x12 ++ [(x8 ++ ((t299 ++ (⟨#[58]⟩ : ByteArray)) ++ x9)) ++ t300]) x52 x53 (wrap64 (x54 + 1)) x997 x290000 x290001 x290002 x290003 x290004 x290005) else (none)) else (none))) else (none)) else (none)) else (none))) else (none)) else ((impl_layout.f k ((rd_T33 x52 x54).f0) ((rd_T33 x52 x54).f1.f0) ((rd_T33 x52 x54).f1.f1) ((rd_T33 x52 x54).f2) ((rd_T33 x52 x54).f3) ((rd_T33 x52 x54).f4) x1 x7 x997).bind fun t304 => (if x8.size + t304.size ≤ 9223372036854775807 then (if x12.length < 8796093022208 then (impl_layout.l0 k x1 x7 x8 x9 x10 x11 (x12 ++ [x8 ++ t304]) x52 x53 (wrap64 (x54 + 1)) x997 x290000 x290001 x290002 x290003 x290004 x290005) else (none)) else (none)))) else (none)) else (none)) else (if 0 ≤ 1 then (if 1 ≤ (x11.size : Int) then ((strings_Join.f x12 (⟨#[44]⟩ : ByteArray)).bind fun t295 => (if (x11.extract 0 1).size + t295.size ≤ 9223372036854775807 then (if ((x11.extract 0 1) ++ t295).size + x10.size ≤ 9223372036854775807 then (if (((x11.extract 0 1) ++ t295) ++ x10).size + (x11.extract 1 x11.size).size ≤ 9223372036854775807 then (some ((((x11.extract 0 1) ++ t295) ++ x10) ++ (x11.extract 1 x11.size))) else (none)) else (none)) else (none))) else (none)) else (none))
def impl_layout.f : Nat → Int → Int → Int → ByteArray → List (S33) → List ByteArray → Bool → ByteArray → List Int → Option (ByteArray)
 | 0, _, _, _, _, _, _, _, _, _ => none
 | k + 1, a0_0, a0_1, a0_2, a0_3, l0_4, l0_5, a1, a2, l3 => if a0_0 = 0 then (some (⟨#[110, 117, 108, 108]⟩ : ByteArray)) else (if a0_0 = 1 then (some (⟨#[116, 114, 117, 101]⟩ : ByteArray)) else (if a0_0 = 2 then (some (⟨#[102, 97, 108, 115, 101]⟩ : ByteArray)) else (if a0_0 = 3 then ((impl_DecText.f k a0_1 a0_2 l3).bind fun t290 => (some t290)) else (if a0_0 = 4 then ((impl_jsonText.f k a0_3).bind fun t291 => (some t291)) else (if a1 = true then (impl_layout.j0 k a1 a2 (⟨#[]⟩ : ByteArray) (⟨#[]⟩ : ByteArray) (⟨#[]⟩ : ByteArray) (⟨#[]⟩ : ByteArray) (decide ((l0_4.length : Int) > 0)) l3 a0_0 a0_1 a0_2 a0_3 l0_4 l0_5) else (impl_layout.j0 k a1 a2 (⟨#[]⟩ : ByteArray) (⟨#[]⟩ : ByteArray) (⟨#[]⟩ : ByteArray) (⟨#[]⟩ : ByteArray) false l3 a0_0 a0_1 a0_2 a0_3 l0_4 l0_5))))))
end
theorem impl_layout.mono_l : ∀ k, (∀ y0 y1 y2 y3 y4 y5 y6 y7 y8, LeO (impl_layout.f k y0 y1 y2 y3 y4 y5 y6 y7 y8) (impl_layout.f (k + 1) y0 y1 y2 y3 y4 y5 y6 y7 y8)) ∧ (∀ y0 y1 y2 y3 y4 y5 y6 y7 y8 y9 y10 y11 y12 y13, LeO (impl_layout.j0 k y0 y1 y2 y3 y4 y5 y6 y7 y8 y9 y10 y11 y12 y13) (impl_layout.j0 (k + 1) y0 y1 y2 y3 y4 y5 y6 y7 y8 y9 y10 y11 y12 y13)) ∧ (∀ y0 y1 y2 y3 y4 y5 y6 y7 y8 y9 y10 y11, LeO (impl_layout.j1 k y0 y1 y2 y3 y4 y5 y6 y7 y8 y9 y10 y11) (impl_layout.j1 (k + 1) y0 y1 y2 y3 y4 y5 y6 y7 y8 y9 y10 y11)) ∧ (∀ y0 y1 y2 y3 y4 y5 y6 y7 y8 y9 y10 y11 y12, LeO (impl_layout.j2 k y0 y1 y2 y3 y4 y5 y6 y7 y8 y9 y10 y11 y12) (impl_layout.j2 (k + 1) y0 y1 y2 y3 y4 y5 y6 y7 y8 y9 y10 y11 y12)) ∧ (∀ y0 y1 y2 y3 y4 y5 y6 y7 y8 y9 y10 y11 y12 y13 y14 y15 y16, LeO (impl_layout.l0 k y0 y1 y2 y3 y4 y5 y6 y7 y8 y9 y10 y11 y12 y13 y14 y15 y16) (impl_layout.l0 (k + 1) y0 y1 y2 y3 y4 y5 y6 y7 y8 y9 y10 y11 y12 y13 y14 y15 y16))
 | 0 => ⟨fun _ _ _ _ _ _ _ _ _ r h => by simp [impl_layout.f] at h, fun _ _ _ _ _ _ _ _ _ _ _ _ _ _ r h => by simp [impl_layout.j0] at h, fun _ _ _ _ _ _ _ _ _ _ _ _ r h => by simp [impl_layout.j1] at h, fun _ _ _ _ _ _ _ _ _ _ _ _ _ r h => by simp [impl_layout.j2] at h, fun _ _ _ _ _ _ _ _ _ _ _ _ _ _ _ _ _ r h => by simp [impl_layout.l0] at h⟩
 | k + 1 => by
  obtain ⟨ih0, ih1, ih2, ih3, ih4⟩ := impl_layout.mono_l k
  refine ⟨?_, ?_, ?_, ?_, ?_⟩
  ·intro y0 y1 y2 y3 y4 y5 y6 y7 y8
   unfold impl_layout.f
   repeat' first
   | (with_reducible exact ih0 _ _ _ _ _ _ _ _ _)
   | (with_reducible exact ih1 _ _ _ _ _ _ _ _ _ _ _ _ _ _)
   | (with_reducible exact ih2 _ _ _ _ _ _ _ _ _ _ _ _)
   | (with_reducible exact ih3 _ _ _ _ _ _ _ _ _ _ _ _ _)
   | (with_reducible exact ih4 _ _ _ _ _ _ _ _ _ _ _ _ _ _ _ _ _)
   | (with_reducible exact impl_DecText.mono _ _ _ _)
   | (with_reducible exact impl_jsonText.mono _ _)
   | (with_reducible exact LeO.refl _)
   | (with_reducible exact LeO.none _)
   | (with_reducible refine LeO.ite ?_ ?_)
   | (with_reducible refine LeO.bind ?_ (fun _ => ?_))
   | exact ih0 _ _ _ _ _ _ _ _ _
   | exact ih1 _ _ _ _ _ _ _ _ _ _ _ _ _ _
   | exact ih2 _ _ _ _ _ _ _ _ _ _ _ _
   | exact ih3 _ _ _ _ _ _ _ _ _ _ _ _ _
   | exact ih4 _ _ _ _ _ _ _ _ _ _ _ _ _ _ _ _ _
  ·intro y0 y1 y2 y3 y4 y5 y6 y7 y8 y9 y10 y11 y12 y13
   unfold impl_layout.j0
   repeat' first
   | (with_reducible exact ih0 _ _ _ _ _ _ _ _ _)
   | (with_reducible exact ih1 _ _ _ _ _ _ _ _ _ _ _ _ _ _)
   | (with_reducible exact ih2 _ _ _ _ _ _ _ _ _ _ _ _)
   | (with_reducible exact ih3 _ _ _ _ _ _ _ _ _ _ _ _ _)
   | (with_reducible exact ih4 _ _ _ _ _ _ _ _ _ _ _ _ _ _ _ _ _)
   | (with_reducible exact impl_DecText.mono _ _ _ _)
   | (with_reducible exact impl_jsonText.mono _ _)
   | (with_reducible exact LeO.refl _)
   | (with_reducible exact LeO.none _)
   | (with_reducible refine LeO.ite ?_ ?_)
   | (with_reducible refine LeO.bind ?_ (fun _ => ?_))
   | exact ih0 _ _ _ _ _ _ _ _ _
   | exact ih1 _ _ _ _ _ _ _ _ _ _ _ _ _ _
   | exact ih2 _ _ _ _ _ _ _ _ _ _ _ _
   | exact ih3 _ _ _ _ _ _ _ _ _ _ _ _ _
   | exact ih4 _ _ _ _ _ _ _ _ _ _ _ _ _ _ _ _ _
  ·intro y0 y1 y2 y3 y4 y5 y6 y7 y8 y9 y10 y11
   unfold impl_layout.j1
   repeat' first
   | (with_reducible exact ih0 _ _ _ _ _ _ _ _ _)
   | (with_reducible exact ih1 _ _ _ _ _ _ _ _ _ _ _ _ _ _)
   | (with_reducible exact ih2 _ _ _ _ _ _ _ _ _ _ _ _)
   | (with_reducible exact ih3 _ _ _ _ _ _ _ _ _ _ _ _ _)
   | (with_reducible exact ih4 _ _ _ _ _ _ _ _ _ _ _ _ _ _ _ _ _)
   | (with_reducible exact impl_DecText.mono _ _ _ _)
   | (with_reducible exact impl_jsonText.mono _ _)
   | (with_reducible exact LeO.refl _)
   | (with_reducible exact LeO.none _)
   | (with_reducible refine LeO.ite ?_ ?_)
   | (with_reducible refine LeO.bind ?_ (fun _ => ?_))
   | exact ih0 _ _ _ _ _ _ _ _ _
   | exact ih1 _ _ _ _ _ _ _ _ _ _ _ _ _ _
   | exact ih2 _ _ _ _ _ _ _ _ _ _ _ _
   | exact ih3 _ _ _ _ _ _ _ _ _ _ _ _ _
   | exact ih4 _ _ _ _ _ _ _ _ _ _ _ _ _ _ _ _ _
  ·intro y0 y1 y2 y3 y4 y5 y6 y7 y8 y9 y10 y11 y12
   unfold impl_layout.j2
   repeat' first
   | (with_reducible exact ih0 _ _ _ _ _ _ _ _ _)
   | (with_reducible exact ih1 _ _ _ _ _ _ _ _ _ _ _ _ _ _)
   | (with_reducible exact ih2 _ _ _ _ _ _ _ _ _ _ _ _)
   | (with_reducible exact ih3 _ _ _ _ _ _ _ _ _ _ _ _ _)
   | (with_reducible exact ih4 _ _ _ _ _ _ _ _ _ _ _ _ _ _ _ _ _)
   | (with_reducible exact impl_DecText.mono _ _ _ _)
   | (with_reducible exact impl_jsonText.mono _ _)
   | (with_reducible exact LeO.refl _)
   | (with_reducible exact LeO.none _)
   | (with_reducible refine LeO.ite ?_ ?_)
   | (with_reducible refine LeO.bind ?_ (fun _ => ?_))
   | exact ih0 _ _ _ _ _ _ _ _ _
   | exact ih1 _ _ _ _ _ _ _ _ _ _ _ _ _ _
   | exact ih2 _ _ _ _ _ _ _ _ _ _ _ _
   | exact ih3 _ _ _ _ _ _ _ _ _ _ _ _ _
   | exact ih4 _ _ _ _ _ _ _ _ _ _ _ _ _ _ _ _ _
  ·intro y0 y1 y2 y3 y4 y5 y6 y7 y8 y9 y10 y11 y12 y13 y14 y15 y16
   unfold impl_layout.l0
   repeat' first
   | (with_reducible exact ih0 _ _ _ _ _ _ _ _ _)
   | (with_reducible exact ih1 _ _ _ _ _ _ _ _ _ _ _ _ _ _)
   | (with_reducible exact ih2 _ _ _ _ _ _ _ _ _ _ _ _)
   | (with_reducible exact ih3 _ _ _ _ _ _ _ _ _ _ _ _ _)
   | (with_reducible exact ih4 _ _ _ _ _ _ _ _ _ _ _ _ _ _ _ _ _)
   | (with_reducible exact impl_DecText.mono _ _ _ _)
   | (with_reducible exact impl_jsonText.mono _ _)
   | (with_reducible exact LeO.refl _)
   | (with_reducible exact LeO.none _)
   | (with_reducible refine LeO.ite ?_ ?_)
   | (with_reducible refine LeO.bind ?_ (fun _ => ?_))
   | exact ih0 _ _ _ _ _ _ _ _ _
   | exact ih1 _ _ _ _ _ _ _ _ _ _ _ _ _ _
   | exact ih2 _ _ _ _ _ _ _ _ _ _ _ _
   | exact ih3 _ _ _ _ _ _ _ _ _ _ _ _ _
   | exact ih4 _ _ _ _ _ _ _ _ _ _ _ _ _ _ _ _ _
theorem impl_layout.mono : ∀ a0 a1 a2 a3 a4 a5 a6 a7 a8 k, LeO (impl_layout.f k a0 a1 a2 a3 a4 a5 a6 a7 a8) (impl_layout.f (k + 1) a0 a1 a2 a3 a4 a5 a6 a7 a8) := by
 intro a0 a1 a2 a3 a4 a5 a6 a7 a8 k
 obtain ⟨ih0, ih1, ih2, ih3, ih4⟩ := impl_layout.mono_l k
 exact ih0 a0 a1 a2 a3 a4 a5 a6 a7 a8
def impl_layout.T28 : Bool × List (List Nat × List Nat) := (true, [([], []), ([0], [0]), ([], []), ([2], [2]), ([1, 3], [1, 3]), ([], []), ([4, 5], [4, 5]), ([], []), ([7], [7]), ([6, 8], [6, 8]), ([9, 3, 0, 1, 2, 3, 4, 5, 6, 7, 8, 9], [9])])
def impl_layout.B28 : List Nat := [0, 1, 0, 4, 15, 0, 63, 0, 128, 511, 1023]
theorem impl_layout.tab28 : rtab .any (opsOf Tryd.f17 28) = impl_layout.T28 := by kernel_rfl
theorem impl_layout.bits28 : waitsOk impl_layout.T28.2 impl_layout.B28 = true := by kernel_rfl
set_option maxHeartbeats 8000000 in
set_option maxRecDepth 100000 in
theorem impl_layout.calls (k : Nat) : ∀ (a0_0 : Int) (a0_1 : Int) (a0_2 : Int) (a0_3 : ByteArray) (A0_4 : Option Addr) (c0_4 : Nat) (l0_4 : List (S33)) (A0_5 : Option Addr) (c0_5 : Nat) (l0_5 : List ByteArray) (a1 : Bool) (a2 : ByteArray) (A3 : Option Addr) (c3 : Nat) (l3 : List Int) (r : ByteArray) (w : World) (hr0_4 : Kd.C k33 w A0_4 l0_4.length l0_4) (hc0_4 : l0_4.length ≤ c0_4) (hr0_5 : Kd.C Kd.string w A0_5 l0_5.length l0_5) (hc0_5 : l0_5.length ≤ c0_5) (hr3 : Kd.C kPow w A3 l3.length l3) (hc3 : l3.length ≤ c3) (hg3 : A3 = some ⟨2, 0, none⟩ ∧ l3 = [1]) (h : impl_layout.f k a0_0 a0_1 a0_2 a0_3 l0_4 l0_5 a1 a2 l3 = some r),
  Calls Tryd.prog 17 #[.agg #[.int .i64 a0_0, .int .i64 a0_1, .int .i64 a0_2, .string a0_3, .slice A0_4 l0_4.length c0_4, .slice A0_5 l0_5.length c0_5], .bool a1, .string a2] w fun e w' => e = .returned (.string r) ∧ Below w.heap.size w w' := by
 induction k using Nat.strongRecOn with
 | _ k ih =>
 intro a0_0 a0_1 a0_2 a0_3 A0_4 c0_4 l0_4 A0_5 c0_5 l0_5 a1 a2 A3 c3 l3 r w hr0_4 hc0_4 hr0_5 hc0_5 hr3 hc3 hg3 h
 cases k with
 | zero => exact absurd h (by simp [impl_layout.f])
 | succ k =>
 simp only [impl_layout.f] at h
 have hu33 := Tryd.underlying33
 have hu30 := Tryd.underlying30
 have HR0_4 := zA hr0_4
 have HC0_4 := zA hc0_4
 clear hr0_4 hc0_4
 have HR0_5 := zA hr0_5
 have HC0_5 := zA hc0_5
 clear hr0_5 hc0_5
 have HG3 := zA hg3
 clear hg3
 have HR3 := zA hr3
 have HC3 := zA hc3
 clear hr3 hc3
 have HB := zA (yJ w.heap.size w)
 have H : (if a0_0 = 0 then (some (⟨#[110, 117, 108, 108]⟩ : ByteArray)) else (if a0_0 = 1 then (some (⟨#[116, 114, 117, 101]⟩ : ByteArray)) else (if a0_0 = 2 then (some (⟨#[102, 97, 108, 115, 101]⟩ : ByteArray)) else (if a0_0 = 3 then ((impl_DecText.f k a0_1 a0_2 l3).bind fun t290 => (some t290)) else (if a0_0 = 4 then ((impl_jsonText.f k a0_3).bind fun t291 => (some t291)) else (if a1 = true then (impl_layout.j0 k a1 a2 (⟨#[]⟩ : ByteArray) (⟨#[]⟩ : ByteArray) (⟨#[]⟩ : ByteArray) (⟨#[]⟩ : ByteArray) (decide ((l0_4.length : Int) > 0)) l3 a0_0 a0_1 a0_2 a0_3 l0_4 l0_5) else (impl_layout.j0 k a1 a2 (⟨#[]⟩ : ByteArray) (⟨#[]⟩ : ByteArray) (⟨#[]⟩ : ByteArray) (⟨#[]⟩ : ByteArray) false l3 a0_0 a0_1 a0_2 a0_3 l0_4 l0_5))))))) = some r := h
 clear h
 by_cases c5 : a0_0 = 0
 ·rw [if_pos c5] at H
  have c5b0 : (a0_0 == 0) = true := beq_iff_eq.mpr c5
  have c5b1 : (a0_0 != 0) = false := bne_eq_false_iff_eq.mpr c5
  clear c5
  obtain rfl := yH H
  go_enter Tryd.func17, Tryd.ntmps17
  go_wp2_with (first | ((with_reducible refine zT (N := 3) rfl ?_); (try (refine gate_guard (by rfl) ?_; dsimp only)); refine zX ?hg (N := 3) ?hd (cs := #[.int .i64 a0_0, .int .i64 a0_1, .int .i64 a0_2, .string a0_3, .slice A0_4 l0_4.length c0_4, .slice A0_5 l0_5.length c0_5]) (t := 33) ?hr ?_; (case hd => rfl); (case hg => rfl); (case hr => first | (go_simp; done) | (go_simp; rfl)); intro gb289 hg w6 hbox hb; have n0_ := zA (zQ apA hb); have n1_ := zA (hbox); have n2_ := zA ((by rw [hg]; exact (zR apA) : w.heap.size ≤ gb289)); have n3_ := zA ((by rw [hg]; exact (zR apA) : w.heap.size ≤ gb289)); clear HB; have HB := n0_; have BK289 := n1_; have GW289 := n2_; have GE289 := n3_; clear n0_ n1_ n2_ n3_; clear hb hbox hg; have hcz7_0 : w6.cell? ⟨gb289, 0, none⟩ = some (.int .i64 a0_0) := (zJ BK289.out 0).trans rfl; have hcz7_1 : w6.cell? ⟨gb289, 1, none⟩ = some (.int .i64 a0_1) := (zJ BK289.out 1).trans rfl; have hcz7_2 : w6.cell? ⟨gb289, 2, none⟩ = some (.int .i64 a0_2) := (zJ BK289.out 2).trans rfl; have hcz7_3 : w6.cell? ⟨gb289, 3, none⟩ = some (.string a0_3) := (zJ BK289.out 3).trans rfl; have hcz7_4 : w6.cell? ⟨gb289, 4, none⟩ = some (.slice A0_4 l0_4.length c0_4) := (zJ BK289.out 4).trans rfl; have hcz7_5 : w6.cell? ⟨gb289, 5, none⟩ = some (.slice A0_5 l0_5.length c0_5) := (zJ BK289.out 5).trans rfl; have hfz7_0 := zK BK289.out 0; have hfz7_1 := zK BK289.out 1; have hfz7_2 := zK BK289.out 2; have hfz7_3 := zK BK289.out 3; have hfz7_4 := zK BK289.out 4; have hfz7_5 := zK BK289.out 5))
  go_ret
  exact ⟨apD, apL⟩
 ·rw [if_neg c5] at H
  have c5b0 : (a0_0 == 0) = false := beq_eq_false_iff_ne.mpr c5
  have c5b1 : (a0_0 != 0) = true := bne_iff_ne.mpr c5
  by_cases c8 : a0_0 = 1
  ·rw [if_pos c8] at H
   have c8b0 : (a0_0 == 1) = true := beq_iff_eq.mpr c8
   have c8b1 : (a0_0 != 1) = false := bne_eq_false_iff_eq.mpr c8
   clear c8
   obtain rfl := yH H
   go_enter Tryd.func17, Tryd.ntmps17
   go_wp2_with (first | ((with_reducible refine zT (N := 3) rfl ?_); (try (refine gate_guard (by rfl) ?_; dsimp only)); refine zX ?hg (N := 3) ?hd (cs := #[.int .i64 a0_0, .int .i64 a0_1, .int .i64 a0_2, .string a0_3, .slice A0_4 l0_4.length c0_4, .slice A0_5 l0_5.length c0_5]) (t := 33) ?hr ?_; (case hd => rfl); (case hg => rfl); (case hr => first | (go_simp; done) | (go_simp; rfl)); intro gb289 hg w9 hbox hb; have n0_ := zA (zQ apA hb); have n1_ := zA (hbox); have n2_ := zA ((by rw [hg]; exact (zR apA) : w.heap.size ≤ gb289)); have n3_ := zA ((by rw [hg]; exact (zR apA) : w.heap.size ≤ gb289)); clear HB; have HB := n0_; have BK289 := n1_; have GW289 := n2_; have GE289 := n3_; clear n0_ n1_ n2_ n3_; clear hb hbox hg; have hcz10_0 : w9.cell? ⟨gb289, 0, none⟩ = some (.int .i64 a0_0) := (zJ BK289.out 0).trans rfl; have hcz10_1 : w9.cell? ⟨gb289, 1, none⟩ = some (.int .i64 a0_1) := (zJ BK289.out 1).trans rfl; have hcz10_2 : w9.cell? ⟨gb289, 2, none⟩ = some (.int .i64 a0_2) := (zJ BK289.out 2).trans rfl; have hcz10_3 : w9.cell? ⟨gb289, 3, none⟩ = some (.string a0_3) := (zJ BK289.out 3).trans rfl; have hcz10_4 : w9.cell? ⟨gb289, 4, none⟩ = some (.slice A0_4 l0_4.length c0_4) := (zJ BK289.out 4).trans rfl; have hcz10_5 : w9.cell? ⟨gb289, 5, none⟩ = some (.slice A0_5 l0_5.length c0_5) := (zJ BK289.out 5).trans rfl; have hfz10_0 := zK BK289.out 0; have hfz10_1 := zK BK289.out 1; have hfz10_2 := zK BK289.out 2; have hfz10_3 := zK BK289.out 3; have hfz10_4 := zK BK289.out 4; have hfz10_5 := zK BK289.out 5))
   go_ret
   exact ⟨apD, apL⟩
  ·rw [if_neg c8] at H
   have c8b0 : (a0_0 == 1) = false := beq_eq_false_iff_ne.mpr c8
   have c8b1 : (a0_0 != 1) = true := bne_iff_ne.mpr c8
   by_cases c11 : a0_0 = 2
   ·rw [if_pos c11] at H
    have c11b0 : (a0_0 == 2) = true := beq_iff_eq.mpr c11
    have c11b1 : (a0_0 != 2) = false := bne_eq_false_iff_eq.mpr c11
    clear c11
    obtain rfl := yH H
    go_enter Tryd.func17, Tryd.ntmps17
    go_wp2_with (first | ((with_reducible refine zT (N := 3) rfl ?_); (try (refine gate_guard (by rfl) ?_; dsimp only)); refine zX ?hg (N := 3) ?hd (cs := #[.int .i64 a0_0, .int .i64 a0_1, .int .i64 a0_2, .string a0_3, .slice A0_4 l0_4.length c0_4, .slice A0_5 l0_5.length c0_5]) (t := 33) ?hr ?_; (case hd => rfl); (case hg => rfl); (case hr => first | (go_simp; done) | (go_simp; rfl)); intro gb289 hg w12 hbox hb; have n0_ := zA (zQ apA hb); have n1_ := zA (hbox); have n2_ := zA ((by rw [hg]; exact (zR apA) : w.heap.size ≤ gb289)); have n3_ := zA ((by rw [hg]; exact (zR apA) : w.heap.size ≤ gb289)); clear HB; have HB := n0_; have BK289 := n1_; have GW289 := n2_; have GE289 := n3_; clear n0_ n1_ n2_ n3_; clear hb hbox hg; have hcz13_0 : w12.cell? ⟨gb289, 0, none⟩ = some (.int .i64 a0_0) := (zJ BK289.out 0).trans rfl; have hcz13_1 : w12.cell? ⟨gb289, 1, none⟩ = some (.int .i64 a0_1) := (zJ BK289.out 1).trans rfl; have hcz13_2 : w12.cell? ⟨gb289, 2, none⟩ = some (.int .i64 a0_2) := (zJ BK289.out 2).trans rfl; have hcz13_3 : w12.cell? ⟨gb289, 3, none⟩ = some (.string a0_3) := (zJ BK289.out 3).trans rfl; have hcz13_4 : w12.cell? ⟨gb289, 4, none⟩ = some (.slice A0_4 l0_4.length c0_4) := (zJ BK289.out 4).trans rfl; have hcz13_5 : w12.cell? ⟨gb289, 5, none⟩ = some (.slice A0_5 l0_5.length c0_5) := (zJ BK289.out 5).trans rfl; have hfz13_0 := zK BK289.out 0; have hfz13_1 := zK BK289.out 1; have hfz13_2 := zK BK289.out 2; have hfz13_3 := zK BK289.out 3; have hfz13_4 := zK BK289.out 4; have hfz13_5 := zK BK289.out 5))
    go_ret
    exact ⟨apD, apL⟩
   ·rw [if_neg c11] at H
    have c11b0 : (a0_0 == 2) = false := beq_eq_false_iff_ne.mpr c11
    have c11b1 : (a0_0 != 2) = true := bne_iff_ne.mpr c11
    by_cases c14 : a0_0 = 3
    ·rw [if_pos c14] at H
     have c14b0 : (a0_0 == 3) = true := beq_iff_eq.mpr c14
     have c14b1 : (a0_0 != 3) = false := bne_eq_false_iff_eq.mpr c14
     clear c14
     replace H := Option.bind_eq_some_iff.mp H
     obtain ⟨t290, A150, H⟩ := H
     replace H : (some t290) = some r := H
     have A15 := zA A150
     clear A150
     obtain rfl := yH H
     go_enter Tryd.func17, Tryd.ntmps17
     go_wp2_with (first | ((with_reducible refine zT (N := 3) rfl ?_); (try (refine gate_guard (by rfl) ?_; dsimp only)); refine zX ?hg (N := 3) ?hd (cs := #[.int .i64 a0_0, .int .i64 a0_1, .int .i64 a0_2, .string a0_3, .slice A0_4 l0_4.length c0_4, .slice A0_5 l0_5.length c0_5]) (t := 33) ?hr ?_; (case hd => rfl); (case hg => rfl); (case hr => first | (go_simp; done) | (go_simp; rfl)); intro gb289 hg w16 hbox hb; have n0_ := zA (zQ apA hb); have n1_ := zA (hbox); have n2_ := zA ((by rw [hg]; exact (zR apA) : w.heap.size ≤ gb289)); have n3_ := zA ((by rw [hg]; exact (zR apA) : w.heap.size ≤ gb289)); clear HB; have HB := n0_; have BK289 := n1_; have GW289 := n2_; have GE289 := n3_; clear n0_ n1_ n2_ n3_; clear hb hbox hg; have hcz17_0 : w16.cell? ⟨gb289, 0, none⟩ = some (.int .i64 a0_0) := (zJ BK289.out 0).trans rfl; have hcz17_1 : w16.cell? ⟨gb289, 1, none⟩ = some (.int .i64 a0_1) := (zJ BK289.out 1).trans rfl; have hcz17_2 : w16.cell? ⟨gb289, 2, none⟩ = some (.int .i64 a0_2) := (zJ BK289.out 2).trans rfl; have hcz17_3 : w16.cell? ⟨gb289, 3, none⟩ = some (.string a0_3) := (zJ BK289.out 3).trans rfl; have hcz17_4 : w16.cell? ⟨gb289, 4, none⟩ = some (.slice A0_4 l0_4.length c0_4) := (zJ BK289.out 4).trans rfl; have hcz17_5 : w16.cell? ⟨gb289, 5, none⟩ = some (.slice A0_5 l0_5.length c0_5) := (zJ BK289.out 5).trans rfl; have hfz17_0 := zK BK289.out 0; have hfz17_1 := zK BK289.out 1; have hfz17_2 := zK BK289.out 2; have hfz17_3 := zK BK289.out 3; have hfz17_4 := zK BK289.out 4; have hfz17_5 := zK BK289.out 5) | ((with_reducible refine zV (f := 28) rfl ?_); refine goesL_ (some 28) rfl rfl Tryd.func28 (by kernel_rfl) rfl #[.agg #[.int .i64 a0_1, .int .i64 a0_2]] rfl apE ?_; (with_reducible refine (impl_DecText.calls k a0_1 a0_2 A3 c3 l3 t290 _ ?side1 ?side2 ?side3 A15.out).mono ?_); (case side1 => repeat (first | exact (Kd.C_below HR3.out HB.out) | (with_reducible refine Kd.C_alloc ?_ _) | (with_reducible refine Kd.C_drewN ?_ _) | (with_reducible refine Kd.C_drew ?_))); (case side2 => exact HC3.out); (case side3 => exact HG3.out); rintro e w18 ⟨rfl, hb⟩; refine ⟨_, rfl, ?_⟩; have n0_ := zA (zQ apA hb); clear HB; have HB := n0_; clear n0_; (try clear hb); (try clear hb2); (try clear hk); (try clear hi)))
     go_ret
     exact ⟨apD, apA⟩
    ·rw [if_neg c14] at H
     have c14b0 : (a0_0 == 3) = false := beq_eq_false_iff_ne.mpr c14
     have c14b1 : (a0_0 != 3) = true := bne_iff_ne.mpr c14
     by_cases c19 : a0_0 = 4
     ·rw [if_pos c19] at H
      have c19b0 : (a0_0 == 4) = true := beq_iff_eq.mpr c19
      have c19b1 : (a0_0 != 4) = false := bne_eq_false_iff_eq.mpr c19
      clear c19
      replace H := Option.bind_eq_some_iff.mp H
      obtain ⟨t291, A200, H⟩ := H
      replace H : (some t291) = some r := H
      have A20 := zA A200
      clear A200
      obtain rfl := yH H
      go_enter Tryd.func17, Tryd.ntmps17
      go_wp2_with (first | ((with_reducible refine zT (N := 3) rfl ?_); (try (refine gate_guard (by rfl) ?_; dsimp only)); refine zX ?hg (N := 3) ?hd (cs := #[.int .i64 a0_0, .int .i64 a0_1, .int .i64 a0_2, .string a0_3, .slice A0_4 l0_4.length c0_4, .slice A0_5 l0_5.length c0_5]) (t := 33) ?hr ?_; (case hd => rfl); (case hg => rfl); (case hr => first | (go_simp; done) | (go_simp; rfl)); intro gb289 hg w21 hbox hb; have n0_ := zA (zQ apA hb); have n1_ := zA (hbox); have n2_ := zA ((by rw [hg]; exact (zR apA) : w.heap.size ≤ gb289)); have n3_ := zA ((by rw [hg]; exact (zR apA) : w.heap.size ≤ gb289)); clear HB; have HB := n0_; have BK289 := n1_; have GW289 := n2_; have GE289 := n3_; clear n0_ n1_ n2_ n3_; clear hb hbox hg; have hcz22_0 : w21.cell? ⟨gb289, 0, none⟩ = some (.int .i64 a0_0) := (zJ BK289.out 0).trans rfl; have hcz22_1 : w21.cell? ⟨gb289, 1, none⟩ = some (.int .i64 a0_1) := (zJ BK289.out 1).trans rfl; have hcz22_2 : w21.cell? ⟨gb289, 2, none⟩ = some (.int .i64 a0_2) := (zJ BK289.out 2).trans rfl; have hcz22_3 : w21.cell? ⟨gb289, 3, none⟩ = some (.string a0_3) := (zJ BK289.out 3).trans rfl; have hcz22_4 : w21.cell? ⟨gb289, 4, none⟩ = some (.slice A0_4 l0_4.length c0_4) := (zJ BK289.out 4).trans rfl; have hcz22_5 : w21.cell? ⟨gb289, 5, none⟩ = some (.slice A0_5 l0_5.length c0_5) := (zJ BK289.out 5).trans rfl; have hfz22_0 := zK BK289.out 0; have hfz22_1 := zK BK289.out 1; have hfz22_2 := zK BK289.out 2; have hfz22_3 := zK BK289.out 3; have hfz22_4 := zK BK289.out 4; have hfz22_5 := zK BK289.out 5) | ((with_reducible refine zV (f := 29) rfl ?_); refine goesL_ (some 33) rfl rfl Tryd.func29 (by kernel_rfl) rfl #[.string a0_3] rfl apE ?_; (with_reducible refine (impl_jsonText.calls k a0_3 t291 _ A20.out).mono ?_); rintro e w23 ⟨rfl, hb⟩; refine ⟨_, rfl, ?_⟩; have n0_ := zA (zQ apA hb); clear HB; have HB := n0_; clear n0_; (try clear hb); (try clear hb2); (try clear hk); (try clear hi)))
      go_ret
      exact ⟨apD, apA⟩
     ·rw [if_neg c19] at H
      have c19b0 : (a0_0 == 4) = false := beq_eq_false_iff_ne.mpr c19
      have c19b1 : (a0_0 != 4) = true := bne_iff_ne.mpr c19
      have HC24 := zA H
      clear H
      go_enter Tryd.func17, Tryd.ntmps17
      go_upto_region 13 with (first | ((with_reducible refine zT (N := 3) rfl ?_); (try (refine gate_guard (by rfl) ?_; dsimp only)); refine zX ?hg (N := 3) ?hd (cs := #[.int .i64 a0_0, .int .i64 a0_1, .int .i64 a0_2, .string a0_3, .slice A0_4 l0_4.length c0_4, .slice A0_5 l0_5.length c0_5]) (t := 33) ?hr ?_; (case hd => rfl); (case hg => rfl); (case hr => first | (go_simp; done) | (go_simp; rfl)); intro gb289 hg w25 hbox hb; have n0_ := zA (zQ apA hb); have n1_ := zA (hbox); have n2_ := zA ((by rw [hg]; exact (zR apA) : w.heap.size ≤ gb289)); have n3_ := zA ((by rw [hg]; exact (zR apA) : w.heap.size ≤ gb289)); clear HB; have HB := n0_; have BK289 := n1_; have GW289 := n2_; have GE289 := n3_; clear n0_ n1_ n2_ n3_; clear hb hbox hg; have hcz26_0 : w25.cell? ⟨gb289, 0, none⟩ = some (.int .i64 a0_0) := (zJ BK289.out 0).trans rfl; have hcz26_1 : w25.cell? ⟨gb289, 1, none⟩ = some (.int .i64 a0_1) := (zJ BK289.out 1).trans rfl; have hcz26_2 : w25.cell? ⟨gb289, 2, none⟩ = some (.int .i64 a0_2) := (zJ BK289.out 2).trans rfl; have hcz26_3 : w25.cell? ⟨gb289, 3, none⟩ = some (.string a0_3) := (zJ BK289.out 3).trans rfl; have hcz26_4 : w25.cell? ⟨gb289, 4, none⟩ = some (.slice A0_4 l0_4.length c0_4) := (zJ BK289.out 4).trans rfl; have hcz26_5 : w25.cell? ⟨gb289, 5, none⟩ = some (.slice A0_5 l0_5.length c0_5) := (zJ BK289.out 5).trans rfl; have hfz26_0 := zK BK289.out 0; have hfz26_1 := zK BK289.out 1; have hfz26_2 := zK BK289.out 2; have hfz26_3 := zK BK289.out 3; have hfz26_4 := zK BK289.out 4; have hfz26_5 := zK BK289.out 5))
      (try simp only [Act.put, zL, zM, zN])
      go_cut [40] (fun v40 wc => ∃ (kq : Nat) (x40_23 : Bool), v40 = .bool x40_23 ∧ Aside0 (impl_layout.j0 kq a1 a2 (⟨#[]⟩ : ByteArray) (⟨#[]⟩ : ByteArray) (⟨#[]⟩ : ByteArray) (⟨#[]⟩ : ByteArray) x40_23 l3 a0_0 a0_1 a0_2 a0_3 l0_4 l0_5 = some r) ∧ Aside0 (kq ≤ k) ∧ Aside0 (wc.heap[gb289]? = some (.cells #[.int .i64 a0_0, .int .i64 a0_1, .int .i64 a0_2, .string a0_3, (.slice A0_4 l0_4.length c0_4), (.slice A0_5 l0_5.length c0_5)] 33 (0, 0))) ∧ Aside0 (Below w.heap.size w wc))
      case first =>
       have H := HC24.out
       clear HC24
       by_cases c27 : a1 = true
       ·subst c27
        have H1 : (impl_layout.j0 k true a2 (⟨#[]⟩ : ByteArray) (⟨#[]⟩ : ByteArray) (⟨#[]⟩ : ByteArray) (⟨#[]⟩ : ByteArray) (decide ((l0_4.length : Int) > 0)) l3 a0_0 a0_1 a0_2 a0_3 l0_4 l0_5) = some r := by rw [if_pos rfl] at H; exact H
        clear H
        have H := H1
        clear H1
        have H' := zA H
        clear H
        have hcz28_0 : w25.cell? ⟨gb289, 0, none⟩ = some (.int .i64 a0_0) := (zJ BK289.out 0).trans rfl
        have hcz28_1 : w25.cell? ⟨gb289, 1, none⟩ = some (.int .i64 a0_1) := (zJ BK289.out 1).trans rfl
        have hcz28_2 : w25.cell? ⟨gb289, 2, none⟩ = some (.int .i64 a0_2) := (zJ BK289.out 2).trans rfl
        have hcz28_3 : w25.cell? ⟨gb289, 3, none⟩ = some (.string a0_3) := (zJ BK289.out 3).trans rfl
        have hcz28_4 : w25.cell? ⟨gb289, 4, none⟩ = some (.slice A0_4 l0_4.length c0_4) := (zJ BK289.out 4).trans rfl
        have hcz28_5 : w25.cell? ⟨gb289, 5, none⟩ = some (.slice A0_5 l0_5.length c0_5) := (zJ BK289.out 5).trans rfl
        have hfz28_0 := zK BK289.out 0
        have hfz28_1 := zK BK289.out 1
        have hfz28_2 := zK BK289.out 2
        have hfz28_3 := zK BK289.out 3
        have hfz28_4 := zK BK289.out 4
        have hfz28_5 := zK BK289.out 5
        go_wp2
        go_meet
        case rel => exact ⟨_, (decide ((l0_4.length : Int) > 0)), apB, H', ⟨by first | omega | exact yK _⟩, ⟨apM⟩, ⟨apL⟩⟩
       ·replace c27 := Bool.eq_false_iff.mpr c27
        subst c27
        have H1 : (impl_layout.j0 k false a2 (⟨#[]⟩ : ByteArray) (⟨#[]⟩ : ByteArray) (⟨#[]⟩ : ByteArray) (⟨#[]⟩ : ByteArray) false l3 a0_0 a0_1 a0_2 a0_3 l0_4 l0_5) = some r := by rw [if_neg (show ¬ (false = true) by decide)] at H; exact H
        clear H
        have H := H1
        clear H1
        have H' := zA H
        clear H
        go_wp2
        go_meet
        case rel => exact ⟨_, (false), apB, H', ⟨by first | omega | exact yK _⟩, ⟨apM⟩, ⟨apL⟩⟩
      case rest =>
       clear HC24
       try clear c1
       try clear c2
       try clear p2
       try clear c3
       try clear c5
       try clear c5b0
       try clear c5b1
       try clear c8
       try clear c8b0
       try clear c8b1
       try clear c11
       try clear c11b0
       try clear c11b1
       try clear c14
       try clear c14b0
       try clear c14b1
       try clear c17
       try clear c19
       try clear c19b0
       try clear c19b1
       try clear c27
       try clear c28
       try clear hcz10_0
       try clear hcz10_1
       try clear hcz10_2
       try clear hcz10_3
       try clear hcz10_4
       try clear hcz10_5
       try clear hcz13_0
       try clear hcz13_1
       try clear hcz13_2
       try clear hcz13_3
       try clear hcz13_4
       try clear hcz13_5
       try clear hcz17_0
       try clear hcz17_1
       try clear hcz17_2
       try clear hcz17_3
       try clear hcz17_4
       try clear hcz17_5
       try clear hcz22_0
       try clear hcz22_1
       try clear hcz22_2
       try clear hcz22_3
       try clear hcz22_4
       try clear hcz22_5
       try clear hcz26_0
       try clear hcz26_1
       try clear hcz26_2
       try clear hcz26_3
       try clear hcz26_4
       try clear hcz26_5
       try clear hcz28_0
       try clear hcz28_1
       try clear hcz28_2
       try clear hcz28_3
       try clear hcz28_4
       try clear hcz28_5
       try clear hcz7_0
       try clear hcz7_1
       try clear hcz7_2
       try clear hcz7_3
       try clear hcz7_4
       try clear hcz7_5
       try clear hfz10_0
       try clear hfz10_1
       try clear hfz10_2
       try clear hfz10_3
       try clear hfz10_4
       try clear hfz10_5
       try clear hfz13_0
       try clear hfz13_1
       try clear hfz13_2
       try clear hfz13_3
       try clear hfz13_4
       try clear hfz13_5
       try clear hfz17_0
       try clear hfz17_1
       try clear hfz17_2
       try clear hfz17_3
       try clear hfz17_4
       try clear hfz17_5
       try clear hfz22_0
       try clear hfz22_1
       try clear hfz22_2
       try clear hfz22_3
       try clear hfz22_4
       try clear hfz22_5
       try clear hfz26_0
       try clear hfz26_1
       try clear hfz26_2
       try clear hfz26_3
       try clear hfz26_4
       try clear hfz26_5
       try clear hfz28_0
       try clear hfz28_1
       try clear hfz28_2
       try clear hfz28_3
       try clear hfz28_4
       try clear hfz28_5
       try clear hfz7_0
       try clear hfz7_1
       try clear hfz7_2
       try clear hfz7_3
       try clear hfz7_4
       try clear hfz7_5
       obtain ⟨kq, x40_23, rfl, HA, HJ23, BK289, HB⟩ := hcut
       cases kq with
       | zero => exact absurd HA.out (by simp [impl_layout.j0])
       | succ kj23 =>
        have H := HA.out
        clear HA
        simp only [impl_layout.j0] at H
        have HC29 := zA H
        clear H
        go_upto_if 40 with (fail)
        go_cut [7, 8, 9, 10] (fun v7 v8 v9 v10 wc => ∃ (kq : Nat) (x7_28 : ByteArray) (x8_28 : ByteArray) (x9_28 : ByteArray) (x10_28 : ByteArray), v7 = .string x7_28 ∧ v8 = .string x8_28 ∧ v9 = .string x9_28 ∧ v10 = .string x10_28 ∧ Aside0 (impl_layout.j1 kq a1 x7_28 x8_28 x9_28 x10_28 l3 a0_0 a0_1 a0_2 a0_3 l0_4 l0_5 = some r) ∧ Aside0 (kq ≤ kj23) ∧ Aside0 (wc.heap[gb289]? = some (.cells #[.int .i64 a0_0, .int .i64 a0_1, .int .i64 a0_2, .string a0_3, (.slice A0_4 l0_4.length c0_4), (.slice A0_5 l0_5.length c0_5)] 33 (0, 0))) ∧ Aside0 (Below w.heap.size w wc))
        case first =>
         have H := HC29.out
         clear HC29
         by_cases c30 : x40_23 = true
         ·subst c30
          have H1 : (if a2.size + 2 ≤ 9223372036854775807 then (if 1 + (a2 ++ (⟨#[32, 32]⟩ : ByteArray)).size ≤ 9223372036854775807 then (if 1 + a2.size ≤ 9223372036854775807 then (impl_layout.j1 kj23 a1 (a2 ++ (⟨#[32, 32]⟩ : ByteArray)) ((⟨#[10]⟩ : ByteArray) ++ (a2 ++ (⟨#[32, 32]⟩ : ByteArray))) (⟨#[32]⟩ : ByteArray) ((⟨#[10]⟩ : ByteArray) ++ a2) l3 a0_0 a0_1 a0_2 a0_3 l0_4 l0_5) else (none)) else (none)) else (none)) = some r := by rw [if_pos rfl] at H; exact H
          clear H
          have H := H1
          clear H1
          by_cases c31 : a2.size + 2 ≤ 9223372036854775807
          ·rw [if_pos c31] at H
           have c31b0 := eq_true c31
           have c31b1 : decide (a2.size + 2 ≤ 9223372036854775807) = true := yF c31
           try have c31b2 : (9223372036854775807 < a2.size + 2) = False := eq_false (Nat.not_lt.2 c31)
           by_cases c32 : 1 + (a2 ++ (⟨#[32, 32]⟩ : ByteArray)).size ≤ 9223372036854775807
           ·rw [if_pos c32] at H
            (try (have c32b9 := eq_true c32; simp only [ByteArray.size_append, Int.natCast_add, show ((⟨#[32, 32]⟩ : ByteArray)).size = 2 from rfl] at c32b9))
            (try (have c32b8 := eq_false (Nat.not_lt.2 c32); simp only [ByteArray.size_append, show ((⟨#[32, 32]⟩ : ByteArray)).size = 2 from rfl] at c32b8))
            have c32b0 := eq_true c32
            have c32b1 : decide (1 + (a2 ++ (⟨#[32, 32]⟩ : ByteArray)).size ≤ 9223372036854775807) = true := yF c32
            try have c32b2 : (9223372036854775807 < 1 + (a2 ++ (⟨#[32, 32]⟩ : ByteArray)).size) = False := eq_false (Nat.not_lt.2 c32)
            try simp only [ByteArray.size_append] at c32b2
            by_cases c33 : 1 + a2.size ≤ 9223372036854775807
            ·rw [if_pos c33] at H
             have c33b0 := eq_true c33
             have c33b1 : decide (1 + a2.size ≤ 9223372036854775807) = true := yF c33
             try have c33b2 : (9223372036854775807 < 1 + a2.size) = False := eq_false (Nat.not_lt.2 c33)
             have H' := zA H
             clear H
             go_wp2
             go_meet
             case rel => exact ⟨_, (a2 ++ (⟨#[32, 32]⟩ : ByteArray)), ((⟨#[10]⟩ : ByteArray) ++ (a2 ++ (⟨#[32, 32]⟩ : ByteArray))), ((⟨#[32]⟩ : ByteArray)), ((⟨#[10]⟩ : ByteArray) ++ a2), apB, apB, apB, apB, H', ⟨by have := HJ23.out; first | omega | exact yK _⟩, ⟨apM⟩, ⟨apL⟩⟩
            ·rw [if_neg c33] at H
             exact absurd H (by simp)
           ·rw [if_neg c32] at H
            exact absurd H (by simp)
          ·rw [if_neg c31] at H
           exact absurd H (by simp)
         ·replace c30 := Bool.eq_false_iff.mpr c30
          subst c30
          have H1 : (impl_layout.j1 kj23 a1 (⟨#[]⟩ : ByteArray) (⟨#[]⟩ : ByteArray) (⟨#[]⟩ : ByteArray) (⟨#[]⟩ : ByteArray) l3 a0_0 a0_1 a0_2 a0_3 l0_4 l0_5) = some r := by rw [if_neg (show ¬ (false = true) by decide)] at H; exact H
          clear H
          have H := H1
          clear H1
          have H' := zA H
          clear H
          go_wp2
          go_meet
          case rel => exact ⟨_, ((⟨#[]⟩ : ByteArray)), ((⟨#[]⟩ : ByteArray)), ((⟨#[]⟩ : ByteArray)), ((⟨#[]⟩ : ByteArray)), apB, apB, apB, apB, H', ⟨by have := HJ23.out; first | omega | exact yK _⟩, ⟨apM⟩, ⟨apL⟩⟩
        case rest =>
         clear HC29
         try clear c1
         try clear c2
         try clear p2
         try clear c3
         try clear c5
         try clear c5b0
         try clear c5b1
         try clear c8
         try clear c8b0
         try clear c8b1
         try clear c11
         try clear c11b0
         try clear c11b1
         try clear c14
         try clear c14b0
         try clear c14b1
         try clear c17
         try clear c19
         try clear c19b0
         try clear c19b1
         try clear c27
         try clear c28
         try clear c29
         try clear c30
         try clear c31
         try clear c31b0
         try clear c31b1
         try clear c31b2
         try clear c32
         try clear c32b0
         try clear c32b1
         try clear c32b2
         try clear c33
         try clear c33b0
         try clear c33b1
         try clear c33b2
         try clear hcz10_0
         try clear hcz10_1
         try clear hcz10_2
         try clear hcz10_3
         try clear hcz10_4
         try clear hcz10_5
         try clear hcz13_0
         try clear hcz13_1
         try clear hcz13_2
         try clear hcz13_3
         try clear hcz13_4
         try clear hcz13_5
         try clear hcz17_0
         try clear hcz17_1
         try clear hcz17_2
         try clear hcz17_3
         try clear hcz17_4
         try clear hcz17_5
         try clear hcz22_0
         try clear hcz22_1
         try clear hcz22_2
         try clear hcz22_3
         try clear hcz22_4
         try clear hcz22_5
         try clear hcz26_0
         try clear hcz26_1
         try clear hcz26_2
         try clear hcz26_3
         try clear hcz26_4
         try clear hcz26_5
         try clear hcz28_0
         try clear hcz28_1
         try clear hcz28_2
         try clear hcz28_3
         try clear hcz28_4
         try clear hcz28_5
         try clear hcz7_0
         try clear hcz7_1
         try clear hcz7_2
         try clear hcz7_3
         try clear hcz7_4
         try clear hcz7_5
         try clear hfz10_0
         try clear hfz10_1
         try clear hfz10_2
         try clear hfz10_3
         try clear hfz10_4
         try clear hfz10_5
         try clear hfz13_0
         try clear hfz13_1
         try clear hfz13_2
         try clear hfz13_3
         try clear hfz13_4
         try clear hfz13_5
         try clear hfz17_0
         try clear hfz17_1
         try clear hfz17_2
         try clear hfz17_3
         try clear hfz17_4
         try clear hfz17_5
         try clear hfz22_0
         try clear hfz22_1
         try clear hfz22_2
         try clear hfz22_3
         try clear hfz22_4
         try clear hfz22_5
         try clear hfz26_0
         try clear hfz26_1
         try clear hfz26_2
         try clear hfz26_3
         try clear hfz26_4
         try clear hfz26_5
         try clear hfz28_0
         try clear hfz28_1
         try clear hfz28_2
         try clear hfz28_3
         try clear hfz28_4
         try clear hfz28_5
         try clear hfz7_0
         try clear hfz7_1
         try clear hfz7_2
         try clear hfz7_3
         try clear hfz7_4
         try clear hfz7_5
         try clear p2
         obtain ⟨kq, x7_28, x8_28, x9_28, x10_28, rfl, rfl, rfl, rfl, HA, HJ28, BK289, HB⟩ := hcut
         cases kq with
         | zero => exact absurd HA.out (by simp [impl_layout.j1])
         | succ kj28 =>
          have H := HA.out
          clear HA
          simp only [impl_layout.j1] at H
          have HC34 := zA H
          clear H
          have hcz35_0 : wc.cell? ⟨gb289, 0, none⟩ = some (.int .i64 a0_0) := (zJ BK289.out 0).trans rfl
          have hcz35_1 : wc.cell? ⟨gb289, 1, none⟩ = some (.int .i64 a0_1) := (zJ BK289.out 1).trans rfl
          have hcz35_2 : wc.cell? ⟨gb289, 2, none⟩ = some (.int .i64 a0_2) := (zJ BK289.out 2).trans rfl
          have hcz35_3 : wc.cell? ⟨gb289, 3, none⟩ = some (.string a0_3) := (zJ BK289.out 3).trans rfl
          have hcz35_4 : wc.cell? ⟨gb289, 4, none⟩ = some (.slice A0_4 l0_4.length c0_4) := (zJ BK289.out 4).trans rfl
          have hcz35_5 : wc.cell? ⟨gb289, 5, none⟩ = some (.slice A0_5 l0_5.length c0_5) := (zJ BK289.out 5).trans rfl
          have hfz35_0 := zK BK289.out 0
          have hfz35_1 := zK BK289.out 1
          have hfz35_2 := zK BK289.out 2
          have hfz35_3 := zK BK289.out 3
          have hfz35_4 := zK BK289.out 4
          have hfz35_5 := zK BK289.out 5
          go_upto_if 49 with (fail)
          go_cut [11] (fun v11 wc => ∃ (kq : Nat) (x11_33 : ByteArray), v11 = .string x11_33 ∧ Aside0 (impl_layout.j2 kq a1 x7_28 x8_28 x9_28 x10_28 x11_33 l3 a0_0 a0_1 a0_2 a0_3 l0_4 l0_5 = some r) ∧ Aside0 (kq ≤ kj28) ∧ Aside0 (wc.heap[gb289]? = some (.cells #[.int .i64 a0_0, .int .i64 a0_1, .int .i64 a0_2, .string a0_3, (.slice A0_4 l0_4.length c0_4), (.slice A0_5 l0_5.length c0_5)] 33 (0, 0))) ∧ Aside0 (Below w.heap.size w wc))
          case first =>
           have H := HC34.out
           clear HC34
           by_cases c36 : a0_0 = 6
           ·rw [if_pos c36] at H
            have c36b0 : (a0_0 == 6) = true := beq_iff_eq.mpr c36
            have c36b1 : (a0_0 != 6) = false := bne_eq_false_iff_eq.mpr c36
            clear c36
            (first | rw [c36b0] | (simp only [i64_w, i32_w]; rw [c36b0]) | skip)
            have H' := zA H
            clear H
            go_wp2
            go_meet
            case rel => exact ⟨_, ((⟨#[123, 125]⟩ : ByteArray)), apB, H', ⟨by have := HJ23.out; have := HJ28.out; first | omega | exact yK _⟩, ⟨apM⟩, ⟨apL⟩⟩
           ·rw [if_neg c36] at H
            have c36b0 : (a0_0 == 6) = false := beq_eq_false_iff_ne.mpr c36
            have c36b1 : (a0_0 != 6) = true := bne_iff_ne.mpr c36
            (first | rw [c36b0] | (simp only [i64_w, i32_w]; rw [c36b0]) | skip)
            have H' := zA H
            clear H
            go_wp2
            go_meet
            case rel => exact ⟨_, ((⟨#[91, 93]⟩ : ByteArray)), apB, H', ⟨by have := HJ23.out; have := HJ28.out; first | omega | exact yK _⟩, ⟨apM⟩, ⟨apL⟩⟩
          case rest =>
           clear HC34
           try clear c1
           try clear c2
           try clear p2
           try clear c3
           try clear c5
           try clear c5b0
           try clear c5b1
           try clear c8
           try clear c8b0
           try clear c8b1
           try clear c11
           try clear c11b0
           try clear c11b1
           try clear c14
           try clear c14b0
           try clear c14b1
           try clear c17
           try clear c19
           try clear c19b0
           try clear c19b1
           try clear c27
           try clear c28
           try clear c29
           try clear c30
           try clear c31
           try clear c31b0
           try clear c31b1
           try clear c31b2
           try clear c32
           try clear c32b0
           try clear c32b1
           try clear c32b2
           try clear c33
           try clear c33b0
           try clear c33b1
           try clear c33b2
           try clear c36
           try clear c36b0
           try clear c36b1
           try clear hcz10_0
           try clear hcz10_1
           try clear hcz10_2
           try clear hcz10_3
           try clear hcz10_4
           try clear hcz10_5
           try clear hcz13_0
           try clear hcz13_1
           try clear hcz13_2
           try clear hcz13_3
           try clear hcz13_4
           try clear hcz13_5
           try clear hcz17_0
           try clear hcz17_1
           try clear hcz17_2
           try clear hcz17_3
           try clear hcz17_4
           try clear hcz17_5
           try clear hcz22_0
           try clear hcz22_1
           try clear hcz22_2
           try clear hcz22_3
           try clear hcz22_4
           try clear hcz22_5
           try clear hcz26_0
           try clear hcz26_1
           try clear hcz26_2
           try clear hcz26_3
           try clear hcz26_4
           try clear hcz26_5
           try clear hcz28_0
           try clear hcz28_1
           try clear hcz28_2
           try clear hcz28_3
           try clear hcz28_4
           try clear hcz28_5
           try clear hcz35_0
           try clear hcz35_1
           try clear hcz35_2
           try clear hcz35_3
           try clear hcz35_4
           try clear hcz35_5
           try clear hcz7_0
           try clear hcz7_1
           try clear hcz7_2
           try clear hcz7_3
           try clear hcz7_4
           try clear hcz7_5
           try clear hfz10_0
           try clear hfz10_1
           try clear hfz10_2
           try clear hfz10_3
           try clear hfz10_4
           try clear hfz10_5
           try clear hfz13_0
           try clear hfz13_1
           try clear hfz13_2
           try clear hfz13_3
           try clear hfz13_4
           try clear hfz13_5
           try clear hfz17_0
           try clear hfz17_1
           try clear hfz17_2
           try clear hfz17_3
           try clear hfz17_4
           try clear hfz17_5
           try clear hfz22_0
           try clear hfz22_1
           try clear hfz22_2
           try clear hfz22_3
           try clear hfz22_4
           try clear hfz22_5
           try clear hfz26_0
           try clear hfz26_1
           try clear hfz26_2
           try clear hfz26_3
           try clear hfz26_4
           try clear hfz26_5
           try clear hfz28_0
           try clear hfz28_1
           try clear hfz28_2
           try clear hfz28_3
           try clear hfz28_4
           try clear hfz28_5
           try clear hfz35_0
           try clear hfz35_1
           try clear hfz35_2
           try clear hfz35_3
           try clear hfz35_4
           try clear hfz35_5
           try clear hfz7_0
           try clear hfz7_1
           try clear hfz7_2
           try clear hfz7_3
           try clear hfz7_4
           try clear hfz7_5
           try clear p2
           obtain ⟨kq, x11_33, rfl, HA, HJ33, BK289, HB⟩ := hcut
           cases kq with
           | zero => exact absurd HA.out (by simp [impl_layout.j2])
           | succ kj33 =>
            have H := HA.out
            clear HA
            simp only [impl_layout.j2] at H
            obtain ⟨y292, hy292⟩ : ∃ y_ : List ByteArray, y_ = (([] : List ByteArray)) := ⟨_, rfl⟩
            replace H : (impl_layout.l0 kj33 a1 x7_28 x8_28 x9_28 x10_28 x11_33 y292 l0_4 (l0_4.length : Int) 0 l3 a0_0 a0_1 a0_2 a0_3 l0_4 l0_5) = some r := by first | (rw [hy292]; with_reducible exact H) | (have H2_ := (Option.bind_some _ _).symm.trans H; rw [hy292]; with_reducible exact H2_) | (have H2_ := (Option.bind_some _ _).symm.trans H; with_reducible exact H2_) | with_reducible exact H | (rw [hy292]; exact H) | exact H
            have Ny292 := zA hy292
            clear hy292
            have H' := zA H
            clear H
            go_wp2_with (first | ((with_reducible refine zT (N := 50) rfl ?_); (try (refine gate_guard (by rfl) ?_; dsimp only)); refine Kd.R_lit Kd.string _ 9 ?hg (N := 50) ?hd (xs := ([] : List ByteArray)) (inner := []) (ok := fun _ => True) (okp := fun _ => True) ?hr ?hp (fun _ hk => hk) trivial (yJ _ _) (yK _) (by simp) ?_; (case hd => rfl); (case hg => rfl); (case hr => first | (go_simp; done) | (go_simp; rfl)); (case hp => exact (Reps.none _ _)); intro v293 w37 ho38 hb hg_ hnew_; clear hg_ hnew_; (first | rw [← Ny292.out] at ho38 | (simp only [Int.reduceToNat] at ho38; rw [← Ny292.out] at ho38)); have n0_ := zA (Kd.R_lower ho38 (zR apL)); have n1_ := zA (zP (g := gb289) (o := .cells #[.int .i64 a0_0, .int .i64 a0_1, .int .i64 a0_2, .string a0_3, .slice A0_4 l0_4.length c0_4, .slice A0_5 l0_5.length c0_5] 33 (0, 0)) apM hb); have n2_ := zA (zQ apL hb); clear BK289; clear HB; have HO294 := n0_; have BK289 := n1_; have HB := n2_; clear n0_ n1_ n2_; clear hb ho38; have hcz39_0 : w37.cell? ⟨gb289, 0, none⟩ = some (.int .i64 a0_0) := (zJ BK289.out 0).trans rfl; have hcz39_1 : w37.cell? ⟨gb289, 1, none⟩ = some (.int .i64 a0_1) := (zJ BK289.out 1).trans rfl; have hcz39_2 : w37.cell? ⟨gb289, 2, none⟩ = some (.int .i64 a0_2) := (zJ BK289.out 2).trans rfl; have hcz39_3 : w37.cell? ⟨gb289, 3, none⟩ = some (.string a0_3) := (zJ BK289.out 3).trans rfl; have hcz39_4 : w37.cell? ⟨gb289, 4, none⟩ = some (.slice A0_4 l0_4.length c0_4) := (zJ BK289.out 4).trans rfl; have hcz39_5 : w37.cell? ⟨gb289, 5, none⟩ = some (.slice A0_5 l0_5.length c0_5) := (zJ BK289.out 5).trans rfl; have hfz39_0 := zK BK289.out 0; have hfz39_1 := zK BK289.out 1; have hfz39_2 := zK BK289.out 2; have hfz39_3 := zK BK289.out 3; have hfz39_4 := zK BK289.out 4; have hfz39_5 := zK BK289.out 5))
            go_loopg [12, 54] kj33 (fun kq v12 v54 w' => ∃ (x12_4 : List ByteArray) (x54_4 : Int), v54 = .int .i64 x54_4 ∧ Aside0 (impl_layout.l0 kq a1 x7_28 x8_28 x9_28 x10_28 x11_33 x12_4 l0_4 (l0_4.length : Int) x54_4 l3 a0_0 a0_1 a0_2 a0_3 l0_4 l0_5 = some r) ∧ Aside0 (kq ≤ kj33) ∧ Aside0 (Kd.R Kd.string 9 w' w.heap.size (fun _ => True) v12 x12_4) ∧ Aside0 (w'.heap[gb289]? = some (.cells #[.int .i64 a0_0, .int .i64 a0_1, .int .i64 a0_2, .string a0_3, (.slice A0_4 l0_4.length c0_4), (.slice A0_5 l0_5.length c0_5)] 33 (0, 0))) ∧ Aside0 (Below w.heap.size w w'))
            case atStart => exact ⟨(y292), (0), apB, H', ⟨yK _⟩, ⟨by (with_reducible repeat (first | apply Kd.R_alloc | apply Kd.R_drewN | apply Kd.R_drew)); exact HO294.out⟩, ⟨apM⟩, ⟨apL⟩⟩
            case round =>
             clear H'
             try clear c1
             try clear c2
             try clear p2
             try clear c3
             try clear c5
             try clear c5b0
             try clear c5b1
             try clear c8
             try clear c8b0
             try clear c8b1
             try clear c11
             try clear c11b0
             try clear c11b1
             try clear c14
             try clear c14b0
             try clear c14b1
             try clear c17
             try clear c19
             try clear c19b0
             try clear c19b1
             try clear c27
             try clear c28
             try clear c29
             try clear c30
             try clear c31
             try clear c31b0
             try clear c31b1
             try clear c31b2
             try clear c32
             try clear c32b0
             try clear c32b1
             try clear c32b2
             try clear c33
             try clear c33b0
             try clear c33b1
             try clear c33b2
             try clear c36
             try clear c36b0
             try clear c36b1
             try clear hcz10_0
             try clear hcz10_1
             try clear hcz10_2
             try clear hcz10_3
             try clear hcz10_4
             try clear hcz10_5
             try clear hcz13_0
             try clear hcz13_1
             try clear hcz13_2
             try clear hcz13_3
             try clear hcz13_4
             try clear hcz13_5
             try clear hcz17_0
             try clear hcz17_1
             try clear hcz17_2
             try clear hcz17_3
             try clear hcz17_4
             try clear hcz17_5
             try clear hcz22_0
             try clear hcz22_1
             try clear hcz22_2
             try clear hcz22_3
             try clear hcz22_4
             try clear hcz22_5
             try clear hcz26_0
             try clear hcz26_1
             try clear hcz26_2
             try clear hcz26_3
             try clear hcz26_4
             try clear hcz26_5
             try clear hcz28_0
             try clear hcz28_1
             try clear hcz28_2
             try clear hcz28_3
             try clear hcz28_4
             try clear hcz28_5
             try clear hcz35_0
             try clear hcz35_1
             try clear hcz35_2
             try clear hcz35_3
             try clear hcz35_4
             try clear hcz35_5
             try clear hcz39_0
             try clear hcz39_1
             try clear hcz39_2
             try clear hcz39_3
             try clear hcz39_4
             try clear hcz39_5
             try clear hcz7_0
             try clear hcz7_1
             try clear hcz7_2
             try clear hcz7_3
             try clear hcz7_4
             try clear hcz7_5
             try clear hfz10_0
             try clear hfz10_1
             try clear hfz10_2
             try clear hfz10_3
             try clear hfz10_4
             try clear hfz10_5
             try clear hfz13_0
             try clear hfz13_1
             try clear hfz13_2
             try clear hfz13_3
             try clear hfz13_4
             try clear hfz13_5
             try clear hfz17_0
             try clear hfz17_1
             try clear hfz17_2
             try clear hfz17_3
             try clear hfz17_4
             try clear hfz17_5
             try clear hfz22_0
             try clear hfz22_1
             try clear hfz22_2
             try clear hfz22_3
             try clear hfz22_4
             try clear hfz22_5
             try clear hfz26_0
             try clear hfz26_1
             try clear hfz26_2
             try clear hfz26_3
             try clear hfz26_4
             try clear hfz26_5
             try clear hfz28_0
             try clear hfz28_1
             try clear hfz28_2
             try clear hfz28_3
             try clear hfz28_4
             try clear hfz28_5
             try clear hfz35_0
             try clear hfz35_1
             try clear hfz35_2
             try clear hfz35_3
             try clear hfz35_4
             try clear hfz35_5
             try clear hfz39_0
             try clear hfz39_1
             try clear hfz39_2
             try clear hfz39_3
             try clear hfz39_4
             try clear hfz39_5
             try clear hfz7_0
             try clear hfz7_1
             try clear hfz7_2
             try clear hfz7_3
             try clear hfz7_4
             try clear hfz7_5
             try clear p2
             obtain ⟨x12_4, x54_4, rfl, HA, HK4, HO_12, BK289, HB⟩ := hrel
             cases gk with
             | zero => exact absurd HA.out (by simp [impl_layout.l0])
             | succ k4 =>
              have H := HA.out
              clear HA
              simp only [impl_layout.l0] at H
              by_cases c40 : x54_4 < (l0_4.length : Int)
              ·rw [if_pos c40] at H
               have c40b0 : decide (x54_4 < (l0_4.length : Int)) = true := yF c40
               clear c40
               by_cases c41 : 0 ≤ x54_4
               ·rw [if_pos c41] at H
                have c41b0 : decide (0 ≤ x54_4) = true := yF c41
                clear c41
                by_cases c42 : x54_4 < (l0_4.length : Int)
                ·rw [if_pos c42] at H
                 have c42b0 : decide (x54_4 < (l0_4.length : Int)) = true := yF c42
                 clear c42
                 by_cases c43 : a0_0 = 6
                 ·rw [if_pos c43] at H
                  have c43b0 : (a0_0 == 6) = true := beq_iff_eq.mpr c43
                  have c43b1 : (a0_0 != 6) = false := bne_eq_false_iff_eq.mpr c43
                  clear c43
                  by_cases c44 : x54_4 < (l0_5.length : Int)
                  ·rw [if_pos c44] at H
                   have c44b0 : decide (x54_4 < (l0_5.length : Int)) = true := yF c44
                   clear c44
                   replace H := Option.bind_eq_some_iff.mp H
                   obtain ⟨t299, A450, H⟩ := H
                   replace H : (if t299.size + 1 ≤ 9223372036854775807 then (if (t299 ++ (⟨#[58]⟩ : ByteArray)).size + x9_28.size ≤ 9223372036854775807 then (if x8_28.size + ((t299 ++ (⟨#[58]⟩ : ByteArray)) ++ x9_28).size ≤ 9223372036854775807 then ((impl_layout.f k4 ((rd_T33 l0_4 x54_4).f0) ((rd_T33 l0_4 x54_4).f1.f0) ((rd_T33 l0_4 x54_4).f1.f1) ((rd_T33 l0_4 x54_4).f2) ((rd_T33 l0_4 x54_4).f3) ((rd_T33 l0_4 x54_4).f4) a1 x7_28 l3).bind fun t300 => (if (x8_28 ++ ((t299 ++ (⟨#[58]⟩ : ByteArray)) ++ x9_28)).size + t300.size ≤ 9223372036854775807 then (if x12_4.length < 8796093022208 then (impl_layout.l0 k4 a1 x7_28 x8_28 x9_28 x10_28 x11_33 (x12_4 ++ [(x8_28 ++ ((t299 ++ (⟨#[58]⟩ : ByteArray)) ++ x9_28)) ++ t300]) l0_4 (l0_4.length : Int) (wrap64 (x54_4 + 1)) l3 a0_0 a0_1 a0_2 a0_3 l0_4 l0_5) else (none)) else (none))) else (none)) else (none)) else (none)) = some r := H
                   have A45 := zA A450
                   clear A450
                   by_cases c46 : t299.size + 1 ≤ 9223372036854775807
                   ·rw [if_pos c46] at H
                    have c46b0 := eq_true c46
                    have c46b1 : decide (t299.size + 1 ≤ 9223372036854775807) = true := yF c46
                    try have c46b2 : (9223372036854775807 < t299.size + 1) = False := eq_false (Nat.not_lt.2 c46)
                    by_cases c47 : (t299 ++ (⟨#[58]⟩ : ByteArray)).size + x9_28.size ≤ 9223372036854775807
                    ·rw [if_pos c47] at H
                     (try (have c47b9 := eq_true c47; simp only [ByteArray.size_append, Int.natCast_add, show ((⟨#[58]⟩ : ByteArray)).size = 1 from rfl] at c47b9))
                     (try (have c47b8 := eq_false (Nat.not_lt.2 c47); simp only [ByteArray.size_append, show ((⟨#[58]⟩ : ByteArray)).size = 1 from rfl] at c47b8))
                     have c47b0 := eq_true c47
                     have c47b1 : decide ((t299 ++ (⟨#[58]⟩ : ByteArray)).size + x9_28.size ≤ 9223372036854775807) = true := yF c47
                     try have c47b2 : (9223372036854775807 < (t299 ++ (⟨#[58]⟩ : ByteArray)).size + x9_28.size) = False := eq_false (Nat.not_lt.2 c47)
                     try simp only [ByteArray.size_append] at c47b2
                     by_cases c48 : x8_28.size + ((t299 ++ (⟨#[58]⟩ : ByteArray)) ++ x9_28).size ≤ 9223372036854775807
                     ·rw [if_pos c48] at H
                      (try (have c48b9 := eq_true c48; simp only [ByteArray.size_append, Int.natCast_add, show ((⟨#[58]⟩ : ByteArray)).size = 1 from rfl] at c48b9))
                      (try (have c48b8 := eq_false (Nat.not_lt.2 c48); simp only [ByteArray.size_append, show ((⟨#[58]⟩ : ByteArray)).size = 1 from rfl] at c48b8))
                      have c48b0 := eq_true c48
                      have c48b1 : decide (x8_28.size + ((t299 ++ (⟨#[58]⟩ : ByteArray)) ++ x9_28).size ≤ 9223372036854775807) = true := yF c48
                      try have c48b2 : (9223372036854775807 < x8_28.size + ((t299 ++ (⟨#[58]⟩ : ByteArray)) ++ x9_28).size) = False := eq_false (Nat.not_lt.2 c48)
                      try simp only [ByteArray.size_append] at c48b2
                      replace H := Option.bind_eq_some_iff.mp H
                      obtain ⟨t300, A490, H⟩ := H
                      replace H : (if (x8_28 ++ ((t299 ++ (⟨#[58]⟩ : ByteArray)) ++ x9_28)).size + t300.size ≤ 9223372036854775807 then (if x12_4.length < 8796093022208 then (impl_layout.l0 k4 a1 x7_28 x8_28 x9_28 x10_28 x11_33 (x12_4 ++ [(x8_28 ++ ((t299 ++ (⟨#[58]⟩ : ByteArray)) ++ x9_28)) ++ t300]) l0_4 (l0_4.length : Int) (wrap64 (x54_4 + 1)) l3 a0_0 a0_1 a0_2 a0_3 l0_4 l0_5) else (none)) else (none)) = some r := H
                      have A49 := zA A490
                      clear A490
                      by_cases c50 : (x8_28 ++ ((t299 ++ (⟨#[58]⟩ : ByteArray)) ++ x9_28)).size + t300.size ≤ 9223372036854775807
                      ·rw [if_pos c50] at H
                       (try (have c50b9 := eq_true c50; simp only [ByteArray.size_append, Int.natCast_add, show ((⟨#[58]⟩ : ByteArray)).size = 1 from rfl] at c50b9))
                       (try (have c50b8 := eq_false (Nat.not_lt.2 c50); simp only [ByteArray.size_append, show ((⟨#[58]⟩ : ByteArray)).size = 1 from rfl] at c50b8))
                       have c50b0 := eq_true c50
                       have c50b1 : decide ((x8_28 ++ ((t299 ++ (⟨#[58]⟩ : ByteArray)) ++ x9_28)).size + t300.size ≤ 9223372036854775807) = true := yF c50
                       try have c50b2 : (9223372036854775807 < (x8_28 ++ ((t299 ++ (⟨#[58]⟩ : ByteArray)) ++ x9_28)).size + t300.size) = False := eq_false (Nat.not_lt.2 c50)
                       try simp only [ByteArray.size_append] at c50b2
                       by_cases c51 : x12_4.length < 8796093022208
                       ·rw [if_pos c51] at H
                        have LMc51 := zA c51
                        clear c51
                        obtain ⟨y301, hy301⟩ : ∃ y_ : List ByteArray, y_ = (x12_4 ++ [(x8_28 ++ ((t299 ++ (⟨#[58]⟩ : ByteArray)) ++ x9_28)) ++ t300]) := ⟨_, rfl⟩
                        replace H : (impl_layout.l0 k4 a1 x7_28 x8_28 x9_28 x10_28 x11_33 y301 l0_4 (l0_4.length : Int) (wrap64 (x54_4 + 1)) l3 a0_0 a0_1 a0_2 a0_3 l0_4 l0_5) = some r := by first | (rw [hy301]; with_reducible exact H) | (have H2_ := (Option.bind_some _ _).symm.trans H; rw [hy301]; with_reducible exact H2_) | (have H2_ := (Option.bind_some _ _).symm.trans H; with_reducible exact H2_) | with_reducible exact H | (rw [hy301]; exact H) | exact H
                        have Ny301 := zA hy301
                        clear hy301
                        have H' := zA H
                        clear H
                        have p296 : 0 ≤ (x54_4 : Int) := yG apC
                        have q296 : x54_4 < (l0_4.length : Int) := yG apC
                        obtain ⟨ad296, A296_4, c296_4, A296_5, c296_5, e296, hx296_0, hx296_1, hx296_2, hx296_3, hx296_4, hx296_5, hl296_4, hi296_4, hl296_5, hi296_5⟩ := at_T33 HR0_4.out x54_4 p296 q296
                        cases e296
                        replace hx296_0 := (HB.out.cell (zS w _ hx296_0)).trans hx296_0
                        replace hx296_1 := (HB.out.cell (zS w _ hx296_1)).trans hx296_1
                        replace hx296_2 := (HB.out.cell (zS w _ hx296_2)).trans hx296_2
                        replace hx296_3 := (HB.out.cell (zS w _ hx296_3)).trans hx296_3
                        replace hx296_4 := (HB.out.cell (zS w _ hx296_4)).trans hx296_4
                        replace hx296_5 := (HB.out.cell (zS w _ hx296_5)).trans hx296_5
                        have HR296_4 := zA hi296_4
                        have HC296_4 := zA hl296_4
                        clear hi296_4 hl296_4
                        have HR296_5 := zA hi296_5
                        have HC296_5 := zA hl296_5
                        clear hi296_5 hl296_5
                        replace p296 := eq_true p296
                        replace q296 := eq_true q296
                        go_wp2_with (first | ((with_reducible refine zT (N := 14) rfl ?_); (try (refine gate_guard (by rfl) ?_; dsimp only)); refine zX ?hg (N := 14) ?hd (cs := #[.int .i64 0, .int .i64 0, .int .i64 0, .string (⟨#[]⟩ : ByteArray), .slice none 0 0, .slice none 0 0]) (t := 33) ?hr ?_; (case hd => rfl); (case hg => rfl); (case hr => first | (go_simp; done) | (go_simp; rfl)); intro gb297 hg w52 hbox hb; have n0_ := zA (Kd.R_below (by (with_reducible repeat (first | apply Kd.R_alloc | apply Kd.R_drewN | apply Kd.R_drew)); exact HO_12.out) hb); have n1_ := zA (zP (g := gb289) (o := .cells #[.int .i64 a0_0, .int .i64 a0_1, .int .i64 a0_2, .string a0_3, .slice (some ad296) l0_4.length c0_4, .slice A0_5 l0_5.length c0_5] 33 (0, 0)) apM hb); have n2_ := zA (zQ apL hb); have n3_ := zA (hbox); have n4_ := zA ((by rw [hg]; exact (zR apL) : w.heap.size ≤ gb297)); have n5_ := zA ((by rw [hg]; exact (zR apL) : w.heap.size ≤ gb297)); have n6_ := zA ((by rw [hg]; exact Nat.ne_of_lt (blk_lt (g := gb289) (o := .cells #[.int .i64 a0_0, .int .i64 a0_1, .int .i64 a0_2, .string a0_3, .slice (some ad296) l0_4.length c0_4, .slice A0_5 l0_5.length c0_5] 33 (0, 0)) apM) : gb289 ≠ gb297)); have n7_ := zA ((by rw [hg]; exact Nat.ne_of_gt (blk_lt (g := gb289) (o := .cells #[.int .i64 a0_0, .int .i64 a0_1, .int .i64 a0_2, .string a0_3, .slice (some ad296) l0_4.length c0_4, .slice A0_5 l0_5.length c0_5] 33 (0, 0)) apM) : gb297 ≠ gb289)); clear HO_12; clear BK289; clear HB; have HO_12 := n0_; have BK289 := n1_; have HB := n2_; have BK297 := n3_; have GW297 := n4_; have GE297 := n5_; have NB289_297 := n6_; have NB297_289 := n7_; clear n0_ n1_ n2_ n3_ n4_ n5_ n6_ n7_; clear hb hbox hg; have hnb53 := NB297_289.out; have hnc53 := NB289_297.out; have hcz54_0 : w52.cell? ⟨gb297, 0, none⟩ = some (.int .i64 0) := (zJ BK297.out 0).trans rfl; have hcz54_1 : w52.cell? ⟨gb297, 1, none⟩ = some (.int .i64 0) := (zJ BK297.out 1).trans rfl; have hcz54_2 : w52.cell? ⟨gb297, 2, none⟩ = some (.int .i64 0) := (zJ BK297.out 2).trans rfl; have hcz54_3 : w52.cell? ⟨gb297, 3, none⟩ = some (.string (⟨#[]⟩ : ByteArray)) := (zJ BK297.out 3).trans rfl; have hcz54_4 : w52.cell? ⟨gb297, 4, none⟩ = some (.slice none 0 0) := (zJ BK297.out 4).trans rfl; have hcz54_5 : w52.cell? ⟨gb297, 5, none⟩ = some (.slice none 0 0) := (zJ BK297.out 5).trans rfl; have hfz54_0 := zK BK297.out 0; have hfz54_1 := zK BK297.out 1; have hfz54_2 := zK BK297.out 2; have hfz54_3 := zK BK297.out 3; have hfz54_4 := zK BK297.out 4; have hfz54_5 := zK BK297.out 5; have hcz55_0 : w52.cell? ⟨gb289, 0, none⟩ = some (.int .i64 a0_0) := (zJ BK289.out 0).trans rfl; have hcz55_1 : w52.cell? ⟨gb289, 1, none⟩ = some (.int .i64 a0_1) := (zJ BK289.out 1).trans rfl; have hcz55_2 : w52.cell? ⟨gb289, 2, none⟩ = some (.int .i64 a0_2) := (zJ BK289.out 2).trans rfl; have hcz55_3 : w52.cell? ⟨gb289, 3, none⟩ = some (.string a0_3) := (zJ BK289.out 3).trans rfl; have hcz55_4 : w52.cell? ⟨gb289, 4, none⟩ = some (.slice (some ad296) l0_4.length c0_4) := (zJ BK289.out 4).trans rfl; have hcz55_5 : w52.cell? ⟨gb289, 5, none⟩ = some (.slice A0_5 l0_5.length c0_5) := (zJ BK289.out 5).trans rfl; have hfz55_0 := zK BK289.out 0; have hfz55_1 := zK BK289.out 1; have hfz55_2 := zK BK289.out 2; have hfz55_3 := zK BK289.out 3; have hfz55_4 := zK BK289.out 4; have hfz55_5 := zK BK289.out 5; have p298 : 0 ≤ (x54_4 : Int) := yG apC; have q298 : x54_4 < (l0_5.length : Int) := yG apC; obtain ⟨ad298, e298, hx298_0⟩ := Kd.at_string HR0_5.out x54_4 p298 q298; cases e298; have hn298_0 : ad298.block ≠ gb297 := Nat.ne_of_lt (Nat.lt_of_lt_of_le (by have := zS _ _ hx298_0; first | rwa [add_block] at this | exact this) GW297.out); have hn298_1 : ad298.block ≠ gb297 := Nat.ne_of_lt (Nat.lt_of_lt_of_le (by have := zS _ _ hx298_0; first | rwa [add_block] at this | exact this) GW297.out); have hn298_2 : ad298.block ≠ gb297 := Nat.ne_of_lt (Nat.lt_of_lt_of_le (by have := zS _ _ hx298_0; first | rwa [add_block] at this | exact this) GW297.out); have hn298_3 : ad298.block ≠ gb297 := Nat.ne_of_lt (Nat.lt_of_lt_of_le (by have := zS _ _ hx298_0; first | rwa [add_block] at this | exact this) GW297.out); have hn298_4 : ad298.block ≠ gb297 := Nat.ne_of_lt (Nat.lt_of_lt_of_le (by have := zS _ _ hx298_0; first | rwa [add_block] at this | exact this) GW297.out); have hn298_5 : ad298.block ≠ gb297 := Nat.ne_of_lt (Nat.lt_of_lt_of_le (by have := zS _ _ hx298_0; first | rwa [add_block] at this | exact this) GW297.out); replace hx298_0 := (HB.out.cell (zS w _ hx298_0)).trans hx298_0; replace hx298_0 := (cell_far (p := ⟨gb297, 0, none⟩) (by first | (rw [add_block]; exact hn298_0) | (show (Addr.add _ _).block ≠ _; rw [add_block]; exact hn298_0) | exact hn298_0) (.int .i64 ((rd_T33 l0_4 x54_4).f0))).trans hx298_0; replace hx298_0 := (cell_far (p := ⟨gb297, 1, none⟩) (by first | (rw [add_block]; exact hn298_1) | (show (Addr.add _ _).block ≠ _; rw [add_block]; exact hn298_1) | exact hn298_1) (.int .i64 ((rd_T33 l0_4 x54_4).f1.f0))).trans hx298_0; replace hx298_0 := (cell_far (p := ⟨gb297, 2, none⟩) (by first | (rw [add_block]; exact hn298_2) | (show (Addr.add _ _).block ≠ _; rw [add_block]; exact hn298_2) | exact hn298_2) (.int .i64 ((rd_T33 l0_4 x54_4).f1.f1))).trans hx298_0; replace hx298_0 := (cell_far (p := ⟨gb297, 3, none⟩) (by first | (rw [add_block]; exact hn298_3) | (show (Addr.add _ _).block ≠ _; rw [add_block]; exact hn298_3) | exact hn298_3) (.string ((rd_T33 l0_4 x54_4).f2))).trans hx298_0; replace hx298_0 := (cell_far (p := ⟨gb297, 4, none⟩) (by first | (rw [add_block]; exact hn298_4) | (show (Addr.add _ _).block ≠ _; rw [add_block]; exact hn298_4) | exact hn298_4) (.slice A296_4 ((rd_T33 l0_4 x54_4).f3).length c296_4)).trans hx298_0; replace hx298_0 := (cell_far (p := ⟨gb297, 5, none⟩) (by first | (rw [add_block]; exact hn298_5) | (show (Addr.add _ _).block ≠ _; rw [add_block]; exact hn298_5) | exact hn298_5) (.slice A296_5 ((rd_T33 l0_4 x54_4).f4).length c296_5)).trans hx298_0; clear hn298_0; clear hn298_1; clear hn298_2; clear hn298_3; clear hn298_4; clear hn298_5; replace p298 := eq_true p298; replace q298 := eq_true q298) | ((with_reducible refine zV (f := 29) rfl ?_); refine goesL_ (some 69) rfl rfl Tryd.func29 (by kernel_rfl) rfl #[.string (rdOf ByteArray.empty l0_5 x54_4)] rfl apE ?_; (with_reducible refine (impl_jsonText.calls k4 (rdOf ByteArray.empty l0_5 x54_4) t299 _ A45.out).mono ?_); rintro e w56 ⟨rfl, hb⟩; refine ⟨_, rfl, ?_⟩; have n0_ := zA (Kd.R_below (by (with_reducible repeat (first | apply Kd.R_alloc | apply Kd.R_drewN | apply Kd.R_drew)); exact (Kd.R_mono (Kd.R_far (p := ⟨gb297, 5, none⟩) (Kd.R_far (p := ⟨gb297, 4, none⟩) (Kd.R_far (p := ⟨gb297, 3, none⟩) (Kd.R_far (p := ⟨gb297, 2, none⟩) (Kd.R_far (p := ⟨gb297, 1, none⟩) (Kd.R_far (p := ⟨gb297, 0, none⟩) (Kd.R_types HO_12.out BK297.out (by decide)) (fun _ hk => hk.2) (.int .i64 ((rd_T33 l0_4 x54_4).f0))) (fun _ hk => hk.2) (.int .i64 ((rd_T33 l0_4 x54_4).f1.f0))) (fun _ hk => hk.2) (.int .i64 ((rd_T33 l0_4 x54_4).f1.f1))) (fun _ hk => hk.2) (.string ((rd_T33 l0_4 x54_4).f2))) (fun _ hk => hk.2) (.slice A296_4 ((rd_T33 l0_4 x54_4).f3).length c296_4)) (fun _ hk => hk.2) (.slice A296_5 ((rd_T33 l0_4 x54_4).f4).length c296_5)) (fun _ h_ => h_.1))) hb); have n1_ := zA (zP (g := gb289) (o := .cells #[.int .i64 a0_0, .int .i64 a0_1, .int .i64 a0_2, .string a0_3, .slice (some ad296) l0_4.length c0_4, .slice (some ad298) l0_5.length c0_5] 33 (0, 0)) (by (with_reducible repeat (first | refine zB ?_ _ | refine zD ?_ | refine zC ?_ _)); refine blk_far ?_ NB289_297.out _; (with_reducible repeat (first | refine zB ?_ _ | refine zD ?_ | refine zC ?_ _)); refine blk_far ?_ NB289_297.out _; (with_reducible repeat (first | refine zB ?_ _ | refine zD ?_ | refine zC ?_ _)); refine blk_far ?_ NB289_297.out _; (with_reducible repeat (first | refine zB ?_ _ | refine zD ?_ | refine zC ?_ _)); refine blk_far ?_ NB289_297.out _; (with_reducible repeat (first | refine zB ?_ _ | refine zD ?_ | refine zC ?_ _)); refine blk_far ?_ NB289_297.out _; (with_reducible repeat (first | refine zB ?_ _ | refine zD ?_ | refine zC ?_ _)); refine blk_far ?_ NB289_297.out _; (with_reducible repeat (first | refine zB ?_ _ | refine zD ?_ | refine zC ?_ _)); exact BK289.out) hb); have n2_ := zA (zP (g := gb297) (o := .cells #[.int .i64 ((rd_T33 l0_4 x54_4).f0), .int .i64 ((rd_T33 l0_4 x54_4).f1.f0), .int .i64 ((rd_T33 l0_4 x54_4).f1.f1), .string ((rd_T33 l0_4 x54_4).f2), .slice A296_4 ((rd_T33 l0_4 x54_4).f3).length c296_4, .slice A296_5 ((rd_T33 l0_4 x54_4).f4).length c296_5] 33 (0, 0)) (by (with_reducible repeat (first | refine zB ?_ _ | refine zD ?_ | refine zC ?_ _)); refine blk_put (cs := #[.int .i64 ((rd_T33 l0_4 x54_4).f0), .int .i64 ((rd_T33 l0_4 x54_4).f1.f0), .int .i64 ((rd_T33 l0_4 x54_4).f1.f1), .string ((rd_T33 l0_4 x54_4).f2), .slice A296_4 ((rd_T33 l0_4 x54_4).f3).length c296_4, .slice none 0 0]) ?_ 5 _ rfl; (with_reducible repeat (first | refine zB ?_ _ | refine zD ?_ | refine zC ?_ _)); refine blk_put (cs := #[.int .i64 ((rd_T33 l0_4 x54_4).f0), .int .i64 ((rd_T33 l0_4 x54_4).f1.f0), .int .i64 ((rd_T33 l0_4 x54_4).f1.f1), .string ((rd_T33 l0_4 x54_4).f2), .slice none 0 0, .slice none 0 0]) ?_ 4 _ rfl; (with_reducible repeat (first | refine zB ?_ _ | refine zD ?_ | refine zC ?_ _)); refine blk_put (cs := #[.int .i64 ((rd_T33 l0_4 x54_4).f0), .int .i64 ((rd_T33 l0_4 x54_4).f1.f0), .int .i64 ((rd_T33 l0_4 x54_4).f1.f1), .string (⟨#[]⟩ : ByteArray), .slice none 0 0, .slice none 0 0]) ?_ 3 _ rfl; (with_reducible repeat (first | refine zB ?_ _ | refine zD ?_ | refine zC ?_ _)); refine blk_put (cs := #[.int .i64 ((rd_T33 l0_4 x54_4).f0), .int .i64 ((rd_T33 l0_4 x54_4).f1.f0), .int .i64 0, .string (⟨#[]⟩ : ByteArray), .slice none 0 0, .slice none 0 0]) ?_ 2 _ rfl; (with_reducible repeat (first | refine zB ?_ _ | refine zD ?_ | refine zC ?_ _)); refine blk_put (cs := #[.int .i64 ((rd_T33 l0_4 x54_4).f0), .int .i64 0, .int .i64 0, .string (⟨#[]⟩ : ByteArray), .slice none 0 0, .slice none 0 0]) ?_ 1 _ rfl; (with_reducible repeat (first | refine zB ?_ _ | refine zD ?_ | refine zC ?_ _)); refine blk_put (cs := #[.int .i64 0, .int .i64 0, .int .i64 0, .string (⟨#[]⟩ : ByteArray), .slice none 0 0, .slice none 0 0]) ?_ 0 _ rfl; (with_reducible repeat (first | refine zB ?_ _ | refine zD ?_ | refine zC ?_ _)); exact BK297.out) hb); have n3_ := zA (zQ apR hb); clear HO_12; clear BK289; clear BK297; clear HB; have HO_12 := n0_; have BK289 := n1_; have BK297 := n2_; have HB := n3_; clear n0_ n1_ n2_ n3_; (try clear hb); (try clear hb2); (try clear hk); (try clear hi); have hcz57_0 : w56.cell? ⟨gb297, 0, none⟩ = some (.int .i64 ((rd_T33 l0_4 x54_4).f0)) := (zJ BK297.out 0).trans rfl; have hcz57_1 : w56.cell? ⟨gb297, 1, none⟩ = some (.int .i64 ((rd_T33 l0_4 x54_4).f1.f0)) := (zJ BK297.out 1).trans rfl; have hcz57_2 : w56.cell? ⟨gb297, 2, none⟩ = some (.int .i64 ((rd_T33 l0_4 x54_4).f1.f1)) := (zJ BK297.out 2).trans rfl; have hcz57_3 : w56.cell? ⟨gb297, 3, none⟩ = some (.string ((rd_T33 l0_4 x54_4).f2)) := (zJ BK297.out 3).trans rfl; have hcz57_4 : w56.cell? ⟨gb297, 4, none⟩ = some (.slice A296_4 ((rd_T33 l0_4 x54_4).f3).length c296_4) := (zJ BK297.out 4).trans rfl; have hcz57_5 : w56.cell? ⟨gb297, 5, none⟩ = some (.slice A296_5 ((rd_T33 l0_4 x54_4).f4).length c296_5) := (zJ BK297.out 5).trans rfl; have hfz57_0 := zK BK297.out 0; have hfz57_1 := zK BK297.out 1; have hfz57_2 := zK BK297.out 2; have hfz57_3 := zK BK297.out 3; have hfz57_4 := zK BK297.out 4; have hfz57_5 := zK BK297.out 5) | ((with_reducible refine zV (f := 17) rfl ?_); refine goesL_ (some 79) rfl rfl Tryd.func17 (by kernel_rfl) rfl #[.agg #[.int .i64 ((rd_T33 l0_4 x54_4).f0), .int .i64 ((rd_T33 l0_4 x54_4).f1.f0), .int .i64 ((rd_T33 l0_4 x54_4).f1.f1), .string ((rd_T33 l0_4 x54_4).f2), .slice A296_4 ((rd_T33 l0_4 x54_4).f3).length c296_4, .slice A296_5 ((rd_T33 l0_4 x54_4).f4).length c296_5], .bool a1, .string x7_28] rfl apE ?_; (with_reducible refine (ih k4 (by have := HJ23.out; have := HJ28.out; have := HJ33.out; have := HK4.out; omega) ((rd_T33 l0_4 x54_4).f0) ((rd_T33 l0_4 x54_4).f1.f0) ((rd_T33 l0_4 x54_4).f1.f1) ((rd_T33 l0_4 x54_4).f2) _ _ ((rd_T33 l0_4 x54_4).f3) _ _ ((rd_T33 l0_4 x54_4).f4) a1 x7_28 A3 c3 l3 t300 _ ?side1 ?side2 ?side3 ?side4 ?side5 ?side6 ?side7 A49.out).mono ?_); (case side1 => repeat (first | exact (Kd.C_below HR296_4.out HB.out) | (with_reducible refine Kd.C_alloc ?_ _) | (with_reducible refine Kd.C_drewN ?_ _) | (with_reducible refine Kd.C_drew ?_))); (case side2 => exact HC296_4.out); (case side3 => repeat (first | exact (Kd.C_below HR296_5.out HB.out) | (with_reducible refine Kd.C_alloc ?_ _) | (with_reducible refine Kd.C_drewN ?_ _) | (with_reducible refine Kd.C_drew ?_))); (case side4 => exact HC296_5.out); (case side5 => repeat (first | exact (Kd.C_below HR3.out HB.out) | (with_reducible refine Kd.C_alloc ?_ _) | (with_reducible refine Kd.C_drewN ?_ _) | (with_reducible refine Kd.C_drew ?_))); (case side6 => exact HC3.out); (case side7 => exact HG3.out); rintro e w58 ⟨rfl, hb⟩; refine ⟨_, rfl, ?_⟩; have n0_ := zA (Kd.R_below (by (with_reducible repeat (first | apply Kd.R_alloc | apply Kd.R_drewN | apply Kd.R_drew)); exact HO_12.out) hb); have n1_ := zA (zP (g := gb289) (o := .cells #[.int .i64 a0_0, .int .i64 a0_1, .int .i64 a0_2, .string a0_3, .slice (some ad296) l0_4.length c0_4, .slice (some ad298) l0_5.length c0_5] 33 (0, 0)) apM hb); have n2_ := zA (zP (g := gb297) (o := .cells #[.int .i64 ((rd_T33 l0_4 x54_4).f0), .int .i64 ((rd_T33 l0_4 x54_4).f1.f0), .int .i64 ((rd_T33 l0_4 x54_4).f1.f1), .string ((rd_T33 l0_4 x54_4).f2), .slice A296_4 ((rd_T33 l0_4 x54_4).f3).length c296_4, .slice A296_5 ((rd_T33 l0_4 x54_4).f4).length c296_5] 33 (0, 0)) (by (with_reducible repeat (first | refine zB ?_ _ | refine zD ?_ | refine zC ?_ _)); exact BK297.out) hb); have n3_ := zA (zQ apR hb); clear HO_12; clear BK289; clear BK297; clear HB; have HO_12 := n0_; have BK289 := n1_; have BK297 := n2_; have HB := n3_; clear n0_ n1_ n2_ n3_; (try clear hb); (try clear hb2); (try clear hk); (try clear hi)) | ((with_reducible refine gate_builtin (b := .append) (xs := #[.tmp 74, .tmp 81]) rfl ?_); (try (refine gate_guard (by rfl) ?_; dsimp only)); at_builtin; refine Kd.R_append Kd.string (w0 := w) w.heap.size rfl (.tmp 74) (.tmp 81) 25 9 (.string ⟨#[]⟩) 16 rfl Tryd.underlying25 info9 rfl (by decide) (by omega) u12 x12_4 ((x8_28 ++ ((t299 ++ (⟨#[58]⟩ : ByteArray)) ++ x9_28)) ++ t300) [.string ((x8_28 ++ ((t299 ++ (⟨#[58]⟩ : ByteArray)) ++ x9_28)) ++ t300)] (fun _ => True) (fun _ => False) rfl rfl ?aP (fun _ hk => hk.elim) ?aF ?aO ?aB ?aS ?aL ?_; (case aP => exact rfl); (case aB => exact apR); (case aF => exact (fun _ _ => trivial)); (case aO => exact (by (with_reducible repeat (first | apply Kd.R_alloc | apply Kd.R_drewN | apply Kd.R_drew)); exact HO_12.out)); (case aS => exact (zR apR)); (case aL => have := LMc51.out; (first | omega | (simp only [ByteArray.size, List.size_toArray, List.length_cons, List.length_nil] at *; omega))); intro v302 w59 ho hb hg hat; rw [← Ny301.out] at ho; have n0_ := zA (blk_grown (g := gb289) (o := .cells #[.int .i64 a0_0, .int .i64 a0_1, .int .i64 a0_2, .string a0_3, .slice (some ad296) l0_4.length c0_4, .slice (some ad298) l0_5.length c0_5] 33 (0, 0)) apM hg (Kd.R_ne HO_12.out BK289.out (by decide))); have n1_ := zA (blk_grown (g := gb297) (o := .cells #[.int .i64 ((rd_T33 l0_4 x54_4).f0), .int .i64 ((rd_T33 l0_4 x54_4).f1.f0), .int .i64 ((rd_T33 l0_4 x54_4).f1.f1), .string ((rd_T33 l0_4 x54_4).f2), .slice A296_4 ((rd_T33 l0_4 x54_4).f3).length c296_4, .slice A296_5 ((rd_T33 l0_4 x54_4).f4).length c296_5] 33 (0, 0)) (by (with_reducible repeat (first | refine zB ?_ _ | refine zD ?_ | refine zC ?_ _)); exact BK297.out) hg (Kd.R_ne HO_12.out BK297.out (by decide))); have n2_ := zA (hb); have n3_ := zA (ho); clear BK289; clear BK297; clear HB; clear HO_12; have BK289 := n0_; have BK297 := n1_; have HB := n2_; have HO303 := n3_; clear n0_ n1_ n2_ n3_; clear ho hb hg hat))
                        go_roundg k4
                        case measure => have := HJ23.out; have := HJ28.out; have := HJ33.out; have := HK4.out; omega
                        case rel => exact ⟨(y301), (wrap64 (x54_4 + 1)), apB, H', ⟨by have := HJ23.out; have := HJ28.out; have := HJ33.out; have := HK4.out; omega⟩, ⟨by (with_reducible repeat (first | apply Kd.R_alloc | apply Kd.R_drewN | apply Kd.R_drew)); exact HO303.out⟩, ⟨apM⟩, ⟨apR⟩⟩
                       ·rw [if_neg c51] at H
                        exact absurd H (by simp)
                      ·rw [if_neg c50] at H
                       exact absurd H (by simp)
                     ·rw [if_neg c48] at H
                      exact absurd H (by simp)
                    ·rw [if_neg c47] at H
                     exact absurd H (by simp)
                   ·rw [if_neg c46] at H
                    exact absurd H (by simp)
                  ·rw [if_neg c44] at H
                   exact absurd H (by simp)
                 ·rw [if_neg c43] at H
                  have c43b0 : (a0_0 == 6) = false := beq_eq_false_iff_ne.mpr c43
                  have c43b1 : (a0_0 != 6) = true := bne_iff_ne.mpr c43
                  replace H := Option.bind_eq_some_iff.mp H
                  obtain ⟨t304, A600, H⟩ := H
                  replace H : (if x8_28.size + t304.size ≤ 9223372036854775807 then (if x12_4.length < 8796093022208 then (impl_layout.l0 k4 a1 x7_28 x8_28 x9_28 x10_28 x11_33 (x12_4 ++ [x8_28 ++ t304]) l0_4 (l0_4.length : Int) (wrap64 (x54_4 + 1)) l3 a0_0 a0_1 a0_2 a0_3 l0_4 l0_5) else (none)) else (none)) = some r := H
                  have A60 := zA A600
                  clear A600
                  by_cases c61 : x8_28.size + t304.size ≤ 9223372036854775807
                  ·rw [if_pos c61] at H
                   have c61b0 := eq_true c61
                   have c61b1 : decide (x8_28.size + t304.size ≤ 9223372036854775807) = true := yF c61
                   try have c61b2 : (9223372036854775807 < x8_28.size + t304.size) = False := eq_false (Nat.not_lt.2 c61)
                   by_cases c62 : x12_4.length < 8796093022208
                   ·rw [if_pos c62] at H
                    have LMc62 := zA c62
                    clear c62
                    obtain ⟨y305, hy305⟩ : ∃ y_ : List ByteArray, y_ = (x12_4 ++ [x8_28 ++ t304]) := ⟨_, rfl⟩
                    replace H : (impl_layout.l0 k4 a1 x7_28 x8_28 x9_28 x10_28 x11_33 y305 l0_4 (l0_4.length : Int) (wrap64 (x54_4 + 1)) l3 a0_0 a0_1 a0_2 a0_3 l0_4 l0_5) = some r := by first | (rw [hy305]; with_reducible exact H) | (have H2_ := (Option.bind_some _ _).symm.trans H; rw [hy305]; with_reducible exact H2_) | (have H2_ := (Option.bind_some _ _).symm.trans H; with_reducible exact H2_) | with_reducible exact H | (rw [hy305]; exact H) | exact H
                    have Ny305 := zA hy305
                    clear hy305
                    have H' := zA H
                    clear H
                    have p296 : 0 ≤ (x54_4 : Int) := yG apC
                    have q296 : x54_4 < (l0_4.length : Int) := yG apC
                    obtain ⟨ad296, A296_4, c296_4, A296_5, c296_5, e296, hx296_0, hx296_1, hx296_2, hx296_3, hx296_4, hx296_5, hl296_4, hi296_4, hl296_5, hi296_5⟩ := at_T33 HR0_4.out x54_4 p296 q296
                    cases e296
                    replace hx296_0 := (HB.out.cell (zS w _ hx296_0)).trans hx296_0
                    replace hx296_1 := (HB.out.cell (zS w _ hx296_1)).trans hx296_1
                    replace hx296_2 := (HB.out.cell (zS w _ hx296_2)).trans hx296_2
                    replace hx296_3 := (HB.out.cell (zS w _ hx296_3)).trans hx296_3
                    replace hx296_4 := (HB.out.cell (zS w _ hx296_4)).trans hx296_4
                    replace hx296_5 := (HB.out.cell (zS w _ hx296_5)).trans hx296_5
                    have HR296_4 := zA hi296_4
                    have HC296_4 := zA hl296_4
                    clear hi296_4 hl296_4
                    have HR296_5 := zA hi296_5
                    have HC296_5 := zA hl296_5
                    clear hi296_5 hl296_5
                    replace p296 := eq_true p296
                    replace q296 := eq_true q296
                    go_wp2_with (first | ((with_reducible refine zT (N := 14) rfl ?_); (try (refine gate_guard (by rfl) ?_; dsimp only)); refine zX ?hg (N := 14) ?hd (cs := #[.int .i64 0, .int .i64 0, .int .i64 0, .string (⟨#[]⟩ : ByteArray), .slice none 0 0, .slice none 0 0]) (t := 33) ?hr ?_; (case hd => rfl); (case hg => rfl); (case hr => first | (go_simp; done) | (go_simp; rfl)); intro gb297 hg w63 hbox hb; have n0_ := zA (Kd.R_below (by (with_reducible repeat (first | apply Kd.R_alloc | apply Kd.R_drewN | apply Kd.R_drew)); exact HO_12.out) hb); have n1_ := zA (zP (g := gb289) (o := .cells #[.int .i64 a0_0, .int .i64 a0_1, .int .i64 a0_2, .string a0_3, .slice (some ad296) l0_4.length c0_4, .slice A0_5 l0_5.length c0_5] 33 (0, 0)) apM hb); have n2_ := zA (zQ apL hb); have n3_ := zA (hbox); have n4_ := zA ((by rw [hg]; exact (zR apL) : w.heap.size ≤ gb297)); have n5_ := zA ((by rw [hg]; exact (zR apL) : w.heap.size ≤ gb297)); have n6_ := zA ((by rw [hg]; exact Nat.ne_of_lt (blk_lt (g := gb289) (o := .cells #[.int .i64 a0_0, .int .i64 a0_1, .int .i64 a0_2, .string a0_3, .slice (some ad296) l0_4.length c0_4, .slice A0_5 l0_5.length c0_5] 33 (0, 0)) apM) : gb289 ≠ gb297)); have n7_ := zA ((by rw [hg]; exact Nat.ne_of_gt (blk_lt (g := gb289) (o := .cells #[.int .i64 a0_0, .int .i64 a0_1, .int .i64 a0_2, .string a0_3, .slice (some ad296) l0_4.length c0_4, .slice A0_5 l0_5.length c0_5] 33 (0, 0)) apM) : gb297 ≠ gb289)); clear HO_12; clear BK289; clear HB; have HO_12 := n0_; have BK289 := n1_; have HB := n2_; have BK297 := n3_; have GW297 := n4_; have GE297 := n5_; have NB289_297 := n6_; have NB297_289 := n7_; clear n0_ n1_ n2_ n3_ n4_ n5_ n6_ n7_; clear hb hbox hg; have hnb64 := NB297_289.out; have hnc64 := NB289_297.out; have hcz65_0 : w63.cell? ⟨gb297, 0, none⟩ = some (.int .i64 0) := (zJ BK297.out 0).trans rfl; have hcz65_1 : w63.cell? ⟨gb297, 1, none⟩ = some (.int .i64 0) := (zJ BK297.out 1).trans rfl; have hcz65_2 : w63.cell? ⟨gb297, 2, none⟩ = some (.int .i64 0) := (zJ BK297.out 2).trans rfl; have hcz65_3 : w63.cell? ⟨gb297, 3, none⟩ = some (.string (⟨#[]⟩ : ByteArray)) := (zJ BK297.out 3).trans rfl; have hcz65_4 : w63.cell? ⟨gb297, 4, none⟩ = some (.slice none 0 0) := (zJ BK297.out 4).trans rfl; have hcz65_5 : w63.cell? ⟨gb297, 5, none⟩ = some (.slice none 0 0) := (zJ BK297.out 5).trans rfl; have hfz65_0 := zK BK297.out 0; have hfz65_1 := zK BK297.out 1; have hfz65_2 := zK BK297.out 2; have hfz65_3 := zK BK297.out 3; have hfz65_4 := zK BK297.out 4; have hfz65_5 := zK BK297.out 5; have hcz66_0 : w63.cell? ⟨gb289, 0, none⟩ = some (.int .i64 a0_0) := (zJ BK289.out 0).trans rfl; have hcz66_1 : w63.cell? ⟨gb289, 1, none⟩ = some (.int .i64 a0_1) := (zJ BK289.out 1).trans rfl; have hcz66_2 : w63.cell? ⟨gb289, 2, none⟩ = some (.int .i64 a0_2) := (zJ BK289.out 2).trans rfl; have hcz66_3 : w63.cell? ⟨gb289, 3, none⟩ = some (.string a0_3) := (zJ BK289.out 3).trans rfl; have hcz66_4 : w63.cell? ⟨gb289, 4, none⟩ = some (.slice (some ad296) l0_4.length c0_4) := (zJ BK289.out 4).trans rfl; have hcz66_5 : w63.cell? ⟨gb289, 5, none⟩ = some (.slice A0_5 l0_5.length c0_5) := (zJ BK289.out 5).trans rfl; have hfz66_0 := zK BK289.out 0; have hfz66_1 := zK BK289.out 1; have hfz66_2 := zK BK289.out 2; have hfz66_3 := zK BK289.out 3; have hfz66_4 := zK BK289.out 4; have hfz66_5 := zK BK289.out 5) | ((with_reducible refine zV (f := 17) rfl ?_); refine goesL_ (some 79) rfl rfl Tryd.func17 (by kernel_rfl) rfl #[.agg #[.int .i64 ((rd_T33 l0_4 x54_4).f0), .int .i64 ((rd_T33 l0_4 x54_4).f1.f0), .int .i64 ((rd_T33 l0_4 x54_4).f1.f1), .string ((rd_T33 l0_4 x54_4).f2), .slice A296_4 ((rd_T33 l0_4 x54_4).f3).length c296_4, .slice A296_5 ((rd_T33 l0_4 x54_4).f4).length c296_5], .bool a1, .string x7_28] rfl apE ?_; (with_reducible refine (ih k4 (by have := HJ23.out; have := HJ28.out; have := HJ33.out; have := HK4.out; omega) ((rd_T33 l0_4 x54_4).f0) ((rd_T33 l0_4 x54_4).f1.f0) ((rd_T33 l0_4 x54_4).f1.f1) ((rd_T33 l0_4 x54_4).f2) _ _ ((rd_T33 l0_4 x54_4).f3) _ _ ((rd_T33 l0_4 x54_4).f4) a1 x7_28 A3 c3 l3 t304 _ ?side1 ?side2 ?side3 ?side4 ?side5 ?side6 ?side7 A60.out).mono ?_); (case side1 => exact Kd.C_below HR296_4.out apR); (case side2 => exact HC296_4.out); (case side3 => exact Kd.C_below HR296_5.out apR); (case side4 => exact HC296_5.out); (case side5 => exact Kd.C_below HR3.out apR); (case side6 => exact HC3.out); (case side7 => exact HG3.out); rintro e w67 ⟨rfl, hb⟩; refine ⟨_, rfl, ?_⟩; have n0_ := zA (Kd.R_below (by (with_reducible repeat (first | apply Kd.R_alloc | apply Kd.R_drewN | apply Kd.R_drew)); exact (Kd.R_mono (Kd.R_far (p := ⟨gb297, 5, none⟩) (Kd.R_far (p := ⟨gb297, 4, none⟩) (Kd.R_far (p := ⟨gb297, 3, none⟩) (Kd.R_far (p := ⟨gb297, 2, none⟩) (Kd.R_far (p := ⟨gb297, 1, none⟩) (Kd.R_far (p := ⟨gb297, 0, none⟩) (Kd.R_types HO_12.out BK297.out (by decide)) (fun _ hk => hk.2) (.int .i64 ((rd_T33 l0_4 x54_4).f0))) (fun _ hk => hk.2) (.int .i64 ((rd_T33 l0_4 x54_4).f1.f0))) (fun _ hk => hk.2) (.int .i64 ((rd_T33 l0_4 x54_4).f1.f1))) (fun _ hk => hk.2) (.string ((rd_T33 l0_4 x54_4).f2))) (fun _ hk => hk.2) (.slice A296_4 ((rd_T33 l0_4 x54_4).f3).length c296_4)) (fun _ hk => hk.2) (.slice A296_5 ((rd_T33 l0_4 x54_4).f4).length c296_5)) (fun _ h_ => h_.1))) hb); have n1_ := zA (zP (g := gb289) (o := .cells #[.int .i64 a0_0, .int .i64 a0_1, .int .i64 a0_2, .string a0_3, .slice (some ad296) l0_4.length c0_4, .slice A0_5 l0_5.length c0_5] 33 (0, 0)) (by (with_reducible repeat (first | refine zB ?_ _ | refine zD ?_ | refine zC ?_ _)); refine blk_far ?_ NB289_297.out _; (with_reducible repeat (first | refine zB ?_ _ | refine zD ?_ | refine zC ?_ _)); refine blk_far ?_ NB289_297.out _; (with_reducible repeat (first | refine zB ?_ _ | refine zD ?_ | refine zC ?_ _)); refine blk_far ?_ NB289_297.out _; (with_reducible repeat (first | refine zB ?_ _ | refine zD ?_ | refine zC ?_ _)); refine blk_far ?_ NB289_297.out _; (with_reducible repeat (first | refine zB ?_ _ | refine zD ?_ | refine zC ?_ _)); refine blk_far ?_ NB289_297.out _; (with_reducible repeat (first | refine zB ?_ _ | refine zD ?_ | refine zC ?_ _)); refine blk_far ?_ NB289_297.out _; (with_reducible repeat (first | refine zB ?_ _ | refine zD ?_ | refine zC ?_ _)); exact BK289.out) hb); have n2_ := zA (zP (g := gb297) (o := .cells #[.int .i64 ((rd_T33 l0_4 x54_4).f0), .int .i64 ((rd_T33 l0_4 x54_4).f1.f0), .int .i64 ((rd_T33 l0_4 x54_4).f1.f1), .string ((rd_T33 l0_4 x54_4).f2), .slice A296_4 ((rd_T33 l0_4 x54_4).f3).length c296_4, .slice A296_5 ((rd_T33 l0_4 x54_4).f4).length c296_5] 33 (0, 0)) (by (with_reducible repeat (first | refine zB ?_ _ | refine zD ?_ | refine zC ?_ _)); refine blk_put (cs := #[.int .i64 ((rd_T33 l0_4 x54_4).f0), .int .i64 ((rd_T33 l0_4 x54_4).f1.f0), .int .i64 ((rd_T33 l0_4 x54_4).f1.f1), .string ((rd_T33 l0_4 x54_4).f2), .slice A296_4 ((rd_T33 l0_4 x54_4).f3).length c296_4, .slice none 0 0]) ?_ 5 _ rfl; (with_reducible repeat (first | refine zB ?_ _ | refine zD ?_ | refine zC ?_ _)); refine blk_put (cs := #[.int .i64 ((rd_T33 l0_4 x54_4).f0), .int .i64 ((rd_T33 l0_4 x54_4).f1.f0), .int .i64 ((rd_T33 l0_4 x54_4).f1.f1), .string ((rd_T33 l0_4 x54_4).f2), .slice none 0 0, .slice none 0 0]) ?_ 4 _ rfl; (with_reducible repeat (first | refine zB ?_ _ | refine zD ?_ | refine zC ?_ _)); refine blk_put (cs := #[.int .i64 ((rd_T33 l0_4 x54_4).f0), .int .i64 ((rd_T33 l0_4 x54_4).f1.f0), .int .i64 ((rd_T33 l0_4 x54_4).f1.f1), .string (⟨#[]⟩ : ByteArray), .slice none 0 0, .slice none 0 0]) ?_ 3 _ rfl; (with_reducible repeat (first | refine zB ?_ _ | refine zD ?_ | refine zC ?_ _)); refine blk_put (cs := #[.int .i64 ((rd_T33 l0_4 x54_4).f0), .int .i64 ((rd_T33 l0_4 x54_4).f1.f0), .int .i64 0, .string (⟨#[]⟩ : ByteArray), .slice none 0 0, .slice none 0 0]) ?_ 2 _ rfl; (with_reducible repeat (first | refine zB ?_ _ | refine zD ?_ | refine zC ?_ _)); refine blk_put (cs := #[.int .i64 ((rd_T33 l0_4 x54_4).f0), .int .i64 0, .int .i64 0, .string (⟨#[]⟩ : ByteArray), .slice none 0 0, .slice none 0 0]) ?_ 1 _ rfl; (with_reducible repeat (first | refine zB ?_ _ | refine zD ?_ | refine zC ?_ _)); refine blk_put (cs := #[.int .i64 0, .int .i64 0, .int .i64 0, .string (⟨#[]⟩ : ByteArray), .slice none 0 0, .slice none 0 0]) ?_ 0 _ rfl; (with_reducible repeat (first | refine zB ?_ _ | refine zD ?_ | refine zC ?_ _)); exact BK297.out) hb); have n3_ := zA (zQ apR hb); clear HO_12; clear BK289; clear BK297; clear HB; have HO_12 := n0_; have BK289 := n1_; have BK297 := n2_; have HB := n3_; clear n0_ n1_ n2_ n3_; (try clear hb); (try clear hb2); (try clear hk); (try clear hi)) | ((with_reducible refine gate_builtin (b := .append) (xs := #[.tmp 74, .tmp 81]) rfl ?_); (try (refine gate_guard (by rfl) ?_; dsimp only)); at_builtin; refine Kd.R_append Kd.string (w0 := w) w.heap.size rfl (.tmp 74) (.tmp 81) 25 9 (.string ⟨#[]⟩) 16 rfl Tryd.underlying25 info9 rfl (by decide) (by omega) u12 x12_4 (x8_28 ++ t304) [.string (x8_28 ++ t304)] (fun _ => True) (fun _ => False) rfl rfl ?aP (fun _ hk => hk.elim) ?aF ?aO ?aB ?aS ?aL ?_; (case aP => exact rfl); (case aB => exact apR); (case aF => exact (fun _ _ => trivial)); (case aO => exact (by (with_reducible repeat (first | apply Kd.R_alloc | apply Kd.R_drewN | apply Kd.R_drew)); exact HO_12.out)); (case aS => exact (zR apR)); (case aL => have := LMc62.out; (first | omega | (simp only [ByteArray.size, List.size_toArray, List.length_cons, List.length_nil] at *; omega))); intro v306 w68 ho hb hg hat; rw [← Ny305.out] at ho; have n0_ := zA (blk_grown (g := gb289) (o := .cells #[.int .i64 a0_0, .int .i64 a0_1, .int .i64 a0_2, .string a0_3, .slice (some ad296) l0_4.length c0_4, .slice A0_5 l0_5.length c0_5] 33 (0, 0)) apM hg (Kd.R_ne HO_12.out BK289.out (by decide))); have n1_ := zA (blk_grown (g := gb297) (o := .cells #[.int .i64 ((rd_T33 l0_4 x54_4).f0), .int .i64 ((rd_T33 l0_4 x54_4).f1.f0), .int .i64 ((rd_T33 l0_4 x54_4).f1.f1), .string ((rd_T33 l0_4 x54_4).f2), .slice A296_4 ((rd_T33 l0_4 x54_4).f3).length c296_4, .slice A296_5 ((rd_T33 l0_4 x54_4).f4).length c296_5] 33 (0, 0)) (by (with_reducible repeat (first | refine zB ?_ _ | refine zD ?_ | refine zC ?_ _)); exact BK297.out) hg (Kd.R_ne HO_12.out BK297.out (by decide))); have n2_ := zA (hb); have n3_ := zA (ho); clear BK289; clear BK297; clear HB; clear HO_12; have BK289 := n0_; have BK297 := n1_; have HB := n2_; have HO307 := n3_; clear n0_ n1_ n2_ n3_; clear ho hb hg hat))
                    go_roundg k4
                    case measure => have := HJ23.out; have := HJ28.out; have := HJ33.out; have := HK4.out; omega
                    case rel => exact ⟨(y305), (wrap64 (x54_4 + 1)), apB, H', ⟨by have := HJ23.out; have := HJ28.out; have := HJ33.out; have := HK4.out; omega⟩, ⟨by (with_reducible repeat (first | apply Kd.R_alloc | apply Kd.R_drewN | apply Kd.R_drew)); exact HO307.out⟩, ⟨apM⟩, ⟨apR⟩⟩
                   ·rw [if_neg c62] at H
                    exact absurd H (by simp)
                  ·rw [if_neg c61] at H
                   exact absurd H (by simp)
                ·rw [if_neg c42] at H
                 exact absurd H (by simp)
               ·rw [if_neg c41] at H
                exact absurd H (by simp)
              ·rw [if_neg c40] at H
               have c40b0 : decide (x54_4 < (l0_4.length : Int)) = false := decide_eq_false c40
               clear c40
               by_cases c69 : 0 ≤ 1
               ·rw [if_pos c69] at H
                have c69b0 := eq_true c69
                have c69b1 : decide (0 ≤ 1) = true := yF c69
                clear c69
                by_cases c70 : 1 ≤ (x11_33.size : Int)
                ·rw [if_pos c70] at H
                 have c70b0 := eq_true c70
                 have c70b1 : decide (1 ≤ (x11_33.size : Int)) = true := yF c70
                 clear c70
                 replace H := Option.bind_eq_some_iff.mp H
                 obtain ⟨t295, A710, H⟩ := H
                 replace H : (if (x11_33.extract 0 1).size + t295.size ≤ 9223372036854775807 then (if ((x11_33.extract 0 1) ++ t295).size + x10_28.size ≤ 9223372036854775807 then (if (((x11_33.extract 0 1) ++ t295) ++ x10_28).size + (x11_33.extract 1 x11_33.size).size ≤ 9223372036854775807 then (some ((((x11_33.extract 0 1) ++ t295) ++ x10_28) ++ (x11_33.extract 1 x11_33.size))) else (none)) else (none)) else (none)) = some r := H
                 have A71 := zA A710
                 clear A710
                 by_cases c72 : (x11_33.extract 0 1).size + t295.size ≤ 9223372036854775807
                 ·rw [if_pos c72] at H
                  have c72b0 := eq_true c72
                  have c72b1 : decide ((x11_33.extract 0 1).size + t295.size ≤ 9223372036854775807) = true := yF c72
                  try have c72b2 : (9223372036854775807 < (x11_33.extract 0 1).size + t295.size) = False := eq_false (Nat.not_lt.2 c72)
                  by_cases c73 : ((x11_33.extract 0 1) ++ t295).size + x10_28.size ≤ 9223372036854775807
                  ·rw [if_pos c73] at H
                   have c73b0 := eq_true c73
                   have c73b1 : decide (((x11_33.extract 0 1) ++ t295).size + x10_28.size ≤ 9223372036854775807) = true := yF c73
                   try have c73b2 : (9223372036854775807 < ((x11_33.extract 0 1) ++ t295).size + x10_28.size) = False := eq_false (Nat.not_lt.2 c73)
                   try simp only [ByteArray.size_append] at c73b2
                   have c74b0 := eq_true (yG apC : 1 ≤ (x11_33.size : Int))
                   by_cases c75 : (((x11_33.extract 0 1) ++ t295) ++ x10_28).size + (x11_33.extract 1 x11_33.size).size ≤ 9223372036854775807
                   ·rw [if_pos c75] at H
                    have c75b0 := eq_true c75
                    have c75b1 : decide ((((x11_33.extract 0 1) ++ t295) ++ x10_28).size + (x11_33.extract 1 x11_33.size).size ≤ 9223372036854775807) = true := yF c75
                    try have c75b2 : (9223372036854775807 < (((x11_33.extract 0 1) ++ t295) ++ x10_28).size + (x11_33.extract 1 x11_33.size).size) = False := eq_false (Nat.not_lt.2 c75)
                    try simp only [ByteArray.size_append] at c75b2
                    obtain rfl := yH H
                    try go_wp2
                    have n0_ := zA (Kd.R_drew HO_12.out)
                    have n1_ := zA (zD BK289.out)
                    have n2_ := zA (zF HB.out)
                    clear HO_12
                    clear BK289
                    clear HB
                    have HO_12 := n0_
                    have BK289 := n1_
                    have HB := n2_
                    clear n0_ n1_ n2_
                    obtain ⟨Ao77, co77, eo77⟩ := Kd.R_slice HO_12.out
                    (first | subst eo77 | (injection eo77 with f1_ f2_ f3_; have f4_ := f1_.symm; have f5_ := f3_.symm; clear f1_ f2_ f3_; subst f4_; subst f5_))
                    refine start_ (n := 11) (S := fun w' => True) (ds := []) #[false, false, false, false, false, false, false, false, false, false, false] (by kernel_rfl) rfl rfl trivial (fun hHeld => ?_); refine with_tabW impl_layout.tab28 impl_layout.bits28 (fun HT_ HW_ => ?_)
                    generalize wr.drew = w76 at HO_12 BK289 HB hHeld ⊢
                    refine pure_ (i := 0) (N := some 84) (v := ?_) (a' := ?_) #[true, false, false, false, false, false, false, false, false, false, false] rfl rfl (any_of HT_.out (by kernel_rfl)) (fun _ _ _ h => h) (Or.inl ⟨by rfl, ?_⟩) ?_ ?_
                    rotate_left
                    ·intro w'
                     go_simp
                     with_reducible rfl
                    rotate_left
                    ·simp only [Act.put, zL, zM, zN, i64_w, i32_w]
                     rfl
                    refine pure_ (i := 1) (N := some 85) (v := ?_) (a' := ?_) #[true, true, false, false, false, false, false, false, false, false, false] rfl rfl (any_of HT_.out (by kernel_rfl)) (fun _ _ _ h => h) (Or.inl ⟨by rfl, ?_⟩) ?_ ?_
                    rotate_left
                    ·intro w'
                     go_simp
                     with_reducible rfl
                    rotate_left
                    ·simp only [Act.put, zL, zM, zN, i64_w, i32_w]
                     rfl
                    refine pure_ (i := 2) (N := some 86) (v := ?_) (a' := ?_) #[true, true, true, false, false, false, false, false, false, false, false] rfl rfl (any_of HT_.out (by kernel_rfl)) (fun _ _ _ h => h) (Or.inl ⟨by rfl, ?_⟩) ?_ ?_
                    rotate_left
                    ·intro w'
                     go_simp
                     with_reducible rfl
                    rotate_left
                    ·simp only [Act.put, zL, zM, zN, i64_w, i32_w]
                     rfl
                    refine pure_ (i := 5) (N := some 89) (v := ?_) (a' := ?_) #[true, true, true, false, false, true, false, false, false, false, false] rfl rfl (any_of HT_.out (by kernel_rfl)) (fun _ _ _ h => h) (Or.inl ⟨by rfl, ?_⟩) ?_ ?_
                    rotate_left
                    ·intro w'
                     go_simp
                     with_reducible rfl
                    rotate_left
                    ·simp only [Act.put, zL, zM, zN, i64_w, i32_w]
                     rfl
                    refine pure_ (i := 7) (N := some 91) (v := ?_) (a' := ?_) #[true, true, true, false, false, true, false, true, false, false, false] rfl rfl (any_of HT_.out (by kernel_rfl)) (fun _ _ _ h => h) (Or.inl ⟨by rfl, ?_⟩) ?_ ?_
                    rotate_left
                    ·intro w'
                     go_simp
                     with_reducible rfl
                    rotate_left
                    ·simp only [Act.put, zL, zM, zN, i64_w, i32_w]
                     rfl
                    refine pure_ (i := 8) (N := some 92) (v := ?_) (a' := ?_) #[true, true, true, false, false, true, false, true, true, false, false] rfl rfl (any_of HT_.out (by kernel_rfl)) (fun _ _ _ h => h) (Or.inl ⟨by rfl, ?_⟩) ?_ ?_
                    rotate_left
                    ·intro w'
                     go_simp
                     with_reducible rfl
                    rotate_left
                    ·simp only [Act.put, zL, zM, zN, i64_w, i32_w]
                     rfl
                    refine one_ (i := 3) (N := some 87) #[true, true, true, true, false, true, false, true, true, false, false] rfl rfl (one_of HT_.out (by kernel_rfl)) (by decide) (fun K hK => ?_)
                    refine goes_ Tryd.func30 (by kernel_rfl) rfl #[.slice Ao77 x12_4.length co77, .string (⟨#[44]⟩ : ByteArray)] (by rfl) rfl rfl apE ?_
                    with_reducible refine (strings_Join.calls _ _ x12_4 (⟨#[44]⟩ : ByteArray) t295 _ ?side1 ?side2 A71.out).mono ?_
                    (case side1 => repeat (first | exact (Kd.R_reads' HO_12.out).2.2 | (with_reducible refine Kd.C_alloc ?_ _) | (with_reducible refine Kd.C_drewN ?_ _) | (with_reducible refine Kd.C_drew ?_)))
                    (case side2 => exact (Kd.R_reads' HO_12.out).2.1)
                    rintro e w78 ⟨rfl, hb⟩
                    refine ⟨_, rfl, ?_⟩
                    have n0_ := zA (Kd.R_below (by (with_reducible repeat (first | apply Kd.R_alloc | apply Kd.R_drewN | apply Kd.R_drew)); exact HO_12.out) hb)
                    have n1_ := zA (zP (g := gb289) (o := .cells #[.int .i64 a0_0, .int .i64 a0_1, .int .i64 a0_2, .string a0_3, .slice A0_4 l0_4.length c0_4, .slice A0_5 l0_5.length c0_5] 33 (0, 0)) apM hb)
                    have n2_ := zA (zQ apL hb)
                    clear HO_12
                    clear BK289
                    clear HB
                    have HO_12 := n0_
                    have BK289 := n1_
                    have HB := n2_
                    clear n0_ n1_ n2_
                    (try clear hb)
                    (try clear hb2)
                    (try clear hk)
                    (try clear hi)
                    refine hK.out _ _ trivial (fun hHeld => ?_)
                    clear hK K
                    refine norm_ (a' := ?_) ?_ ?_
                    rotate_left
                    ·show Act.put _ (some 87) _ = _
                     simp only [Act.put, zL, zM, zN, i64_w, i32_w]
                     rfl
                    refine pure_ (i := 4) (N := some 88) (v := ?_) (a' := ?_) #[true, true, true, true, true, true, false, true, true, false, false] rfl rfl (any_of HT_.out (by kernel_rfl)) (fun _ _ _ h => h) (Or.inl ⟨by rfl, ?_⟩) ?_ ?_
                    rotate_left
                    ·intro w'
                     go_simp
                     with_reducible rfl
                    rotate_left
                    ·simp only [Act.put, zL, zM, zN, i64_w, i32_w]
                     rfl
                    refine pure_ (i := 6) (N := some 90) (v := ?_) (a' := ?_) #[true, true, true, true, true, true, true, true, true, false, false] rfl rfl (any_of HT_.out (by kernel_rfl)) (fun _ _ _ h => h) (Or.inl ⟨by rfl, ?_⟩) ?_ ?_
                    rotate_left
                    ·intro w'
                     go_simp
                     with_reducible rfl
                    rotate_left
                    ·simp only [Act.put, zL, zM, zN, i64_w, i32_w]
                     rfl
                    refine pure_ (i := 9) (N := some 93) (v := ?_) (a' := ?_) #[true, true, true, true, true, true, true, true, true, true, false] rfl rfl (any_of HT_.out (by kernel_rfl)) (fun _ _ _ h => h) (Or.inl ⟨by rfl, ?_⟩) ?_ ?_
                    rotate_left
                    ·intro w'
                     go_simp
                     with_reducible rfl
                    rotate_left
                    ·simp only [Act.put, zL, zM, zN, i64_w, i32_w]
                     rfl
                    refine pure_ (i := 10) (N := some 6) (v := ?_) (a' := ?_) #[true, true, true, true, true, true, true, true, true, true, true] rfl rfl (any_of HT_.out (by kernel_rfl)) (fun _ _ _ h => h) (Or.inl ⟨by rfl, ?_⟩) ?_ ?_
                    rotate_left
                    ·intro w'
                     go_simp
                     with_reducible rfl
                    rotate_left
                    ·simp only [Act.put, zL, zM, zN, i64_w, i32_w]
                     rfl
                    refine done_ (done_of HT_.out (by kernel_rfl)) ?_
                    try go_wp2
                    go_ret
                    exact ⟨apD, apL⟩
                   ·rw [if_neg c75] at H
                    exact absurd H (by simp)
                  ·rw [if_neg c73] at H
                   exact absurd H (by simp)
                 ·rw [if_neg c72] at H
                  exact absurd H (by simp)
                ·rw [if_neg c70] at H
                 exact absurd H (by simp)
               ·rw [if_neg c69] at H
                exact absurd H (by simp)

end Go.Proofs.YtihepjjjdjemfaaDoor.Q

namespace Go.Proofs.YtihepjjjdjemfaaDoor.Q
open Go.RowKit Go.Proofs.YtihepjjjdjemfaaDoorW.PrintWords Go.Proofs.YtihepjjjdjemfaaDoorW.PrintLast Go.Proofs.YtihepjjjdjemfaaDoorW.PrintMore Go.Proofs.YtihepjjjdjemfaaDoorX
attribute [local go_sem] max2_int min2_int max_two min_two max_three min_three max_four min_four   -- for this text's walks alone
set_option linter.unusedVariables false
set_option linter.unusedSimpArgs false

mutual
def spec_l7Put.l0 : Nat → ByteArray → Int → Int → Int → Int → ByteArray → List (S33) → List ByteArray → Option (ByteArray)
 | 0, _, _, _, _, _, _, _, _ => none
 | k + 1, x3, x4, x207000, x207001, x207002, x207003, x207004, x207005 => if x4 < (x207004.length : Int) then (if x4 > 0 then (if x3.size + 1 ≤ 9223372036854775807 then (spec_l7Put.j1 k (x3 ++ (⟨#[44]⟩ : ByteArray)) x4 x207000 x207001 x207002 x207003 x207004 x207005) else (none)) else (spec_l7Put.j1 k x3 x4 x207000 x207001 x207002 x207003 x207004 x207005)) else (if x207000 = 6 then (if 1 + x3.size ≤ 9223372036854775807 then (if ((⟨#[123]⟩ : ByteArray) ++ x3).size + 1 ≤ 9223372036854775807 then (some (((⟨#[123]⟩ : ByteArray) ++ x3) ++ (⟨#[125]⟩ : ByteArray))) else (none)) else (none)) else (if 1 + x3.size ≤ 9223372036854775807 then (if ((⟨#[91]⟩ : ByteArray) ++ x3).size + 1 ≤ 9223372036854775807 then (some (((⟨#[91]⟩ : ByteArray) ++ x3) ++ (⟨#[93]⟩ : ByteArray))) else (none)) else (none)))
def spec_l7Put.j1 : Nat → ByteArray → Int → Int → Int → Int → ByteArray → List (S33) → List ByteArray → Option (ByteArray)
 | 0, _, _, _, _, _, _, _, _ => none
 | k + 1, x3, x4, x207000, x207001, x207002, x207003, x207004, x207005 => if x207000 = 6 then (if 0 ≤ x4 then (if x4 < (x207005.length : Int) then ((spec_l7Quote.f k (rdOf ByteArray.empty x207005 x4)).bind fun t210 => (if x3.size + t210.size ≤ 9223372036854775807 then (if (x3 ++ t210).size + 1 ≤ 9223372036854775807 then (if x4 < (x207004.length : Int) then ((spec_l7Put.f k ((rd_T33 x207004 x4).f0) ((rd_T33 x207004 x4).f1.f0) ((rd_T33 x207004 x4).f1.f1) ((rd_T33 x207004 x4).f2) ((rd_T33 x207004 x4).f3) ((rd_T33 x207004 x4).f4)).bind fun t212 => (if ((x3 ++ t210) ++ (⟨#[58]⟩ : ByteArray)).size + t212.size ≤ 9223372036854775807 then (spec_l7Put.l0 k (((x3 ++ t210) ++ (⟨#[58]⟩ : ByteArray)) ++ t212) (wrap64 (x4 + 1)) x207000 x207001 x207002 x207003 x207004 x207005) else (none))) else (none)) else (none)) else (none))) else (none)) else (none)) else (if 0 ≤ x4 then (if x4 < (x207004.length : Int) then ((spec_l7Put.f k ((rd_T33 x207004 x4).f0) ((rd_T33 x207004 x4).f1.f0) ((rd_T33 x207004 x4).f1.f1) ((rd_T33 x207004 x4).f2) ((rd_T33 x207004 x4).f3) ((rd_T33 x207004 x4).f4)).bind fun t214 => (if x3.size + t214.size ≤ 9223372036854775807 then (spec_l7Put.l0 k (x3 ++ t214) (wrap64 (x4 + 1)) x207000 x207001 x207002 x207003 x207004 x207005) else (none))) else (none)) else (none))
def spec_l7Put.f : Nat → Int → Int → Int → ByteArray → List (S33) → List ByteArray → Option (ByteArray)
 | 0, _, _, _, _, _, _ => none
 | k + 1, a0_0, a0_1, a0_2, a0_3, l0_4, l0_5 => if a0_0 = 0 then (some (⟨#[110, 117, 108, 108]⟩ : ByteArray)) else (if a0_0 = 1 then (some (⟨#[116, 114, 117, 101]⟩ : ByteArray)) else (if a0_0 = 2 then (some (⟨#[102, 97, 108, 115, 101]⟩ : ByteArray)) else (if a0_0 = 3 then ((spec_l1Text.f k a0_1 a0_2).bind fun t207 => (some t207)) else (if a0_0 = 4 then ((spec_l7Quote.f k a0_3).bind fun t208 => (some t208)) else (spec_l7Put.l0 k (⟨#[]⟩ : ByteArray) 0 a0_0 a0_1 a0_2 a0_3 l0_4 l0_5)))))
end
theorem spec_l7Put.mono_l : ∀ k, (∀ y0 y1 y2 y3 y4 y5, LeO (spec_l7Put.f k y0 y1 y2 y3 y4 y5) (spec_l7Put.f (k + 1) y0 y1 y2 y3 y4 y5)) ∧ (∀ y0 y1 y2 y3 y4 y5 y6 y7, LeO (spec_l7Put.l0 k y0 y1 y2 y3 y4 y5 y6 y7) (spec_l7Put.l0 (k + 1) y0 y1 y2 y3 y4 y5 y6 y7)) ∧ (∀ y0 y1 y2 y3 y4 y5 y6 y7, LeO (spec_l7Put.j1 k y0 y1 y2 y3 y4 y5 y6 y7) (spec_l7Put.j1 (k + 1) y0 y1 y2 y3 y4 y5 y6 y7))
 | 0 => ⟨fun _ _ _ _ _ _ r h => by simp [spec_l7Put.f] at h, fun _ _ _ _ _ _ _ _ r h => by simp [spec_l7Put.l0] at h, fun _ _ _ _ _ _ _ _ r h => by simp [spec_l7Put.j1] at h⟩
 | k + 1 => by
  obtain ⟨ih0, ih1, ih2⟩ := spec_l7Put.mono_l k
  refine ⟨?_, ?_, ?_⟩
  ·intro y0 y1 y2 y3 y4 y5
   unfold spec_l7Put.f
   repeat' first
   | (with_reducible exact ih0 _ _ _ _ _ _)
   | (with_reducible exact ih1 _ _ _ _ _ _ _ _)
   | (with_reducible exact ih2 _ _ _ _ _ _ _ _)
   | (with_reducible exact spec_l1Text.mono _ _ _)
   | (with_reducible exact spec_l7Quote.mono _ _)
   | (with_reducible exact LeO.refl _)
   | (with_reducible exact LeO.none _)
   | (with_reducible refine LeO.ite ?_ ?_)
   | (with_reducible refine LeO.bind ?_ (fun _ => ?_))
   | exact ih0 _ _ _ _ _ _
   | exact ih1 _ _ _ _ _ _ _ _
   | exact ih2 _ _ _ _ _ _ _ _
  ·intro y0 y1 y2 y3 y4 y5 y6 y7
   unfold spec_l7Put.l0
   repeat' first
   | (with_reducible exact ih0 _ _ _ _ _ _)
   | (with_reducible exact ih1 _ _ _ _ _ _ _ _)
   | (with_reducible exact ih2 _ _ _ _ _ _ _ _)
   | (with_reducible exact spec_l1Text.mono _ _ _)
   | (with_reducible exact spec_l7Quote.mono _ _)
   | (with_reducible exact LeO.refl _)
   | (with_reducible exact LeO.none _)
   | (with_reducible refine LeO.ite ?_ ?_)
   | (with_reducible refine LeO.bind ?_ (fun _ => ?_))
   | exact ih0 _ _ _ _ _ _
   | exact ih1 _ _ _ _ _ _ _ _
   | exact ih2 _ _ _ _ _ _ _ _
  ·intro y0 y1 y2 y3 y4 y5 y6 y7
   unfold spec_l7Put.j1
   repeat' first
   | (with_reducible exact ih0 _ _ _ _ _ _)
   | (with_reducible exact ih1 _ _ _ _ _ _ _ _)
   | (with_reducible exact ih2 _ _ _ _ _ _ _ _)
   | (with_reducible exact spec_l1Text.mono _ _ _)
   | (with_reducible exact spec_l7Quote.mono _ _)
   | (with_reducible exact LeO.refl _)
   | (with_reducible exact LeO.none _)
   | (with_reducible refine LeO.ite ?_ ?_)
   | (with_reducible refine LeO.bind ?_ (fun _ => ?_))
   | exact ih0 _ _ _ _ _ _
   | exact ih1 _ _ _ _ _ _ _ _
   | exact ih2 _ _ _ _ _ _ _ _
theorem spec_l7Put.mono : ∀ a0 a1 a2 a3 a4 a5 k, LeO (spec_l7Put.f k a0 a1 a2 a3 a4 a5) (spec_l7Put.f (k + 1) a0 a1 a2 a3 a4 a5) := by
 intro a0 a1 a2 a3 a4 a5 k
 obtain ⟨ih0, ih1, ih2⟩ := spec_l7Put.mono_l k
 exact ih0 a0 a1 a2 a3 a4 a5
set_option maxHeartbeats 8000000 in
set_option maxRecDepth 100000 in
theorem spec_l7Put.calls (k : Nat) : ∀ (a0_0 : Int) (a0_1 : Int) (a0_2 : Int) (a0_3 : ByteArray) (A0_4 : Option Addr) (c0_4 : Nat) (l0_4 : List (S33)) (A0_5 : Option Addr) (c0_5 : Nat) (l0_5 : List ByteArray) (r : ByteArray) (w : World) (hr0_4 : Kd.C k33 w A0_4 l0_4.length l0_4) (hc0_4 : l0_4.length ≤ c0_4) (hr0_5 : Kd.C Kd.string w A0_5 l0_5.length l0_5) (hc0_5 : l0_5.length ≤ c0_5) (h : spec_l7Put.f k a0_0 a0_1 a0_2 a0_3 l0_4 l0_5 = some r),
  Calls Tryd.prog 24 #[.agg #[.int .i64 a0_0, .int .i64 a0_1, .int .i64 a0_2, .string a0_3, .slice A0_4 l0_4.length c0_4, .slice A0_5 l0_5.length c0_5]] w fun e w' => e = .returned (.string r) ∧ Below w.heap.size w w' := by
 induction k using Nat.strongRecOn with
 | _ k ih =>
 intro a0_0 a0_1 a0_2 a0_3 A0_4 c0_4 l0_4 A0_5 c0_5 l0_5 r w hr0_4 hc0_4 hr0_5 hc0_5 h
 cases k with
 | zero => exact absurd h (by simp [spec_l7Put.f])
 | succ k =>
 simp only [spec_l7Put.f] at h
 have hu33 := Tryd.underlying33
 have hu30 := Tryd.underlying30
 have HR0_4 := zA hr0_4
 have HC0_4 := zA hc0_4
 clear hr0_4 hc0_4
 have HR0_5 := zA hr0_5
 have HC0_5 := zA hc0_5
 clear hr0_5 hc0_5
 have HB := zA (yJ w.heap.size w)
 have H : (if a0_0 = 0 then (some (⟨#[110, 117, 108, 108]⟩ : ByteArray)) else (if a0_0 = 1 then (some (⟨#[116, 114, 117, 101]⟩ : ByteArray)) else (if a0_0 = 2 then (some (⟨#[102, 97, 108, 115, 101]⟩ : ByteArray)) else (if a0_0 = 3 then ((spec_l1Text.f k a0_1 a0_2).bind fun t207 => (some t207)) else (if a0_0 = 4 then ((spec_l7Quote.f k a0_3).bind fun t208 => (some t208)) else (spec_l7Put.l0 k (⟨#[]⟩ : ByteArray) 0 a0_0 a0_1 a0_2 a0_3 l0_4 l0_5)))))) = some r := h
 clear h
 by_cases c2 : a0_0 = 0
 ·rw [if_pos c2] at H
  have c2b0 : (a0_0 == 0) = true := beq_iff_eq.mpr c2
  have c2b1 : (a0_0 != 0) = false := bne_eq_false_iff_eq.mpr c2
  clear c2
  obtain rfl := yH H
  go_enter Tryd.func24, Tryd.ntmps24
  go_wp2_with (first | ((with_reducible refine zT (N := 1) rfl ?_); refine zX ?hg (N := 1) ?hd (cs := #[.int .i64 a0_0, .int .i64 a0_1, .int .i64 a0_2, .string a0_3, .slice A0_4 l0_4.length c0_4, .slice A0_5 l0_5.length c0_5]) (t := 33) ?hr ?_; (case hd => rfl); (case hg => rfl); (case hr => first | (go_simp; done) | (go_simp; rfl)); intro gb206 hg w3 hbox hb; have n0_ := zA (zQ apA hb); have n1_ := zA (hbox); have n2_ := zA ((by rw [hg]; exact (zR apA) : w.heap.size ≤ gb206)); have n3_ := zA ((by rw [hg]; exact (zR apA) : w.heap.size ≤ gb206)); clear HB; have HB := n0_; have BK206 := n1_; have GW206 := n2_; have GE206 := n3_; clear n0_ n1_ n2_ n3_; clear hb hbox hg; have hcz4_0 : w3.cell? ⟨gb206, 0, none⟩ = some (.int .i64 a0_0) := (zJ BK206.out 0).trans rfl; have hcz4_1 : w3.cell? ⟨gb206, 1, none⟩ = some (.int .i64 a0_1) := (zJ BK206.out 1).trans rfl; have hcz4_2 : w3.cell? ⟨gb206, 2, none⟩ = some (.int .i64 a0_2) := (zJ BK206.out 2).trans rfl; have hcz4_3 : w3.cell? ⟨gb206, 3, none⟩ = some (.string a0_3) := (zJ BK206.out 3).trans rfl; have hcz4_4 : w3.cell? ⟨gb206, 4, none⟩ = some (.slice A0_4 l0_4.length c0_4) := (zJ BK206.out 4).trans rfl; have hcz4_5 : w3.cell? ⟨gb206, 5, none⟩ = some (.slice A0_5 l0_5.length c0_5) := (zJ BK206.out 5).trans rfl; have hfz4_0 := zK BK206.out 0; have hfz4_1 := zK BK206.out 1; have hfz4_2 := zK BK206.out 2; have hfz4_3 := zK BK206.out 3; have hfz4_4 := zK BK206.out 4; have hfz4_5 := zK BK206.out 5))
  go_ret
  exact ⟨apD, apQ⟩
 ·rw [if_neg c2] at H
  have c2b0 : (a0_0 == 0) = false := beq_eq_false_iff_ne.mpr c2
  have c2b1 : (a0_0 != 0) = true := bne_iff_ne.mpr c2
  by_cases c5 : a0_0 = 1
  ·rw [if_pos c5] at H
   have c5b0 : (a0_0 == 1) = true := beq_iff_eq.mpr c5
   have c5b1 : (a0_0 != 1) = false := bne_eq_false_iff_eq.mpr c5
   clear c5
   obtain rfl := yH H
   go_enter Tryd.func24, Tryd.ntmps24
   go_wp2_with (first | ((with_reducible refine zT (N := 1) rfl ?_); refine zX ?hg (N := 1) ?hd (cs := #[.int .i64 a0_0, .int .i64 a0_1, .int .i64 a0_2, .string a0_3, .slice A0_4 l0_4.length c0_4, .slice A0_5 l0_5.length c0_5]) (t := 33) ?hr ?_; (case hd => rfl); (case hg => rfl); (case hr => first | (go_simp; done) | (go_simp; rfl)); intro gb206 hg w6 hbox hb; have n0_ := zA (zQ apA hb); have n1_ := zA (hbox); have n2_ := zA ((by rw [hg]; exact (zR apA) : w.heap.size ≤ gb206)); have n3_ := zA ((by rw [hg]; exact (zR apA) : w.heap.size ≤ gb206)); clear HB; have HB := n0_; have BK206 := n1_; have GW206 := n2_; have GE206 := n3_; clear n0_ n1_ n2_ n3_; clear hb hbox hg; have hcz7_0 : w6.cell? ⟨gb206, 0, none⟩ = some (.int .i64 a0_0) := (zJ BK206.out 0).trans rfl; have hcz7_1 : w6.cell? ⟨gb206, 1, none⟩ = some (.int .i64 a0_1) := (zJ BK206.out 1).trans rfl; have hcz7_2 : w6.cell? ⟨gb206, 2, none⟩ = some (.int .i64 a0_2) := (zJ BK206.out 2).trans rfl; have hcz7_3 : w6.cell? ⟨gb206, 3, none⟩ = some (.string a0_3) := (zJ BK206.out 3).trans rfl; have hcz7_4 : w6.cell? ⟨gb206, 4, none⟩ = some (.slice A0_4 l0_4.length c0_4) := (zJ BK206.out 4).trans rfl; have hcz7_5 : w6.cell? ⟨gb206, 5, none⟩ = some (.slice A0_5 l0_5.length c0_5) := (zJ BK206.out 5).trans rfl; have hfz7_0 := zK BK206.out 0; have hfz7_1 := zK BK206.out 1; have hfz7_2 := zK BK206.out 2; have hfz7_3 := zK BK206.out 3; have hfz7_4 := zK BK206.out 4; have hfz7_5 := zK BK206.out 5))
   go_ret
   exact ⟨apD, apQ⟩
  ·rw [if_neg c5] at H
   have c5b0 : (a0_0 == 1) = false := beq_eq_false_iff_ne.mpr c5
   have c5b1 : (a0_0 != 1) = true := bne_iff_ne.mpr c5
   by_cases c8 : a0_0 = 2
   ·rw [if_pos c8] at H
    have c8b0 : (a0_0 == 2) = true := beq_iff_eq.mpr c8
    have c8b1 : (a0_0 != 2) = false := bne_eq_false_iff_eq.mpr c8
    clear c8
    obtain rfl := yH H
    go_enter Tryd.func24, Tryd.ntmps24
    go_wp2_with (first | ((with_reducible refine zT (N := 1) rfl ?_); refine zX ?hg (N := 1) ?hd (cs := #[.int .i64 a0_0, .int .i64 a0_1, .int .i64 a0_2, .string a0_3, .slice A0_4 l0_4.length c0_4, .slice A0_5 l0_5.length c0_5]) (t := 33) ?hr ?_; (case hd => rfl); (case hg => rfl); (case hr => first | (go_simp; done) | (go_simp; rfl)); intro gb206 hg w9 hbox hb; have n0_ := zA (zQ apA hb); have n1_ := zA (hbox); have n2_ := zA ((by rw [hg]; exact (zR apA) : w.heap.size ≤ gb206)); have n3_ := zA ((by rw [hg]; exact (zR apA) : w.heap.size ≤ gb206)); clear HB; have HB := n0_; have BK206 := n1_; have GW206 := n2_; have GE206 := n3_; clear n0_ n1_ n2_ n3_; clear hb hbox hg; have hcz10_0 : w9.cell? ⟨gb206, 0, none⟩ = some (.int .i64 a0_0) := (zJ BK206.out 0).trans rfl; have hcz10_1 : w9.cell? ⟨gb206, 1, none⟩ = some (.int .i64 a0_1) := (zJ BK206.out 1).trans rfl; have hcz10_2 : w9.cell? ⟨gb206, 2, none⟩ = some (.int .i64 a0_2) := (zJ BK206.out 2).trans rfl; have hcz10_3 : w9.cell? ⟨gb206, 3, none⟩ = some (.string a0_3) := (zJ BK206.out 3).trans rfl; have hcz10_4 : w9.cell? ⟨gb206, 4, none⟩ = some (.slice A0_4 l0_4.length c0_4) := (zJ BK206.out 4).trans rfl; have hcz10_5 : w9.cell? ⟨gb206, 5, none⟩ = some (.slice A0_5 l0_5.length c0_5) := (zJ BK206.out 5).trans rfl; have hfz10_0 := zK BK206.out 0; have hfz10_1 := zK BK206.out 1; have hfz10_2 := zK BK206.out 2; have hfz10_3 := zK BK206.out 3; have hfz10_4 := zK BK206.out 4; have hfz10_5 := zK BK206.out 5))
    go_ret
    exact ⟨apD, apQ⟩
   ·rw [if_neg c8] at H
    have c8b0 : (a0_0 == 2) = false := beq_eq_false_iff_ne.mpr c8
    have c8b1 : (a0_0 != 2) = true := bne_iff_ne.mpr c8
    by_cases c11 : a0_0 = 3
    ·rw [if_pos c11] at H
     have c11b0 : (a0_0 == 3) = true := beq_iff_eq.mpr c11
     have c11b1 : (a0_0 != 3) = false := bne_eq_false_iff_eq.mpr c11
     clear c11
     replace H := Option.bind_eq_some_iff.mp H
     obtain ⟨t207, A120, H⟩ := H
     replace H : (some t207) = some r := H
     have A12 := zA A120
     clear A120
     obtain rfl := yH H
     go_enter Tryd.func24, Tryd.ntmps24
     go_wp2_with (first | ((with_reducible refine zT (N := 1) rfl ?_); refine zX ?hg (N := 1) ?hd (cs := #[.int .i64 a0_0, .int .i64 a0_1, .int .i64 a0_2, .string a0_3, .slice A0_4 l0_4.length c0_4, .slice A0_5 l0_5.length c0_5]) (t := 33) ?hr ?_; (case hd => rfl); (case hg => rfl); (case hr => first | (go_simp; done) | (go_simp; rfl)); intro gb206 hg w13 hbox hb; have n0_ := zA (zQ apA hb); have n1_ := zA (hbox); have n2_ := zA ((by rw [hg]; exact (zR apA) : w.heap.size ≤ gb206)); have n3_ := zA ((by rw [hg]; exact (zR apA) : w.heap.size ≤ gb206)); clear HB; have HB := n0_; have BK206 := n1_; have GW206 := n2_; have GE206 := n3_; clear n0_ n1_ n2_ n3_; clear hb hbox hg; have hcz14_0 : w13.cell? ⟨gb206, 0, none⟩ = some (.int .i64 a0_0) := (zJ BK206.out 0).trans rfl; have hcz14_1 : w13.cell? ⟨gb206, 1, none⟩ = some (.int .i64 a0_1) := (zJ BK206.out 1).trans rfl; have hcz14_2 : w13.cell? ⟨gb206, 2, none⟩ = some (.int .i64 a0_2) := (zJ BK206.out 2).trans rfl; have hcz14_3 : w13.cell? ⟨gb206, 3, none⟩ = some (.string a0_3) := (zJ BK206.out 3).trans rfl; have hcz14_4 : w13.cell? ⟨gb206, 4, none⟩ = some (.slice A0_4 l0_4.length c0_4) := (zJ BK206.out 4).trans rfl; have hcz14_5 : w13.cell? ⟨gb206, 5, none⟩ = some (.slice A0_5 l0_5.length c0_5) := (zJ BK206.out 5).trans rfl; have hfz14_0 := zK BK206.out 0; have hfz14_1 := zK BK206.out 1; have hfz14_2 := zK BK206.out 2; have hfz14_3 := zK BK206.out 3; have hfz14_4 := zK BK206.out 4; have hfz14_5 := zK BK206.out 5) | ((with_reducible refine zV (f := 32) rfl ?_); refine goesL_ (some 17) rfl rfl Tryd.func32 (by kernel_rfl) rfl #[.agg #[.int .i64 a0_1, .int .i64 a0_2]] rfl apE ?_; (with_reducible refine (spec_l1Text.calls k a0_1 a0_2 t207 _ A12.out).mono ?_); rintro e w15 ⟨rfl, hb⟩; refine ⟨_, rfl, ?_⟩; have n0_ := zA (zQ apA hb); clear HB; have HB := n0_; clear n0_; (try clear hb); (try clear hb2); (try clear hk); (try clear hi)))
     go_ret
     exact ⟨apD, apA⟩
    ·rw [if_neg c11] at H
     have c11b0 : (a0_0 == 3) = false := beq_eq_false_iff_ne.mpr c11
     have c11b1 : (a0_0 != 3) = true := bne_iff_ne.mpr c11
     by_cases c16 : a0_0 = 4
     ·rw [if_pos c16] at H
      have c16b0 : (a0_0 == 4) = true := beq_iff_eq.mpr c16
      have c16b1 : (a0_0 != 4) = false := bne_eq_false_iff_eq.mpr c16
      clear c16
      replace H := Option.bind_eq_some_iff.mp H
      obtain ⟨t208, A170, H⟩ := H
      replace H : (some t208) = some r := H
      have A17 := zA A170
      clear A170
      obtain rfl := yH H
      go_enter Tryd.func24, Tryd.ntmps24
      go_wp2_with (first | ((with_reducible refine zT (N := 1) rfl ?_); refine zX ?hg (N := 1) ?hd (cs := #[.int .i64 a0_0, .int .i64 a0_1, .int .i64 a0_2, .string a0_3, .slice A0_4 l0_4.length c0_4, .slice A0_5 l0_5.length c0_5]) (t := 33) ?hr ?_; (case hd => rfl); (case hg => rfl); (case hr => first | (go_simp; done) | (go_simp; rfl)); intro gb206 hg w18 hbox hb; have n0_ := zA (zQ apA hb); have n1_ := zA (hbox); have n2_ := zA ((by rw [hg]; exact (zR apA) : w.heap.size ≤ gb206)); have n3_ := zA ((by rw [hg]; exact (zR apA) : w.heap.size ≤ gb206)); clear HB; have HB := n0_; have BK206 := n1_; have GW206 := n2_; have GE206 := n3_; clear n0_ n1_ n2_ n3_; clear hb hbox hg; have hcz19_0 : w18.cell? ⟨gb206, 0, none⟩ = some (.int .i64 a0_0) := (zJ BK206.out 0).trans rfl; have hcz19_1 : w18.cell? ⟨gb206, 1, none⟩ = some (.int .i64 a0_1) := (zJ BK206.out 1).trans rfl; have hcz19_2 : w18.cell? ⟨gb206, 2, none⟩ = some (.int .i64 a0_2) := (zJ BK206.out 2).trans rfl; have hcz19_3 : w18.cell? ⟨gb206, 3, none⟩ = some (.string a0_3) := (zJ BK206.out 3).trans rfl; have hcz19_4 : w18.cell? ⟨gb206, 4, none⟩ = some (.slice A0_4 l0_4.length c0_4) := (zJ BK206.out 4).trans rfl; have hcz19_5 : w18.cell? ⟨gb206, 5, none⟩ = some (.slice A0_5 l0_5.length c0_5) := (zJ BK206.out 5).trans rfl; have hfz19_0 := zK BK206.out 0; have hfz19_1 := zK BK206.out 1; have hfz19_2 := zK BK206.out 2; have hfz19_3 := zK BK206.out 3; have hfz19_4 := zK BK206.out 4; have hfz19_5 := zK BK206.out 5) | ((with_reducible refine zV (f := 25) rfl ?_); refine goesL_ (some 22) rfl rfl Tryd.func25 (by kernel_rfl) rfl #[.string a0_3] rfl apE ?_; (with_reducible refine (spec_l7Quote.calls k a0_3 t208 _ A17.out).mono ?_); rintro e w20 ⟨rfl, hb⟩; refine ⟨_, rfl, ?_⟩; have n0_ := zA (zQ apA hb); clear HB; have HB := n0_; clear n0_; (try clear hb); (try clear hb2); (try clear hk); (try clear hi)))
      go_ret
      exact ⟨apD, apA⟩
     ·rw [if_neg c16] at H
      have c16b0 : (a0_0 == 4) = false := beq_eq_false_iff_ne.mpr c16
      have c16b1 : (a0_0 != 4) = true := bne_iff_ne.mpr c16
      have H' := zA H
      clear H
      go_enter Tryd.func24, Tryd.ntmps24
      go_wp2_with (first | ((with_reducible refine zT (N := 1) rfl ?_); refine zX ?hg (N := 1) ?hd (cs := #[.int .i64 a0_0, .int .i64 a0_1, .int .i64 a0_2, .string a0_3, .slice A0_4 l0_4.length c0_4, .slice A0_5 l0_5.length c0_5]) (t := 33) ?hr ?_; (case hd => rfl); (case hg => rfl); (case hr => first | (go_simp; done) | (go_simp; rfl)); intro gb206 hg w21 hbox hb; have n0_ := zA (zQ apA hb); have n1_ := zA (hbox); have n2_ := zA ((by rw [hg]; exact (zR apA) : w.heap.size ≤ gb206)); have n3_ := zA ((by rw [hg]; exact (zR apA) : w.heap.size ≤ gb206)); clear HB; have HB := n0_; have BK206 := n1_; have GW206 := n2_; have GE206 := n3_; clear n0_ n1_ n2_ n3_; clear hb hbox hg; have hcz22_0 : w21.cell? ⟨gb206, 0, none⟩ = some (.int .i64 a0_0) := (zJ BK206.out 0).trans rfl; have hcz22_1 : w21.cell? ⟨gb206, 1, none⟩ = some (.int .i64 a0_1) := (zJ BK206.out 1).trans rfl; have hcz22_2 : w21.cell? ⟨gb206, 2, none⟩ = some (.int .i64 a0_2) := (zJ BK206.out 2).trans rfl; have hcz22_3 : w21.cell? ⟨gb206, 3, none⟩ = some (.string a0_3) := (zJ BK206.out 3).trans rfl; have hcz22_4 : w21.cell? ⟨gb206, 4, none⟩ = some (.slice A0_4 l0_4.length c0_4) := (zJ BK206.out 4).trans rfl; have hcz22_5 : w21.cell? ⟨gb206, 5, none⟩ = some (.slice A0_5 l0_5.length c0_5) := (zJ BK206.out 5).trans rfl; have hfz22_0 := zK BK206.out 0; have hfz22_1 := zK BK206.out 1; have hfz22_2 := zK BK206.out 2; have hfz22_3 := zK BK206.out 3; have hfz22_4 := zK BK206.out 4; have hfz22_5 := zK BK206.out 5))
      go_loopg [3, 4] k (fun kq v3 v4 w' => ∃ (x3_1 : ByteArray) (x4_1 : Int), v3 = .string x3_1 ∧ v4 = .int .i64 x4_1 ∧ Aside0 (spec_l7Put.l0 kq x3_1 x4_1 a0_0 a0_1 a0_2 a0_3 l0_4 l0_5 = some r) ∧ Aside0 (kq ≤ k) ∧ Aside0 (w'.heap[gb206]? = some (.cells #[.int .i64 a0_0, .int .i64 a0_1, .int .i64 a0_2, .string a0_3, (.slice A0_4 l0_4.length c0_4), (.slice A0_5 l0_5.length c0_5)] 33 (0, 0))) ∧ Aside0 (Below w.heap.size w w'))
      case atStart => exact ⟨((⟨#[]⟩ : ByteArray)), (0), apB, apB, H', ⟨yK _⟩, ⟨by (with_reducible repeat (first | refine zB ?_ _ | refine zD ?_ | refine zC ?_ _)); exact BK206.out⟩, ⟨apQ⟩⟩
      case round =>
       clear H'
       try clear c1
       try clear c2
       try clear c2b0
       try clear c2b1
       try clear p2
       try clear c3
       try clear c5
       try clear c5b0
       try clear c5b1
       try clear c8
       try clear c8b0
       try clear c8b1
       try clear c11
       try clear c11b0
       try clear c11b1
       try clear c16
       try clear c16b0
       try clear c16b1
       try clear hcz10_0
       try clear hcz10_1
       try clear hcz10_2
       try clear hcz10_3
       try clear hcz10_4
       try clear hcz10_5
       try clear hcz14_0
       try clear hcz14_1
       try clear hcz14_2
       try clear hcz14_3
       try clear hcz14_4
       try clear hcz14_5
       try clear hcz19_0
       try clear hcz19_1
       try clear hcz19_2
       try clear hcz19_3
       try clear hcz19_4
       try clear hcz19_5
       try clear hcz22_0
       try clear hcz22_1
       try clear hcz22_2
       try clear hcz22_3
       try clear hcz22_4
       try clear hcz22_5
       try clear hcz4_0
       try clear hcz4_1
       try clear hcz4_2
       try clear hcz4_3
       try clear hcz4_4
       try clear hcz4_5
       try clear hcz7_0
       try clear hcz7_1
       try clear hcz7_2
       try clear hcz7_3
       try clear hcz7_4
       try clear hcz7_5
       try clear hfz10_0
       try clear hfz10_1
       try clear hfz10_2
       try clear hfz10_3
       try clear hfz10_4
       try clear hfz10_5
       try clear hfz14_0
       try clear hfz14_1
       try clear hfz14_2
       try clear hfz14_3
       try clear hfz14_4
       try clear hfz14_5
       try clear hfz19_0
       try clear hfz19_1
       try clear hfz19_2
       try clear hfz19_3
       try clear hfz19_4
       try clear hfz19_5
       try clear hfz22_0
       try clear hfz22_1
       try clear hfz22_2
       try clear hfz22_3
       try clear hfz22_4
       try clear hfz22_5
       try clear hfz4_0
       try clear hfz4_1
       try clear hfz4_2
       try clear hfz4_3
       try clear hfz4_4
       try clear hfz4_5
       try clear hfz7_0
       try clear hfz7_1
       try clear hfz7_2
       try clear hfz7_3
       try clear hfz7_4
       try clear hfz7_5
       obtain ⟨x3_1, x4_1, rfl, rfl, HA, HK1, BK206, HB⟩ := hrel
       cases gk with
       | zero => exact absurd HA.out (by simp [spec_l7Put.l0])
       | succ k1 =>
        have H := HA.out
        clear HA
        simp only [spec_l7Put.l0] at H
        by_cases c23 : x4_1 < (l0_4.length : Int)
        ·rw [if_pos c23] at H
         have c23b0 : decide (x4_1 < (l0_4.length : Int)) = true := yF c23
         clear c23
         have HC24 := zA H
         clear H
         have hcz25_0 : wr.cell? ⟨gb206, 0, none⟩ = some (.int .i64 a0_0) := (zJ BK206.out 0).trans rfl
         have hcz25_1 : wr.cell? ⟨gb206, 1, none⟩ = some (.int .i64 a0_1) := (zJ BK206.out 1).trans rfl
         have hcz25_2 : wr.cell? ⟨gb206, 2, none⟩ = some (.int .i64 a0_2) := (zJ BK206.out 2).trans rfl
         have hcz25_3 : wr.cell? ⟨gb206, 3, none⟩ = some (.string a0_3) := (zJ BK206.out 3).trans rfl
         have hcz25_4 : wr.cell? ⟨gb206, 4, none⟩ = some (.slice A0_4 l0_4.length c0_4) := (zJ BK206.out 4).trans rfl
         have hcz25_5 : wr.cell? ⟨gb206, 5, none⟩ = some (.slice A0_5 l0_5.length c0_5) := (zJ BK206.out 5).trans rfl
         have hfz25_0 := zK BK206.out 0
         have hfz25_1 := zK BK206.out 1
         have hfz25_2 := zK BK206.out 2
         have hfz25_3 := zK BK206.out 3
         have hfz25_4 := zK BK206.out 4
         have hfz25_5 := zK BK206.out 5
         go_upto_if 31 with (fail)
         go_cut [3] (fun v3 wc => ∃ (kq : Nat) (x3_23 : ByteArray), v3 = .string x3_23 ∧ Aside0 (spec_l7Put.j1 kq x3_23 x4_1 a0_0 a0_1 a0_2 a0_3 l0_4 l0_5 = some r) ∧ Aside0 (kq ≤ k1) ∧ Aside0 (wc.heap[gb206]? = some (.cells #[.int .i64 a0_0, .int .i64 a0_1, .int .i64 a0_2, .string a0_3, (.slice A0_4 l0_4.length c0_4), (.slice A0_5 l0_5.length c0_5)] 33 (0, 0))) ∧ Aside0 (Below w.heap.size w wc))
         case first =>
          have H := HC24.out
          clear HC24
          by_cases c26 : x4_1 > 0
          ·rw [if_pos c26] at H
           have c26b0 : decide (0 < x4_1) = true := yF c26
           clear c26
           (first | rw [c26b0] | (simp only [i64_w, i32_w]; rw [c26b0]) | skip)
           by_cases c27 : x3_1.size + 1 ≤ 9223372036854775807
           ·rw [if_pos c27] at H
            have c27b0 := eq_true c27
            have c27b1 : decide (x3_1.size + 1 ≤ 9223372036854775807) = true := yF c27
            try have c27b2 : (9223372036854775807 < x3_1.size + 1) = False := eq_false (Nat.not_lt.2 c27)
            have H' := zA H
            clear H
            go_wp2
            go_meet
            case rel => exact ⟨_, (x3_1 ++ (⟨#[44]⟩ : ByteArray)), apB, H', ⟨by have := HK1.out; first | omega | exact yK _⟩, ⟨by (with_reducible repeat (first | refine zB ?_ _ | refine zD ?_ | refine zC ?_ _)); exact BK206.out⟩, ⟨apQ⟩⟩
           ·rw [if_neg c27] at H
            exact absurd H (by simp)
          ·rw [if_neg c26] at H
           have c26b0 : decide (0 < x4_1) = false := decide_eq_false c26
           clear c26
           (first | rw [c26b0] | (simp only [i64_w, i32_w]; rw [c26b0]) | skip)
           have H' := zA H
           clear H
           go_wp2
           go_meet
           case rel => exact ⟨_, (x3_1), apB, H', ⟨by have := HK1.out; first | omega | exact yK _⟩, ⟨by (with_reducible repeat (first | refine zB ?_ _ | refine zD ?_ | refine zC ?_ _)); exact BK206.out⟩, ⟨apQ⟩⟩
         case rest =>
          clear HC24
          try clear c1
          try clear c2
          try clear c2b0
          try clear c2b1
          try clear p2
          try clear c3
          try clear c5
          try clear c5b0
          try clear c5b1
          try clear c8
          try clear c8b0
          try clear c8b1
          try clear c11
          try clear c11b0
          try clear c11b1
          try clear c16
          try clear c16b0
          try clear c16b1
          try clear c23
          try clear c23b0
          try clear c24
          try clear c25
          try clear c26
          try clear c26b0
          try clear c27
          try clear c27b0
          try clear c27b1
          try clear c27b2
          try clear hcz10_0
          try clear hcz10_1
          try clear hcz10_2
          try clear hcz10_3
          try clear hcz10_4
          try clear hcz10_5
          try clear hcz14_0
          try clear hcz14_1
          try clear hcz14_2
          try clear hcz14_3
          try clear hcz14_4
          try clear hcz14_5
          try clear hcz19_0
          try clear hcz19_1
          try clear hcz19_2
          try clear hcz19_3
          try clear hcz19_4
          try clear hcz19_5
          try clear hcz22_0
          try clear hcz22_1
          try clear hcz22_2
          try clear hcz22_3
          try clear hcz22_4
          try clear hcz22_5
          try clear hcz25_0
          try clear hcz25_1
          try clear hcz25_2
          try clear hcz25_3
          try clear hcz25_4
          try clear hcz25_5
          try clear hcz4_0
          try clear hcz4_1
          try clear hcz4_2
          try clear hcz4_3
          try clear hcz4_4
          try clear hcz4_5
          try clear hcz7_0
          try clear hcz7_1
          try clear hcz7_2
          try clear hcz7_3
          try clear hcz7_4
          try clear hcz7_5
          try clear hfz10_0
          try clear hfz10_1
          try clear hfz10_2
          try clear hfz10_3
          try clear hfz10_4
          try clear hfz10_5
          try clear hfz14_0
          try clear hfz14_1
          try clear hfz14_2
          try clear hfz14_3
          try clear hfz14_4
          try clear hfz14_5
          try clear hfz19_0
          try clear hfz19_1
          try clear hfz19_2
          try clear hfz19_3
          try clear hfz19_4
          try clear hfz19_5
          try clear hfz22_0
          try clear hfz22_1
          try clear hfz22_2
          try clear hfz22_3
          try clear hfz22_4
          try clear hfz22_5
          try clear hfz25_0
          try clear hfz25_1
          try clear hfz25_2
          try clear hfz25_3
          try clear hfz25_4
          try clear hfz25_5
          try clear hfz4_0
          try clear hfz4_1
          try clear hfz4_2
          try clear hfz4_3
          try clear hfz4_4
          try clear hfz4_5
          try clear hfz7_0
          try clear hfz7_1
          try clear hfz7_2
          try clear hfz7_3
          try clear hfz7_4
          try clear hfz7_5
          try clear p2
          obtain ⟨kq, x3_23, rfl, HA, HJ23, BK206, HB⟩ := hcut
          cases kq with
          | zero => exact absurd HA.out (by simp [spec_l7Put.j1])
          | succ kj23 =>
           have H := HA.out
           clear HA
           simp only [spec_l7Put.j1] at H
           by_cases c28 : a0_0 = 6
           ·rw [if_pos c28] at H
            have c28b0 : (a0_0 == 6) = true := beq_iff_eq.mpr c28
            have c28b1 : (a0_0 != 6) = false := bne_eq_false_iff_eq.mpr c28
            clear c28
            by_cases c29 : 0 ≤ x4_1
            ·rw [if_pos c29] at H
             have c29b0 : decide (0 ≤ x4_1) = true := yF c29
             clear c29
             by_cases c30 : x4_1 < (l0_5.length : Int)
             ·rw [if_pos c30] at H
              have c30b0 : decide (x4_1 < (l0_5.length : Int)) = true := yF c30
              clear c30
              replace H := Option.bind_eq_some_iff.mp H
              obtain ⟨t210, A310, H⟩ := H
              replace H : (if x3_23.size + t210.size ≤ 9223372036854775807 then (if (x3_23 ++ t210).size + 1 ≤ 9223372036854775807 then (if x4_1 < (l0_4.length : Int) then ((spec_l7Put.f kj23 ((rd_T33 l0_4 x4_1).f0) ((rd_T33 l0_4 x4_1).f1.f0) ((rd_T33 l0_4 x4_1).f1.f1) ((rd_T33 l0_4 x4_1).f2) ((rd_T33 l0_4 x4_1).f3) ((rd_T33 l0_4 x4_1).f4)).bind fun t212 => (if ((x3_23 ++ t210) ++ (⟨#[58]⟩ : ByteArray)).size + t212.size ≤ 9223372036854775807 then (spec_l7Put.l0 kj23 (((x3_23 ++ t210) ++ (⟨#[58]⟩ : ByteArray)) ++ t212) (wrap64 (x4_1 + 1)) a0_0 a0_1 a0_2 a0_3 l0_4 l0_5) else (none))) else (none)) else (none)) else (none)) = some r := H
              have A31 := zA A310
              clear A310
              by_cases c32 : x3_23.size + t210.size ≤ 9223372036854775807
              ·rw [if_pos c32] at H
               have c32b0 := eq_true c32
               have c32b1 : decide (x3_23.size + t210.size ≤ 9223372036854775807) = true := yF c32
               try have c32b2 : (9223372036854775807 < x3_23.size + t210.size) = False := eq_false (Nat.not_lt.2 c32)
               by_cases c33 : (x3_23 ++ t210).size + 1 ≤ 9223372036854775807
               ·rw [if_pos c33] at H
                have c33b0 := eq_true c33
                have c33b1 : decide ((x3_23 ++ t210).size + 1 ≤ 9223372036854775807) = true := yF c33
                try have c33b2 : (9223372036854775807 < (x3_23 ++ t210).size + 1) = False := eq_false (Nat.not_lt.2 c33)
                try simp only [ByteArray.size_append] at c33b2
                by_cases c34 : x4_1 < (l0_4.length : Int)
                ·rw [if_pos c34] at H
                 have c34b0 : decide (x4_1 < (l0_4.length : Int)) = true := yF c34
                 clear c34
                 replace H := Option.bind_eq_some_iff.mp H
                 obtain ⟨t212, A350, H⟩ := H
                 replace H : (if ((x3_23 ++ t210) ++ (⟨#[58]⟩ : ByteArray)).size + t212.size ≤ 9223372036854775807 then (spec_l7Put.l0 kj23 (((x3_23 ++ t210) ++ (⟨#[58]⟩ : ByteArray)) ++ t212) (wrap64 (x4_1 + 1)) a0_0 a0_1 a0_2 a0_3 l0_4 l0_5) else (none)) = some r := H
                 have A35 := zA A350
                 clear A350
                 by_cases c36 : ((x3_23 ++ t210) ++ (⟨#[58]⟩ : ByteArray)).size + t212.size ≤ 9223372036854775807
                 ·rw [if_pos c36] at H
                  (try (have c36b9 := eq_true c36; simp only [ByteArray.size_append, Int.natCast_add, show ((⟨#[58]⟩ : ByteArray)).size = 1 from rfl] at c36b9))
                  (try (have c36b8 := eq_false (Nat.not_lt.2 c36); simp only [ByteArray.size_append, show ((⟨#[58]⟩ : ByteArray)).size = 1 from rfl] at c36b8))
                  have c36b0 := eq_true c36
                  have c36b1 : decide (((x3_23 ++ t210) ++ (⟨#[58]⟩ : ByteArray)).size + t212.size ≤ 9223372036854775807) = true := yF c36
                  try have c36b2 : (9223372036854775807 < ((x3_23 ++ t210) ++ (⟨#[58]⟩ : ByteArray)).size + t212.size) = False := eq_false (Nat.not_lt.2 c36)
                  try simp only [ByteArray.size_append] at c36b2
                  have H' := zA H
                  clear H
                  have hcz37_0 : wc.cell? ⟨gb206, 0, none⟩ = some (.int .i64 a0_0) := (zJ BK206.out 0).trans rfl
                  have hcz37_1 : wc.cell? ⟨gb206, 1, none⟩ = some (.int .i64 a0_1) := (zJ BK206.out 1).trans rfl
                  have hcz37_2 : wc.cell? ⟨gb206, 2, none⟩ = some (.int .i64 a0_2) := (zJ BK206.out 2).trans rfl
                  have hcz37_3 : wc.cell? ⟨gb206, 3, none⟩ = some (.string a0_3) := (zJ BK206.out 3).trans rfl
                  have hcz37_4 : wc.cell? ⟨gb206, 4, none⟩ = some (.slice A0_4 l0_4.length c0_4) := (zJ BK206.out 4).trans rfl
                  have hcz37_5 : wc.cell? ⟨gb206, 5, none⟩ = some (.slice A0_5 l0_5.length c0_5) := (zJ BK206.out 5).trans rfl
                  have hfz37_0 := zK BK206.out 0
                  have hfz37_1 := zK BK206.out 1
                  have hfz37_2 := zK BK206.out 2
                  have hfz37_3 := zK BK206.out 3
                  have hfz37_4 := zK BK206.out 4
                  have hfz37_5 := zK BK206.out 5
                  have p209 : 0 ≤ (x4_1 : Int) := yG apC
                  have q209 : x4_1 < (l0_5.length : Int) := yG apC
                  obtain ⟨ad209, e209, hx209_0⟩ := Kd.at_string HR0_5.out x4_1 p209 q209
                  cases e209
                  replace hx209_0 := (HB.out.cell (zS w _ hx209_0)).trans hx209_0
                  replace p209 := eq_true p209
                  replace q209 := eq_true q209
                  go_wp2_with (first | ((with_reducible refine zV (f := 25) rfl ?_); refine goesL_ (some 43) rfl rfl Tryd.func25 (by kernel_rfl) rfl #[.string (rdOf ByteArray.empty l0_5 x4_1)] rfl apE ?_; (with_reducible refine (spec_l7Quote.calls kj23 (rdOf ByteArray.empty l0_5 x4_1) t210 _ A31.out).mono ?_); rintro e w38 ⟨rfl, hb⟩; refine ⟨_, rfl, ?_⟩; have n0_ := zA (zP (g := gb206) (o := .cells #[.int .i64 a0_0, .int .i64 a0_1, .int .i64 a0_2, .string a0_3, .slice A0_4 l0_4.length c0_4, .slice (some ad209) l0_5.length c0_5] 33 (0, 0)) (by (with_reducible repeat (first | refine zB ?_ _ | refine zD ?_ | refine zC ?_ _)); exact BK206.out) hb); have n1_ := zA (zQ apQ hb); clear BK206; clear HB; have BK206 := n0_; have HB := n1_; clear n0_ n1_; (try clear hb); (try clear hb2); (try clear hk); (try clear hi); have hcz39_0 : w38.cell? ⟨gb206, 0, none⟩ = some (.int .i64 a0_0) := (zJ BK206.out 0).trans rfl; have hcz39_1 : w38.cell? ⟨gb206, 1, none⟩ = some (.int .i64 a0_1) := (zJ BK206.out 1).trans rfl; have hcz39_2 : w38.cell? ⟨gb206, 2, none⟩ = some (.int .i64 a0_2) := (zJ BK206.out 2).trans rfl; have hcz39_3 : w38.cell? ⟨gb206, 3, none⟩ = some (.string a0_3) := (zJ BK206.out 3).trans rfl; have hcz39_4 : w38.cell? ⟨gb206, 4, none⟩ = some (.slice A0_4 l0_4.length c0_4) := (zJ BK206.out 4).trans rfl; have hcz39_5 : w38.cell? ⟨gb206, 5, none⟩ = some (.slice (some ad209) l0_5.length c0_5) := (zJ BK206.out 5).trans rfl; have hfz39_0 := zK BK206.out 0; have hfz39_1 := zK BK206.out 1; have hfz39_2 := zK BK206.out 2; have hfz39_3 := zK BK206.out 3; have hfz39_4 := zK BK206.out 4; have hfz39_5 := zK BK206.out 5; have p211 : 0 ≤ (x4_1 : Int) := yG apC; have q211 : x4_1 < (l0_4.length : Int) := yG apC; obtain ⟨ad211, A211_4, c211_4, A211_5, c211_5, e211, hx211_0, hx211_1, hx211_2, hx211_3, hx211_4, hx211_5, hl211_4, hi211_4, hl211_5, hi211_5⟩ := at_T33 HR0_4.out x4_1 p211 q211; cases e211; replace hx211_0 := (HB.out.cell (zS w _ hx211_0)).trans hx211_0; replace hx211_1 := (HB.out.cell (zS w _ hx211_1)).trans hx211_1; replace hx211_2 := (HB.out.cell (zS w _ hx211_2)).trans hx211_2; replace hx211_3 := (HB.out.cell (zS w _ hx211_3)).trans hx211_3; replace hx211_4 := (HB.out.cell (zS w _ hx211_4)).trans hx211_4; replace hx211_5 := (HB.out.cell (zS w _ hx211_5)).trans hx211_5; have HR211_4 := zA hi211_4; have HC211_4 := zA hl211_4; clear hi211_4 hl211_4; have HR211_5 := zA hi211_5; have HC211_5 := zA hl211_5; clear hi211_5 hl211_5; replace p211 := eq_true p211; replace q211 := eq_true q211) | ((with_reducible refine zV (f := 24) rfl ?_); refine goesL_ (some 52) rfl rfl Tryd.func24 (by kernel_rfl) rfl #[.agg #[.int .i64 ((rd_T33 l0_4 x4_1).f0), .int .i64 ((rd_T33 l0_4 x4_1).f1.f0), .int .i64 ((rd_T33 l0_4 x4_1).f1.f1), .string ((rd_T33 l0_4 x4_1).f2), .slice A211_4 ((rd_T33 l0_4 x4_1).f3).length c211_4, .slice A211_5 ((rd_T33 l0_4 x4_1).f4).length c211_5]] rfl apE ?_; (with_reducible refine (ih kj23 (by have := HK1.out; have := HJ23.out; omega) ((rd_T33 l0_4 x4_1).f0) ((rd_T33 l0_4 x4_1).f1.f0) ((rd_T33 l0_4 x4_1).f1.f1) ((rd_T33 l0_4 x4_1).f2) _ _ ((rd_T33 l0_4 x4_1).f3) _ _ ((rd_T33 l0_4 x4_1).f4) t212 _ ?side1 ?side2 ?side3 ?side4 A35.out).mono ?_); (case side1 => repeat (first | exact (Kd.C_below HR211_4.out HB.out) | (with_reducible refine Kd.C_alloc ?_ _) | (with_reducible refine Kd.C_drewN ?_ _) | (with_reducible refine Kd.C_drew ?_))); (case side2 => exact HC211_4.out); (case side3 => repeat (first | exact (Kd.C_below HR211_5.out HB.out) | (with_reducible refine Kd.C_alloc ?_ _) | (with_reducible refine Kd.C_drewN ?_ _) | (with_reducible refine Kd.C_drew ?_))); (case side4 => exact HC211_5.out); rintro e w40 ⟨rfl, hb⟩; refine ⟨_, rfl, ?_⟩; have n0_ := zA (zP (g := gb206) (o := .cells #[.int .i64 a0_0, .int .i64 a0_1, .int .i64 a0_2, .string a0_3, .slice (some ad211) l0_4.length c0_4, .slice (some ad209) l0_5.length c0_5] 33 (0, 0)) (by (with_reducible repeat (first | refine zB ?_ _ | refine zD ?_ | refine zC ?_ _)); exact BK206.out) hb); have n1_ := zA (zQ apQ hb); clear BK206; clear HB; have BK206 := n0_; have HB := n1_; clear n0_ n1_; (try clear hb); (try clear hb2); (try clear hk); (try clear hi)))
                  go_roundg kj23
                  case measure => have := HK1.out; have := HJ23.out; omega
                  case rel => exact ⟨(((x3_23 ++ t210) ++ (⟨#[58]⟩ : ByteArray)) ++ t212), (wrap64 (x4_1 + 1)), apB, apB, H', ⟨by have := HK1.out; have := HJ23.out; omega⟩, ⟨by (with_reducible repeat (first | refine zB ?_ _ | refine zD ?_ | refine zC ?_ _)); exact BK206.out⟩, ⟨apQ⟩⟩
                 ·rw [if_neg c36] at H
                  exact absurd H (by simp)
                ·rw [if_neg c34] at H
                 exact absurd H (by simp)
               ·rw [if_neg c33] at H
                exact absurd H (by simp)
              ·rw [if_neg c32] at H
               exact absurd H (by simp)
             ·rw [if_neg c30] at H
              exact absurd H (by simp)
            ·rw [if_neg c29] at H
             exact absurd H (by simp)
           ·rw [if_neg c28] at H
            have c28b0 : (a0_0 == 6) = false := beq_eq_false_iff_ne.mpr c28
            have c28b1 : (a0_0 != 6) = true := bne_iff_ne.mpr c28
            by_cases c41 : 0 ≤ x4_1
            ·rw [if_pos c41] at H
             have c41b0 : decide (0 ≤ x4_1) = true := yF c41
             clear c41
             by_cases c42 : x4_1 < (l0_4.length : Int)
             ·rw [if_pos c42] at H
              have c42b0 : decide (x4_1 < (l0_4.length : Int)) = true := yF c42
              clear c42
              replace H := Option.bind_eq_some_iff.mp H
              obtain ⟨t214, A430, H⟩ := H
              replace H : (if x3_23.size + t214.size ≤ 9223372036854775807 then (spec_l7Put.l0 kj23 (x3_23 ++ t214) (wrap64 (x4_1 + 1)) a0_0 a0_1 a0_2 a0_3 l0_4 l0_5) else (none)) = some r := H
              have A43 := zA A430
              clear A430
              by_cases c44 : x3_23.size + t214.size ≤ 9223372036854775807
              ·rw [if_pos c44] at H
               have c44b0 := eq_true c44
               have c44b1 : decide (x3_23.size + t214.size ≤ 9223372036854775807) = true := yF c44
               try have c44b2 : (9223372036854775807 < x3_23.size + t214.size) = False := eq_false (Nat.not_lt.2 c44)
               have H' := zA H
               clear H
               have hcz45_0 : wc.cell? ⟨gb206, 0, none⟩ = some (.int .i64 a0_0) := (zJ BK206.out 0).trans rfl
               have hcz45_1 : wc.cell? ⟨gb206, 1, none⟩ = some (.int .i64 a0_1) := (zJ BK206.out 1).trans rfl
               have hcz45_2 : wc.cell? ⟨gb206, 2, none⟩ = some (.int .i64 a0_2) := (zJ BK206.out 2).trans rfl
               have hcz45_3 : wc.cell? ⟨gb206, 3, none⟩ = some (.string a0_3) := (zJ BK206.out 3).trans rfl
               have hcz45_4 : wc.cell? ⟨gb206, 4, none⟩ = some (.slice A0_4 l0_4.length c0_4) := (zJ BK206.out 4).trans rfl
               have hcz45_5 : wc.cell? ⟨gb206, 5, none⟩ = some (.slice A0_5 l0_5.length c0_5) := (zJ BK206.out 5).trans rfl
               have hfz45_0 := zK BK206.out 0
               have hfz45_1 := zK BK206.out 1
               have hfz45_2 := zK BK206.out 2
               have hfz45_3 := zK BK206.out 3
               have hfz45_4 := zK BK206.out 4
               have hfz45_5 := zK BK206.out 5
               have p213 : 0 ≤ (x4_1 : Int) := yG apC
               have q213 : x4_1 < (l0_4.length : Int) := yG apC
               obtain ⟨ad213, A213_4, c213_4, A213_5, c213_5, e213, hx213_0, hx213_1, hx213_2, hx213_3, hx213_4, hx213_5, hl213_4, hi213_4, hl213_5, hi213_5⟩ := at_T33 HR0_4.out x4_1 p213 q213
               cases e213
               replace hx213_0 := (HB.out.cell (zS w _ hx213_0)).trans hx213_0
               replace hx213_1 := (HB.out.cell (zS w _ hx213_1)).trans hx213_1
               replace hx213_2 := (HB.out.cell (zS w _ hx213_2)).trans hx213_2
               replace hx213_3 := (HB.out.cell (zS w _ hx213_3)).trans hx213_3
               replace hx213_4 := (HB.out.cell (zS w _ hx213_4)).trans hx213_4
               replace hx213_5 := (HB.out.cell (zS w _ hx213_5)).trans hx213_5
               have HR213_4 := zA hi213_4
               have HC213_4 := zA hl213_4
               clear hi213_4 hl213_4
               have HR213_5 := zA hi213_5
               have HC213_5 := zA hl213_5
               clear hi213_5 hl213_5
               replace p213 := eq_true p213
               replace q213 := eq_true q213
               go_wp2_with (first | ((with_reducible refine zV (f := 24) rfl ?_); refine goesL_ (some 52) rfl rfl Tryd.func24 (by kernel_rfl) rfl #[.agg #[.int .i64 ((rd_T33 l0_4 x4_1).f0), .int .i64 ((rd_T33 l0_4 x4_1).f1.f0), .int .i64 ((rd_T33 l0_4 x4_1).f1.f1), .string ((rd_T33 l0_4 x4_1).f2), .slice A213_4 ((rd_T33 l0_4 x4_1).f3).length c213_4, .slice A213_5 ((rd_T33 l0_4 x4_1).f4).length c213_5]] rfl apE ?_; (with_reducible refine (ih kj23 (by have := HK1.out; have := HJ23.out; omega) ((rd_T33 l0_4 x4_1).f0) ((rd_T33 l0_4 x4_1).f1.f0) ((rd_T33 l0_4 x4_1).f1.f1) ((rd_T33 l0_4 x4_1).f2) _ _ ((rd_T33 l0_4 x4_1).f3) _ _ ((rd_T33 l0_4 x4_1).f4) t214 _ ?side1 ?side2 ?side3 ?side4 A43.out).mono ?_); (case side1 => repeat (first | exact (Kd.C_below HR213_4.out HB.out) | (with_reducible refine Kd.C_alloc ?_ _) | (with_reducible refine Kd.C_drewN ?_ _) | (with_reducible refine Kd.C_drew ?_))); (case side2 => exact HC213_4.out); (case side3 => repeat (first | exact (Kd.C_below HR213_5.out HB.out) | (with_reducible refine Kd.C_alloc ?_ _) | (with_reducible refine Kd.C_drewN ?_ _) | (with_reducible refine Kd.C_drew ?_))); (case side4 => exact HC213_5.out); rintro e w46 ⟨rfl, hb⟩; refine ⟨_, rfl, ?_⟩; have n0_ := zA (zP (g := gb206) (o := .cells #[.int .i64 a0_0, .int .i64 a0_1, .int .i64 a0_2, .string a0_3, .slice (some ad213) l0_4.length c0_4, .slice A0_5 l0_5.length c0_5] 33 (0, 0)) (by (with_reducible repeat (first | refine zB ?_ _ | refine zD ?_ | refine zC ?_ _)); exact BK206.out) hb); have n1_ := zA (zQ apQ hb); clear BK206; clear HB; have BK206 := n0_; have HB := n1_; clear n0_ n1_; (try clear hb); (try clear hb2); (try clear hk); (try clear hi)))
               go_roundg kj23
               case measure => have := HK1.out; have := HJ23.out; omega
               case rel => exact ⟨(x3_23 ++ t214), (wrap64 (x4_1 + 1)), apB, apB, H', ⟨by have := HK1.out; have := HJ23.out; omega⟩, ⟨by (with_reducible repeat (first | refine zB ?_ _ | refine zD ?_ | refine zC ?_ _)); exact BK206.out⟩, ⟨apQ⟩⟩
              ·rw [if_neg c44] at H
               exact absurd H (by simp)
             ·rw [if_neg c42] at H
              exact absurd H (by simp)
            ·rw [if_neg c41] at H
             exact absurd H (by simp)
        ·rw [if_neg c23] at H
         have c23b0 : decide (x4_1 < (l0_4.length : Int)) = false := decide_eq_false c23
         clear c23
         by_cases c47 : a0_0 = 6
         ·rw [if_pos c47] at H
          have c47b0 : (a0_0 == 6) = true := beq_iff_eq.mpr c47
          have c47b1 : (a0_0 != 6) = false := bne_eq_false_iff_eq.mpr c47
          clear c47
          by_cases c48 : 1 + x3_1.size ≤ 9223372036854775807
          ·rw [if_pos c48] at H
           have c48b0 := eq_true c48
           have c48b1 : decide (1 + x3_1.size ≤ 9223372036854775807) = true := yF c48
           try have c48b2 : (9223372036854775807 < 1 + x3_1.size) = False := eq_false (Nat.not_lt.2 c48)
           by_cases c49 : ((⟨#[123]⟩ : ByteArray) ++ x3_1).size + 1 ≤ 9223372036854775807
           ·rw [if_pos c49] at H
            (try (have c49b9 := eq_true c49; simp only [ByteArray.size_append, Int.natCast_add, show ((⟨#[123]⟩ : ByteArray)).size = 1 from rfl] at c49b9))
            (try (have c49b8 := eq_false (Nat.not_lt.2 c49); simp only [ByteArray.size_append, show ((⟨#[123]⟩ : ByteArray)).size = 1 from rfl] at c49b8))
            have c49b0 := eq_true c49
            have c49b1 : decide (((⟨#[123]⟩ : ByteArray) ++ x3_1).size + 1 ≤ 9223372036854775807) = true := yF c49
            try have c49b2 : (9223372036854775807 < ((⟨#[123]⟩ : ByteArray) ++ x3_1).size + 1) = False := eq_false (Nat.not_lt.2 c49)
            try simp only [ByteArray.size_append] at c49b2
            obtain rfl := yH H
            have hcz50_0 : wr.cell? ⟨gb206, 0, none⟩ = some (.int .i64 a0_0) := (zJ BK206.out 0).trans rfl
            have hcz50_1 : wr.cell? ⟨gb206, 1, none⟩ = some (.int .i64 a0_1) := (zJ BK206.out 1).trans rfl
            have hcz50_2 : wr.cell? ⟨gb206, 2, none⟩ = some (.int .i64 a0_2) := (zJ BK206.out 2).trans rfl
            have hcz50_3 : wr.cell? ⟨gb206, 3, none⟩ = some (.string a0_3) := (zJ BK206.out 3).trans rfl
            have hcz50_4 : wr.cell? ⟨gb206, 4, none⟩ = some (.slice A0_4 l0_4.length c0_4) := (zJ BK206.out 4).trans rfl
            have hcz50_5 : wr.cell? ⟨gb206, 5, none⟩ = some (.slice A0_5 l0_5.length c0_5) := (zJ BK206.out 5).trans rfl
            have hfz50_0 := zK BK206.out 0
            have hfz50_1 := zK BK206.out 1
            have hfz50_2 := zK BK206.out 2
            have hfz50_3 := zK BK206.out 3
            have hfz50_4 := zK BK206.out 4
            have hfz50_5 := zK BK206.out 5
            go_wp2
            go_ret
            exact ⟨apD, apQ⟩
           ·rw [if_neg c49] at H
            exact absurd H (by simp)
          ·rw [if_neg c48] at H
           exact absurd H (by simp)
         ·rw [if_neg c47] at H
          have c47b0 : (a0_0 == 6) = false := beq_eq_false_iff_ne.mpr c47
          have c47b1 : (a0_0 != 6) = true := bne_iff_ne.mpr c47
          by_cases c51 : 1 + x3_1.size ≤ 9223372036854775807
          ·rw [if_pos c51] at H
           have c51b0 := eq_true c51
           have c51b1 : decide (1 + x3_1.size ≤ 9223372036854775807) = true := yF c51
           try have c51b2 : (9223372036854775807 < 1 + x3_1.size) = False := eq_false (Nat.not_lt.2 c51)
           by_cases c52 : ((⟨#[91]⟩ : ByteArray) ++ x3_1).size + 1 ≤ 9223372036854775807
           ·rw [if_pos c52] at H
            (try (have c52b9 := eq_true c52; simp only [ByteArray.size_append, Int.natCast_add, show ((⟨#[91]⟩ : ByteArray)).size = 1 from rfl] at c52b9))
            (try (have c52b8 := eq_false (Nat.not_lt.2 c52); simp only [ByteArray.size_append, show ((⟨#[91]⟩ : ByteArray)).size = 1 from rfl] at c52b8))
            have c52b0 := eq_true c52
            have c52b1 : decide (((⟨#[91]⟩ : ByteArray) ++ x3_1).size + 1 ≤ 9223372036854775807) = true := yF c52
            try have c52b2 : (9223372036854775807 < ((⟨#[91]⟩ : ByteArray) ++ x3_1).size + 1) = False := eq_false (Nat.not_lt.2 c52)
            try simp only [ByteArray.size_append] at c52b2
            obtain rfl := yH H
            have hcz53_0 : wr.cell? ⟨gb206, 0, none⟩ = some (.int .i64 a0_0) := (zJ BK206.out 0).trans rfl
            have hcz53_1 : wr.cell? ⟨gb206, 1, none⟩ = some (.int .i64 a0_1) := (zJ BK206.out 1).trans rfl
            have hcz53_2 : wr.cell? ⟨gb206, 2, none⟩ = some (.int .i64 a0_2) := (zJ BK206.out 2).trans rfl
            have hcz53_3 : wr.cell? ⟨gb206, 3, none⟩ = some (.string a0_3) := (zJ BK206.out 3).trans rfl
            have hcz53_4 : wr.cell? ⟨gb206, 4, none⟩ = some (.slice A0_4 l0_4.length c0_4) := (zJ BK206.out 4).trans rfl
            have hcz53_5 : wr.cell? ⟨gb206, 5, none⟩ = some (.slice A0_5 l0_5.length c0_5) := (zJ BK206.out 5).trans rfl
            have hfz53_0 := zK BK206.out 0
            have hfz53_1 := zK BK206.out 1
            have hfz53_2 := zK BK206.out 2
            have hfz53_3 := zK BK206.out 3
            have hfz53_4 := zK BK206.out 4
            have hfz53_5 := zK BK206.out 5
            go_wp2
            go_ret
            exact ⟨apD, apQ⟩
           ·rw [if_neg c52] at H
            exact absurd H (by simp)
          ·rw [if_neg c51] at H
           exact absurd H (by simp)

end Go.Proofs.YtihepjjjdjemfaaDoor.Q
