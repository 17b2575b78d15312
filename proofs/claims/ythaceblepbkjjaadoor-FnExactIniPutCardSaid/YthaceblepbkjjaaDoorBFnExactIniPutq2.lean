-- laid by a program of this session (wip/tools) out of the translation; Lean checks it
import Derived.Test.YthaceblepbkjjaaDoorSh
import Derived.Lib.AppendIntMem
import Derived.Lib.AtoiErrMem
import Derived.Test.YthaceblepbkjjaaDoorBFnExactIniPutq1
namespace Go.Proofs.YthaceblepbkjjaaDoor.Q
open Go.RowKit Go.Proofs.YthaceblepbkjjaaDoorW.PrintWords Go.Proofs.YthaceblepbkjjaaDoorW.PrintLast Go.Proofs.YthaceblepbkjjaaDoorW.PrintMore Go.Proofs.YthaceblepbkjjaaDoorX
attribute [local go_sem] max2_int min2_int max_two min_two max_three min_three max_four min_four   -- for this text's walks alone
set_option linter.unusedVariables false
set_option linter.unusedSimpArgs false

attribute [-simp] ByteArray.size_extract
mutual
def spec_l1Text.l0 : Nat → ByteArray → Int → Int → Option (ByteArray)
 | 0, _, _, _ => none
 | k + 1, x3, x193000, x193001 => if (x3.size : Int) ≤ (wrap64 (-x193001)) then (if 1 + x3.size ≤ 9223372036854775807 then (spec_l1Text.l0 k ((⟨#[48]⟩ : ByteArray) ++ x3) x193000 x193001) else (none)) else (if 0 ≤ (wrap64 ((x3.size : Int) + x193001)) then (if (wrap64 ((x3.size : Int) + x193001)) ≤ (x3.size : Int) then (if (x3.extract 0 ((wrap64 ((x3.size : Int) + x193001)) : Int).toNat).size + 1 ≤ 9223372036854775807 then (if ((x3.extract 0 ((wrap64 ((x3.size : Int) + x193001)) : Int).toNat) ++ (⟨#[46]⟩ : ByteArray)).size + (x3.extract ((wrap64 ((x3.size : Int) + x193001)) : Int).toNat x3.size).size ≤ 9223372036854775807 then (some (((x3.extract 0 ((wrap64 ((x3.size : Int) + x193001)) : Int).toNat) ++ (⟨#[46]⟩ : ByteArray)) ++ (x3.extract ((wrap64 ((x3.size : Int) + x193001)) : Int).toNat x3.size))) else (none)) else (none)) else (none)) else (none))
def spec_l1Text.f : Nat → Int → Int → Option (ByteArray)
 | 0, _, _ => none
 | k + 1, a0_0, a0_1 => if a0_0 < 0 then ((spec_l1Neg.f a0_0 a0_1).bind fun bt193 => ((spec_l1Text.f k bt193.1 bt193.2).bind fun t195 => (if 1 + t195.size ≤ 9223372036854775807 then (some ((⟨#[45]⟩ : ByteArray) ++ t195)) else (none)))) else ((spec_l1Dec.f k a0_0).bind fun t196 => (if a0_1 ≥ 0 then ((spec_l1Many.f k (⟨#[48]⟩ : ByteArray) a0_1).bind fun t197 => (if t196.size + t197.size ≤ 9223372036854775807 then (some (t196 ++ t197)) else (none))) else (spec_l1Text.l0 k t196 a0_0 a0_1)))
end
theorem spec_l1Text.mono_l : ∀ k, (∀ y0 y1, LeO (spec_l1Text.f k y0 y1) (spec_l1Text.f (k + 1) y0 y1)) ∧ (∀ y0 y1 y2, LeO (spec_l1Text.l0 k y0 y1 y2) (spec_l1Text.l0 (k + 1) y0 y1 y2))
 | 0 => ⟨fun _ _ r h => by simp [spec_l1Text.f] at h, fun _ _ _ r h => by simp [spec_l1Text.l0] at h⟩
 | k + 1 => by
  obtain ⟨ih0, ih1⟩ := spec_l1Text.mono_l k
  refine ⟨?_, ?_⟩
  ·intro y0 y1
   unfold spec_l1Text.f
   repeat' first
   | (with_reducible exact ih0 _ _)
   | (with_reducible exact ih1 _ _ _)
   | (with_reducible exact spec_l1Dec.mono _ _)
   | (with_reducible exact spec_l1Many.mono _ _ _)
   | (with_reducible exact LeO.refl _)
   | (with_reducible exact LeO.none _)
   | (with_reducible refine LeO.ite ?_ ?_)
   | (with_reducible refine LeO.bind ?_ (fun _ => ?_))
   | exact ih0 _ _
   | exact ih1 _ _ _
  ·intro y0 y1 y2
   unfold spec_l1Text.l0
   repeat' first
   | (with_reducible exact ih0 _ _)
   | (with_reducible exact ih1 _ _ _)
   | (with_reducible exact spec_l1Dec.mono _ _)
   | (with_reducible exact spec_l1Many.mono _ _ _)
   | (with_reducible exact LeO.refl _)
   | (with_reducible exact LeO.none _)
   | (with_reducible refine LeO.ite ?_ ?_)
   | (with_reducible refine LeO.bind ?_ (fun _ => ?_))
   | exact ih0 _ _
   | exact ih1 _ _ _
theorem spec_l1Text.mono : ∀ a0 a1 k, LeO (spec_l1Text.f k a0 a1) (spec_l1Text.f (k + 1) a0 a1) := by
 intro a0 a1 k
 obtain ⟨ih0, ih1⟩ := spec_l1Text.mono_l k
 exact ih0 a0 a1
set_option maxHeartbeats 8000000 in
set_option maxRecDepth 100000 in
theorem spec_l1Text.calls (k : Nat) : ∀ (a0_0 : Int) (a0_1 : Int) (r : ByteArray) (w : World) (h : spec_l1Text.f k a0_0 a0_1 = some r),
  Calls Tryd.prog 34 #[.agg #[.int .i64 a0_0, .int .i64 a0_1]] w fun e w' => e = .returned (.string r) ∧ Below w.heap.size w w' := by
 induction k using Nat.strongRecOn with
 | _ k ih =>
 intro a0_0 a0_1 r w h
 cases k with
 | zero => exact absurd h (by simp [spec_l1Text.f])
 | succ k =>
 simp only [spec_l1Text.f] at h
 have hu31 := Tryd.underlying31
 have HB := zA (yH w.heap.size w)
 have H : (if a0_0 < 0 then ((spec_l1Neg.f a0_0 a0_1).bind fun bt193 => ((spec_l1Text.f k bt193.1 bt193.2).bind fun t195 => (if 1 + t195.size ≤ 9223372036854775807 then (some ((⟨#[45]⟩ : ByteArray) ++ t195)) else (none)))) else ((spec_l1Dec.f k a0_0).bind fun t196 => (if a0_1 ≥ 0 then ((spec_l1Many.f k (⟨#[48]⟩ : ByteArray) a0_1).bind fun t197 => (if t196.size + t197.size ≤ 9223372036854775807 then (some (t196 ++ t197)) else (none))) else (spec_l1Text.l0 k t196 a0_0 a0_1)))) = some r := h
 clear h
 by_cases c2 : a0_0 < 0
 ·rw [if_pos c2] at H
  have c2b0 : decide (a0_0 < 0) = true := yE c2
  clear c2
  replace H := Option.bind_eq_some_iff.mp H
  obtain ⟨⟨t193, t194⟩, A30, H⟩ := H
  have A3 := zA A30
  clear A30
  replace H := Option.bind_eq_some_iff.mp H
  obtain ⟨t195, A40, H⟩ := H
  have A4 := zA A40
  clear A40
  by_cases c5 : 1 + t195.size ≤ 9223372036854775807
  ·rw [if_pos c5] at H
   have c5b0 := eq_true c5
   have c5b1 : decide (1 + t195.size ≤ 9223372036854775807) = true := yE c5
   try have c5b2 : (9223372036854775807 < 1 + t195.size) = False := eq_false (Nat.not_lt.2 c5)
   obtain rfl := yG H
   go_enter Tryd.func34, Tryd.ntmps34
   go_wp2_with (first | ((with_reducible refine zS (N := 1) rfl ?_); refine zW ?hg (N := 1) ?hd (cs := #[.int .i64 a0_0, .int .i64 a0_1]) (t := 31) ?hr ?_; (case hd => rfl); (case hg => rfl); (case hr => first | (go_simp; done) | (go_simp; rfl)); intro gb192 hg w6 hbox hb; have BK192 := zA (hbox); have GW192 := zA ((by rw [hg]; exact (zQ apA) : w.heap.size ≤ gb192)); have GE192 := zA ((by rw [hg]; exact (zQ apA) : w.heap.size ≤ gb192)); replace HB := zA (zP apA hb); clear hb hbox hg; obtain ⟨hcz7_0, hcz7_1, hfz7_0, hfz7_1⟩ := zb2 BK192.out) | (go_at_call 44; (with_reducible refine (spec_l1Neg.calls a0_0 a0_1 t193 t194 _ A3.out).mono ?_); rintro e w8 ⟨rfl, hb⟩; replace HB := zA (zP apA hb); (try clear hb); (try clear hb2); (try clear hk); (try clear hi)) | (go_at_call 34; (with_reducible refine (ih k (by omega) t193 t194 t195 _ A4.out).mono ?_); rintro e w9 ⟨rfl, hb⟩; replace HB := zA (zP apA hb); (try clear hb); (try clear hb2); (try clear hk); (try clear hi)))
   repeat (go_quiet (first | ((with_reducible refine zS (N := 1) rfl ?_); refine zW ?hg (N := 1) ?hd (cs := #[.int .i64 a0_0, .int .i64 a0_1]) (t := 31) ?hr ?_; (case hd => rfl); (case hg => rfl); (case hr => first | (go_simp; done) | (go_simp; rfl)); intro gb192 hg w6 hbox hb; have BK192 := zA (hbox); have GW192 := zA ((by rw [hg]; exact (zQ apA) : w.heap.size ≤ gb192)); have GE192 := zA ((by rw [hg]; exact (zQ apA) : w.heap.size ≤ gb192)); replace HB := zA (zP apA hb); clear hb hbox hg; obtain ⟨hcz7_0, hcz7_1, hfz7_0, hfz7_1⟩ := zb2 BK192.out) | (go_at_call 44; (with_reducible refine (spec_l1Neg.calls a0_0 a0_1 t193 t194 _ A3.out).mono ?_); rintro e w8 ⟨rfl, hb⟩; replace HB := zA (zP apA hb); (try clear hb); (try clear hb2); (try clear hk); (try clear hi)) | (go_at_call 34; (with_reducible refine (ih k (by omega) t193 t194 t195 _ A4.out).mono ?_); rintro e w9 ⟨rfl, hb⟩; replace HB := zA (zP apA hb); (try clear hb); (try clear hb2); (try clear hk); (try clear hi))); try go_wp2_with (first | ((with_reducible refine zS (N := 1) rfl ?_); refine zW ?hg (N := 1) ?hd (cs := #[.int .i64 a0_0, .int .i64 a0_1]) (t := 31) ?hr ?_; (case hd => rfl); (case hg => rfl); (case hr => first | (go_simp; done) | (go_simp; rfl)); intro gb192 hg w6 hbox hb; have BK192 := zA (hbox); have GW192 := zA ((by rw [hg]; exact (zQ apA) : w.heap.size ≤ gb192)); have GE192 := zA ((by rw [hg]; exact (zQ apA) : w.heap.size ≤ gb192)); replace HB := zA (zP apA hb); clear hb hbox hg; obtain ⟨hcz7_0, hcz7_1, hfz7_0, hfz7_1⟩ := zb2 BK192.out) | (go_at_call 44; (with_reducible refine (spec_l1Neg.calls a0_0 a0_1 t193 t194 _ A3.out).mono ?_); rintro e w8 ⟨rfl, hb⟩; replace HB := zA (zP apA hb); (try clear hb); (try clear hb2); (try clear hk); (try clear hi)) | (go_at_call 34; (with_reducible refine (ih k (by omega) t193 t194 t195 _ A4.out).mono ?_); rintro e w9 ⟨rfl, hb⟩; replace HB := zA (zP apA hb); (try clear hb); (try clear hb2); (try clear hk); (try clear hi))))
   go_ret
   exact ⟨apD, apA⟩
  ·rw [if_neg c5] at H
   exact absurd H (by simp)
 ·rw [if_neg c2] at H
  have c2b0 : decide (a0_0 < 0) = false := decide_eq_false c2
  clear c2
  replace H := Option.bind_eq_some_iff.mp H
  obtain ⟨t196, A100, H⟩ := H
  have A10 := zA A100
  clear A100
  by_cases c11 : a0_1 ≥ 0
  ·rw [if_pos c11] at H
   have c11b0 : decide (0 ≤ a0_1) = true := yE c11
   clear c11
   replace H := Option.bind_eq_some_iff.mp H
   obtain ⟨t197, A120, H⟩ := H
   have A12 := zA A120
   clear A120
   by_cases c13 : t196.size + t197.size ≤ 9223372036854775807
   ·rw [if_pos c13] at H
    have c13b0 := eq_true c13
    have c13b1 : decide (t196.size + t197.size ≤ 9223372036854775807) = true := yE c13
    try have c13b2 : (9223372036854775807 < t196.size + t197.size) = False := eq_false (Nat.not_lt.2 c13)
    obtain rfl := yG H
    go_enter Tryd.func34, Tryd.ntmps34
    go_wp2_with (first | ((with_reducible refine zS (N := 1) rfl ?_); refine zW ?hg (N := 1) ?hd (cs := #[.int .i64 a0_0, .int .i64 a0_1]) (t := 31) ?hr ?_; (case hd => rfl); (case hg => rfl); (case hr => first | (go_simp; done) | (go_simp; rfl)); intro gb192 hg w14 hbox hb; have BK192 := zA (hbox); have GW192 := zA ((by rw [hg]; exact (zQ apA) : w.heap.size ≤ gb192)); have GE192 := zA ((by rw [hg]; exact (zQ apA) : w.heap.size ≤ gb192)); replace HB := zA (zP apA hb); clear hb hbox hg; obtain ⟨hcz15_0, hcz15_1, hfz15_0, hfz15_1⟩ := zb2 BK192.out) | (go_at_call 45; (with_reducible refine (spec_l1Dec.calls k a0_0 t196 _ A10.out).mono ?_); rintro e w16 ⟨rfl, hb⟩; replace BK192 := zA (zN (g := gb192) (o := .cells #[.int .i64 a0_0, .int .i64 a0_1] 31 (0, 0)) (by (with_reducible repeat (first | refine zB ?_ _ | refine zD ?_ | refine zC ?_ _)); exact BK192.out) hb); replace HB := zA (zP (by repeat (first | (with_reducible first | exact HB.out | apply zG | apply zE | apply zF | refine zH ?_ GE192.out) | exact HB.out)) hb); (try clear hb); (try clear hb2); (try clear hk); (try clear hi); obtain ⟨hcz17_0, hcz17_1, hfz17_0, hfz17_1⟩ := zb2 BK192.out) | (go_at_call 46; (with_reducible refine (spec_l1Many.calls k (⟨#[48]⟩ : ByteArray) a0_1 t197 _ A12.out).mono ?_); rintro e w' ⟨rfl, ⟨nd, rfl⟩⟩; (try first | exact ⟨rfl, _, World.drewN_drewN _ _ _⟩ | exact ⟨rfl, _, Eq.trans (World.drewN_drewN _ _ _) (congrArg (World.drewN _) (Nat.add_assoc _ _ _))⟩)))
    repeat (go_quiet (first | ((with_reducible refine zS (N := 1) rfl ?_); refine zW ?hg (N := 1) ?hd (cs := #[.int .i64 a0_0, .int .i64 a0_1]) (t := 31) ?hr ?_; (case hd => rfl); (case hg => rfl); (case hr => first | (go_simp; done) | (go_simp; rfl)); intro gb192 hg w14 hbox hb; have BK192 := zA (hbox); have GW192 := zA ((by rw [hg]; exact (zQ apA) : w.heap.size ≤ gb192)); have GE192 := zA ((by rw [hg]; exact (zQ apA) : w.heap.size ≤ gb192)); replace HB := zA (zP apA hb); clear hb hbox hg; obtain ⟨hcz15_0, hcz15_1, hfz15_0, hfz15_1⟩ := zb2 BK192.out) | (go_at_call 45; (with_reducible refine (spec_l1Dec.calls k a0_0 t196 _ A10.out).mono ?_); rintro e w16 ⟨rfl, hb⟩; replace BK192 := zA (zN (g := gb192) (o := .cells #[.int .i64 a0_0, .int .i64 a0_1] 31 (0, 0)) (by (with_reducible repeat (first | refine zB ?_ _ | refine zD ?_ | refine zC ?_ _)); exact BK192.out) hb); replace HB := zA (zP (by repeat (first | (with_reducible first | exact HB.out | apply zG | apply zE | apply zF | refine zH ?_ GE192.out) | exact HB.out)) hb); (try clear hb); (try clear hb2); (try clear hk); (try clear hi); obtain ⟨hcz17_0, hcz17_1, hfz17_0, hfz17_1⟩ := zb2 BK192.out) | (go_at_call 46; (with_reducible refine (spec_l1Many.calls k (⟨#[48]⟩ : ByteArray) a0_1 t197 _ A12.out).mono ?_); rintro e w' ⟨rfl, ⟨nd, rfl⟩⟩; (try first | exact ⟨rfl, _, World.drewN_drewN _ _ _⟩ | exact ⟨rfl, _, Eq.trans (World.drewN_drewN _ _ _) (congrArg (World.drewN _) (Nat.add_assoc _ _ _))⟩))); try go_wp2_with (first | ((with_reducible refine zS (N := 1) rfl ?_); refine zW ?hg (N := 1) ?hd (cs := #[.int .i64 a0_0, .int .i64 a0_1]) (t := 31) ?hr ?_; (case hd => rfl); (case hg => rfl); (case hr => first | (go_simp; done) | (go_simp; rfl)); intro gb192 hg w14 hbox hb; have BK192 := zA (hbox); have GW192 := zA ((by rw [hg]; exact (zQ apA) : w.heap.size ≤ gb192)); have GE192 := zA ((by rw [hg]; exact (zQ apA) : w.heap.size ≤ gb192)); replace HB := zA (zP apA hb); clear hb hbox hg; obtain ⟨hcz15_0, hcz15_1, hfz15_0, hfz15_1⟩ := zb2 BK192.out) | (go_at_call 45; (with_reducible refine (spec_l1Dec.calls k a0_0 t196 _ A10.out).mono ?_); rintro e w16 ⟨rfl, hb⟩; replace BK192 := zA (zN (g := gb192) (o := .cells #[.int .i64 a0_0, .int .i64 a0_1] 31 (0, 0)) (by (with_reducible repeat (first | refine zB ?_ _ | refine zD ?_ | refine zC ?_ _)); exact BK192.out) hb); replace HB := zA (zP (by repeat (first | (with_reducible first | exact HB.out | apply zG | apply zE | apply zF | refine zH ?_ GE192.out) | exact HB.out)) hb); (try clear hb); (try clear hb2); (try clear hk); (try clear hi); obtain ⟨hcz17_0, hcz17_1, hfz17_0, hfz17_1⟩ := zb2 BK192.out) | (go_at_call 46; (with_reducible refine (spec_l1Many.calls k (⟨#[48]⟩ : ByteArray) a0_1 t197 _ A12.out).mono ?_); rintro e w' ⟨rfl, ⟨nd, rfl⟩⟩; (try first | exact ⟨rfl, _, World.drewN_drewN _ _ _⟩ | exact ⟨rfl, _, Eq.trans (World.drewN_drewN _ _ _) (congrArg (World.drewN _) (Nat.add_assoc _ _ _))⟩))))
    go_ret
    exact ⟨apD, apA⟩
   ·rw [if_neg c13] at H
    exact absurd H (by simp)
  ·rw [if_neg c11] at H
   have c11b0 : decide (0 ≤ a0_1) = false := decide_eq_false c11
   clear c11
   have H' := zA H
   clear H
   go_enter Tryd.func34, Tryd.ntmps34
   go_wp2_with (first | ((with_reducible refine zS (N := 1) rfl ?_); refine zW ?hg (N := 1) ?hd (cs := #[.int .i64 a0_0, .int .i64 a0_1]) (t := 31) ?hr ?_; (case hd => rfl); (case hg => rfl); (case hr => first | (go_simp; done) | (go_simp; rfl)); intro gb192 hg w18 hbox hb; have BK192 := zA (hbox); have GW192 := zA ((by rw [hg]; exact (zQ apA) : w.heap.size ≤ gb192)); have GE192 := zA ((by rw [hg]; exact (zQ apA) : w.heap.size ≤ gb192)); replace HB := zA (zP apA hb); clear hb hbox hg; obtain ⟨hcz19_0, hcz19_1, hfz19_0, hfz19_1⟩ := zb2 BK192.out) | (go_at_call 45; (with_reducible refine (spec_l1Dec.calls k a0_0 t196 _ A10.out).mono ?_); rintro e w20 ⟨rfl, hb⟩; replace BK192 := zA (zN (g := gb192) (o := .cells #[.int .i64 a0_0, .int .i64 a0_1] 31 (0, 0)) (by (with_reducible repeat (first | refine zB ?_ _ | refine zD ?_ | refine zC ?_ _)); exact BK192.out) hb); replace HB := zA (zP (by repeat (first | (with_reducible first | exact HB.out | apply zG | apply zE | apply zF | refine zH ?_ GE192.out) | exact HB.out)) hb); (try clear hb); (try clear hb2); (try clear hk); (try clear hi); obtain ⟨hcz21_0, hcz21_1, hfz21_0, hfz21_1⟩ := zb2 BK192.out))
   repeat (go_quiet (first | ((with_reducible refine zS (N := 1) rfl ?_); refine zW ?hg (N := 1) ?hd (cs := #[.int .i64 a0_0, .int .i64 a0_1]) (t := 31) ?hr ?_; (case hd => rfl); (case hg => rfl); (case hr => first | (go_simp; done) | (go_simp; rfl)); intro gb192 hg w18 hbox hb; have BK192 := zA (hbox); have GW192 := zA ((by rw [hg]; exact (zQ apA) : w.heap.size ≤ gb192)); have GE192 := zA ((by rw [hg]; exact (zQ apA) : w.heap.size ≤ gb192)); replace HB := zA (zP apA hb); clear hb hbox hg; obtain ⟨hcz19_0, hcz19_1, hfz19_0, hfz19_1⟩ := zb2 BK192.out) | (go_at_call 45; (with_reducible refine (spec_l1Dec.calls k a0_0 t196 _ A10.out).mono ?_); rintro e w20 ⟨rfl, hb⟩; replace BK192 := zA (zN (g := gb192) (o := .cells #[.int .i64 a0_0, .int .i64 a0_1] 31 (0, 0)) (by (with_reducible repeat (first | refine zB ?_ _ | refine zD ?_ | refine zC ?_ _)); exact BK192.out) hb); replace HB := zA (zP (by repeat (first | (with_reducible first | exact HB.out | apply zG | apply zE | apply zF | refine zH ?_ GE192.out) | exact HB.out)) hb); (try clear hb); (try clear hb2); (try clear hk); (try clear hi); obtain ⟨hcz21_0, hcz21_1, hfz21_0, hfz21_1⟩ := zb2 BK192.out)); try go_wp2_with (first | ((with_reducible refine zS (N := 1) rfl ?_); refine zW ?hg (N := 1) ?hd (cs := #[.int .i64 a0_0, .int .i64 a0_1]) (t := 31) ?hr ?_; (case hd => rfl); (case hg => rfl); (case hr => first | (go_simp; done) | (go_simp; rfl)); intro gb192 hg w18 hbox hb; have BK192 := zA (hbox); have GW192 := zA ((by rw [hg]; exact (zQ apA) : w.heap.size ≤ gb192)); have GE192 := zA ((by rw [hg]; exact (zQ apA) : w.heap.size ≤ gb192)); replace HB := zA (zP apA hb); clear hb hbox hg; obtain ⟨hcz19_0, hcz19_1, hfz19_0, hfz19_1⟩ := zb2 BK192.out) | (go_at_call 45; (with_reducible refine (spec_l1Dec.calls k a0_0 t196 _ A10.out).mono ?_); rintro e w20 ⟨rfl, hb⟩; replace BK192 := zA (zN (g := gb192) (o := .cells #[.int .i64 a0_0, .int .i64 a0_1] 31 (0, 0)) (by (with_reducible repeat (first | refine zB ?_ _ | refine zD ?_ | refine zC ?_ _)); exact BK192.out) hb); replace HB := zA (zP (by repeat (first | (with_reducible first | exact HB.out | apply zG | apply zE | apply zF | refine zH ?_ GE192.out) | exact HB.out)) hb); (try clear hb); (try clear hb2); (try clear hk); (try clear hi); obtain ⟨hcz21_0, hcz21_1, hfz21_0, hfz21_1⟩ := zb2 BK192.out)))
   go_loopg [3] k (fun kq v3 w' => ∃ (x3_1 : ByteArray), v3 = .string x3_1 ∧ Aside0 (spec_l1Text.l0 kq x3_1 a0_0 a0_1 = some r) ∧ Aside0 (kq ≤ k) ∧ Aside0 (w'.heap[gb192]? = some (.cells #[.int .i64 a0_0, .int .i64 a0_1] 31 (0, 0))) ∧ Aside0 (Below w.heap.size w w'))
   case atStart => exact ⟨(t196), apC, H', ⟨yJ _⟩, ⟨by (with_reducible repeat (first | refine zB ?_ _ | refine zD ?_ | refine zC ?_ _)); exact BK192.out⟩, ⟨by repeat (first | (with_reducible first | exact HB.out | apply zG | apply zE | apply zF | refine zH ?_ GE192.out) | exact HB.out)⟩⟩
   case round =>
    clear H'
    try clear c1 c2 c2b0 p2 c3 c5 c5b0 c5b1 c5b2 c11 c11b0 c13 c13b0 c13b1 c13b2 hcz15_0 hcz15_1 hcz17_0 hcz17_1 hcz19_0 hcz19_1 hcz21_0 hcz21_1 hcz7_0 hcz7_1 hfz15_0 hfz15_1 hfz17_0 hfz17_1 hfz19_0 hfz19_1 hfz21_0 hfz21_1 hfz7_0 hfz7_1
    obtain ⟨x3_1, rfl, HA, HK1, BK192, HB⟩ := hrel
    cases gk with
    | zero => exact absurd HA.out (by simp [spec_l1Text.l0])
    | succ k1 =>
     have H := HA.out
     clear HA
     simp only [spec_l1Text.l0] at H
     by_cases c22 : (x3_1.size : Int) ≤ (wrap64 (-a0_1))
     ·rw [if_pos c22] at H
      have c22b0 : decide ((x3_1.size : Int) ≤ (wrap64 (-a0_1))) = true := yE c22
      clear c22
      by_cases c23 : 1 + x3_1.size ≤ 9223372036854775807
      ·rw [if_pos c23] at H
       have c23b0 := eq_true c23
       have c23b1 : decide (1 + x3_1.size ≤ 9223372036854775807) = true := yE c23
       try have c23b2 : (9223372036854775807 < 1 + x3_1.size) = False := eq_false (Nat.not_lt.2 c23)
       have H' := zA H
       clear H
       obtain ⟨hcz24_0, hcz24_1, hfz24_0, hfz24_1⟩ := zb2 BK192.out
       go_wp2
       repeat (go_quiet (fail); try go_wp2)
       go_roundg k1
       case measure => have := HK1.out; omega
       case rel => exact ⟨((⟨#[48]⟩ : ByteArray) ++ x3_1), apC, H', ⟨by have := HK1.out; omega⟩, ⟨by (with_reducible repeat (first | refine zB ?_ _ | refine zD ?_ | refine zC ?_ _)); exact BK192.out⟩, ⟨by repeat (first | (with_reducible first | exact HB.out | apply zG | apply zE | apply zF | refine zH ?_ GE192.out) | exact HB.out)⟩⟩
      ·rw [if_neg c23] at H
       exact absurd H (by simp)
     ·rw [if_neg c22] at H
      have c22b0 : decide ((x3_1.size : Int) ≤ (wrap64 (-a0_1))) = false := decide_eq_false c22
      clear c22
      obtain ⟨ji25, hji25⟩ : ∃ j_ : Int, (wrap64 ((x3_1.size : Int) + a0_1)) = j_ := ⟨_, rfl⟩
      replace H : (if 0 ≤ (ji25) then (if (ji25) ≤ (x3_1.size : Int) then (if (x3_1.extract 0 ((ji25) : Int).toNat).size + 1 ≤ 9223372036854775807 then (if ((x3_1.extract 0 ((ji25) : Int).toNat) ++ (⟨#[46]⟩ : ByteArray)).size + (x3_1.extract ((ji25) : Int).toNat x3_1.size).size ≤ 9223372036854775807 then (some (((x3_1.extract 0 ((ji25) : Int).toNat) ++ (⟨#[46]⟩ : ByteArray)) ++ (x3_1.extract ((ji25) : Int).toNat x3_1.size))) else (none)) else (none)) else (none)) else (none)) = some r := by first | (rw [hji25] at H; exact H) | (simp only [hji25] at H ⊢; exact H)
      have hji25w : (IntKind.i64.wrap ((x3_1.size : Int) + a0_1)) = ji25 := (i64_w _).trans hji25
      by_cases c26 : 0 ≤ (ji25)
      ·rw [if_pos c26] at H
       have c26b0 := eq_true c26
       have c26b1 : decide (0 ≤ (ji25)) = true := yE c26
       clear c26
       by_cases c27 : (ji25) ≤ (x3_1.size : Int)
       ·rw [if_pos c27] at H
        have c27b0 := eq_true c27
        have c27b1 : decide ((ji25) ≤ (x3_1.size : Int)) = true := yE c27
        clear c27
        by_cases c28 : (x3_1.extract 0 ((ji25) : Int).toNat).size + 1 ≤ 9223372036854775807
        ·rw [if_pos c28] at H
         have c28b0 := eq_true c28
         have c28b1 : decide ((x3_1.extract 0 ((ji25) : Int).toNat).size + 1 ≤ 9223372036854775807) = true := yE c28
         try have c28b2 : (9223372036854775807 < (x3_1.extract 0 ((ji25) : Int).toNat).size + 1) = False := eq_false (Nat.not_lt.2 c28)
         have c29b0 := eq_true (yF apB : 0 ≤ (ji25))
         have c30b0 := eq_true (yF apB : (ji25) ≤ (x3_1.size : Int))
         by_cases c31 : ((x3_1.extract 0 ((ji25) : Int).toNat) ++ (⟨#[46]⟩ : ByteArray)).size + (x3_1.extract ((ji25) : Int).toNat x3_1.size).size ≤ 9223372036854775807
         ·rw [if_pos c31] at H
          (try (have c31b9 := eq_true c31; simp only [ByteArray.size_append, Int.natCast_add, show ((⟨#[46]⟩ : ByteArray)).size = 1 from rfl] at c31b9))
          (try (have c31b8 := eq_false (Nat.not_lt.2 c31); simp only [ByteArray.size_append, show ((⟨#[46]⟩ : ByteArray)).size = 1 from rfl] at c31b8))
          have c31b0 := eq_true c31
          have c31b1 : decide (((x3_1.extract 0 ((ji25) : Int).toNat) ++ (⟨#[46]⟩ : ByteArray)).size + (x3_1.extract ((ji25) : Int).toNat x3_1.size).size ≤ 9223372036854775807) = true := yE c31
          try have c31b2 : (9223372036854775807 < ((x3_1.extract 0 ((ji25) : Int).toNat) ++ (⟨#[46]⟩ : ByteArray)).size + (x3_1.extract ((ji25) : Int).toNat x3_1.size).size) = False := eq_false (Nat.not_lt.2 c31)
          try simp only [ByteArray.size_append] at c31b2
          obtain rfl := yG H
          obtain ⟨hcz32_0, hcz32_1, hfz32_0, hfz32_1⟩ := zb2 BK192.out
          go_wp2
          repeat (go_quiet (fail); try go_wp2)
          go_ret
          exact ⟨by first | rfl | (simp [errW_none, errW_some] <;> rfl) | (simp only [← hji25]; first | rfl | (simp [errW_none, errW_some] <;> rfl)) | (simp [*, errW_none, errW_some] <;> rfl), by repeat (first | (with_reducible first | exact HB.out | apply zG | apply zE | apply zF | refine zH ?_ GE192.out) | exact HB.out)⟩
         ·rw [if_neg c31] at H
          exact absurd H (by simp)
        ·rw [if_neg c28] at H
         exact absurd H (by simp)
       ·rw [if_neg c27] at H
        exact absurd H (by simp)
      ·rw [if_neg c26] at H
       exact absurd H (by simp)

end Go.Proofs.YthaceblepbkjjaaDoor.Q

namespace Go.Proofs.YthaceblepbkjjaaDoor.Q
open Go.RowKit Go.Proofs.YthaceblepbkjjaaDoorW.PrintWords Go.Proofs.YthaceblepbkjjaaDoorW.PrintLast Go.Proofs.YthaceblepbkjjaaDoorW.PrintMore Go.Proofs.YthaceblepbkjjaaDoorX
attribute [local go_sem] max2_int min2_int max_two min_two max_three min_three max_four min_four   -- for this text's walks alone
set_option linter.unusedVariables false
set_option linter.unusedSimpArgs false

def impl_size.f (a0 : Int) : Option (Int) := some (mx a0 (wrap64 (-a0)))
set_option maxHeartbeats 8000000 in
set_option maxRecDepth 100000 in
theorem impl_size.calls (a0 : Int) (r : Int) (w : World) (h : impl_size.f a0 = some r) :
  Calls Tryd.prog 62 #[.int .i64 a0] w fun e w' => e = .returned (.int .i64 r) ∧ Below w.heap.size w w' := by
 have HB := zA (yH w.heap.size w)
 have H : (some (mx a0 (wrap64 (-a0)))) = some r := h
 clear h
 obtain ⟨ji2, hji2⟩ : ∃ j_ : Int, (mx a0 (wrap64 (-a0))) = j_ := ⟨_, rfl⟩
 replace H : (some ji2) = some r := by first | (rw [hji2] at H; exact H) | (simp only [hji2] at H ⊢; exact H)
 have hji2_ : (if a0 < (wrap64 (-a0)) then (wrap64 (-a0)) else a0) = ji2 := hji2
 obtain rfl := yG H
 go_enter Tryd.func62, Tryd.ntmps62
 go_wp2
 go_ret
 exact ⟨by first | rfl | (simp [errW_none, errW_some] <;> rfl) | (simp only [← hji2]; first | rfl | (simp [errW_none, errW_some] <;> rfl)) | (simp [*, errW_none, errW_some] <;> rfl), apA⟩


def strings_Repeat.f (a0 : ByteArray) (a1 : Int) : Option (ByteArray) := if 0 ≤ a1 ∧ a1 ≤ 9223372036854775807 ∧ a0.size * a1.toNat ≤ 140737488355328 then some (⟨(Lib.repeatL a0.data.toList a1.toNat).toArray⟩) else none
theorem strings_Repeat.calls (a0 : ByteArray) (a1 : Int) (r : ByteArray) (w : World) (h : strings_Repeat.f a0 a1 = some r) :
  Calls Tryd.prog 63 #[.string a0, .int .i64 a1] w fun e w' => e = .returned (.string r) ∧ Below w.heap.size w w' := by
 unfold strings_Repeat.f at h
 split at h
 ·rename_i hh
  have h2 := yG h
  subst h2
  obtain ⟨c, rfl⟩ := Int.eq_ofNat_of_zero_le hh.1
  simp only [Int.toNat_natCast] at hh ⊢
  refine (Tryd.strings_Repeat a0 c w (by omega) hh.2.2).mono ?_
  rintro e w' ⟨rfl, hb⟩
  exact ⟨rfl, hb⟩
 ·cases h

end Go.Proofs.YthaceblepbkjjaaDoor.Q

namespace Go.Proofs.YthaceblepbkjjaaDoor.Q
open Go.RowKit Go.Proofs.YthaceblepbkjjaaDoorW.PrintWords Go.Proofs.YthaceblepbkjjaaDoorW.PrintLast Go.Proofs.YthaceblepbkjjaaDoorW.PrintMore Go.Proofs.YthaceblepbkjjaaDoorX
attribute [local go_sem] max2_int min2_int max_two min_two max_three min_three max_four min_four   -- for this text's walks alone
set_option linter.unusedVariables false
set_option linter.unusedSimpArgs false

attribute [-simp] ByteArray.size_extract
def impl_DecText.j0 : Nat → ByteArray → ByteArray → Int → Int → Option (ByteArray)
 | 0, _, _, _, _ => none
 | k + 1, x3, x4, x295000, x295001 => if x295001 ≥ 0 then (if x4.size + x3.size ≤ 9223372036854775807 then ((strings_Repeat.f (⟨#[48]⟩ : ByteArray) x295001).bind fun t298 => (if (x4 ++ x3).size + t298.size ≤ 9223372036854775807 then (some ((x4 ++ x3) ++ t298)) else (none))) else (none)) else (if (wrap64 ((wrap64 (-x295001)) - (x3.size : Int))) ≥ 0 then ((strings_Repeat.f (⟨#[48]⟩ : ByteArray) (wrap64 ((wrap64 ((wrap64 (-x295001)) - (x3.size : Int))) + 1))).bind fun t299 => (if t299.size + x3.size ≤ 9223372036854775807 then (if 0 ≤ (wrap64 (((t299 ++ x3).size : Int) + x295001)) then (if (wrap64 (((t299 ++ x3).size : Int) + x295001)) ≤ ((t299 ++ x3).size : Int) then (if x4.size + ((t299 ++ x3).extract 0 ((wrap64 (((t299 ++ x3).size : Int) + x295001)) : Int).toNat).size ≤ 9223372036854775807 then (if (x4 ++ ((t299 ++ x3).extract 0 ((wrap64 (((t299 ++ x3).size : Int) + x295001)) : Int).toNat)).size + 1 ≤ 9223372036854775807 then (if ((x4 ++ ((t299 ++ x3).extract 0 ((wrap64 (((t299 ++ x3).size : Int) + x295001)) : Int).toNat)) ++ (⟨#[46]⟩ : ByteArray)).size + ((t299 ++ x3).extract ((wrap64 (((t299 ++ x3).size : Int) + x295001)) : Int).toNat (t299 ++ x3).size).size ≤ 9223372036854775807 then (some (((x4 ++ ((t299 ++ x3).extract 0 ((wrap64 (((t299 ++ x3).size : Int) + x295001)) : Int).toNat)) ++ (⟨#[46]⟩ : ByteArray)) ++ ((t299 ++ x3).extract ((wrap64 (((t299 ++ x3).size : Int) + x295001)) : Int).toNat (t299 ++ x3).size))) else (none)) else (none)) else (none)) else (none)) else (none)) else (none))) else (if 0 ≤ (wrap64 ((x3.size : Int) + x295001)) then (if (wrap64 ((x3.size : Int) + x295001)) ≤ (x3.size : Int) then (if x4.size + (x3.extract 0 ((wrap64 ((x3.size : Int) + x295001)) : Int).toNat).size ≤ 9223372036854775807 then (if (x4 ++ (x3.extract 0 ((wrap64 ((x3.size : Int) + x295001)) : Int).toNat)).size + 1 ≤ 9223372036854775807 then (if ((x4 ++ (x3.extract 0 ((wrap64 ((x3.size : Int) + x295001)) : Int).toNat)) ++ (⟨#[46]⟩ : ByteArray)).size + (x3.extract ((wrap64 ((x3.size : Int) + x295001)) : Int).toNat x3.size).size ≤ 9223372036854775807 then (some (((x4 ++ (x3.extract 0 ((wrap64 ((x3.size : Int) + x295001)) : Int).toNat)) ++ (⟨#[46]⟩ : ByteArray)) ++ (x3.extract ((wrap64 ((x3.size : Int) + x295001)) : Int).toNat x3.size))) else (none)) else (none)) else (none)) else (none)) else (none)))
def impl_DecText.f (k : Nat) (a0_0 : Int) (a0_1 : Int) (l1 : List Int) : Option (ByteArray) := (impl_DecOk.f a0_0 a0_1).bind fun t295 => (if t295 = true then ((impl_size.f a0_0).bind fun t296 => ((strconv_Itoa.f t296 l1).bind fun t297 => (if a0_0 < 0 then (impl_DecText.j0 k t297 (⟨#[45]⟩ : ByteArray) a0_0 a0_1) else (impl_DecText.j0 k t297 (⟨#[]⟩ : ByteArray) a0_0 a0_1)))) else (some (⟨#[]⟩ : ByteArray)))
theorem impl_DecText.mono_l : ∀ k, (∀ y0 y1 y2 y3, LeO (impl_DecText.j0 k y0 y1 y2 y3) (impl_DecText.j0 (k + 1) y0 y1 y2 y3))
 | 0 => fun _ _ _ _ r h => by simp [impl_DecText.j0] at h
 | k + 1 => by
  have ih0 := impl_DecText.mono_l k
  ·intro y0 y1 y2 y3
   unfold impl_DecText.j0
   repeat' first
   | (with_reducible exact ih0 _ _ _ _)
   | (with_reducible exact LeO.refl _)
   | (with_reducible exact LeO.none _)
   | (with_reducible refine LeO.ite ?_ ?_)
   | (with_reducible refine LeO.bind ?_ (fun _ => ?_))
   | exact ih0 _ _ _ _
theorem impl_DecText.mono : ∀ a0 a1 a2 k, LeO (impl_DecText.f k a0 a1 a2) (impl_DecText.f (k + 1) a0 a1 a2) := by
 intro a0 a1 a2 k
 have ih0 := impl_DecText.mono_l k
 unfold impl_DecText.f
 repeat' first
   | (with_reducible exact ih0 _ _ _ _)
   | (with_reducible exact LeO.refl _)
   | (with_reducible exact LeO.none _)
   | (with_reducible refine LeO.ite ?_ ?_)
   | (with_reducible refine LeO.bind ?_ (fun _ => ?_))
   | exact ih0 _ _ _ _
set_option maxHeartbeats 8000000 in
set_option maxRecDepth 100000 in
theorem impl_DecText.calls (k : Nat) (a0_0 : Int) (a0_1 : Int) (A1 : Option Addr) (c1 : Nat) (l1 : List Int) (r : ByteArray) (w : World) (hr1 : Kd.C kPow w A1 l1.length l1) (hc1 : l1.length ≤ c1) (hg1 : A1 = some ⟨2, 0, none⟩ ∧ l1 = [1]) (h : impl_DecText.f k a0_0 a0_1 l1 = some r) :
  Calls Tryd.prog 52 #[.agg #[.int .i64 a0_0, .int .i64 a0_1]] w fun e w' => e = .returned (.string r) ∧ Below w.heap.size w w' := by
 have hu31 := Tryd.underlying31
 have HG1 := zA hg1
 clear hg1
 have HR1 := zA hr1
 have HC1 := zA hc1
 clear hr1 hc1
 have HB := zA (yH w.heap.size w)
 have H : ((impl_DecOk.f a0_0 a0_1).bind fun t295 => (if t295 = true then ((impl_size.f a0_0).bind fun t296 => ((strconv_Itoa.f t296 l1).bind fun t297 => (if a0_0 < 0 then (impl_DecText.j0 k t297 (⟨#[45]⟩ : ByteArray) a0_0 a0_1) else (impl_DecText.j0 k t297 (⟨#[]⟩ : ByteArray) a0_0 a0_1)))) else (some (⟨#[]⟩ : ByteArray)))) = some r := h
 clear h
 replace H := Option.bind_eq_some_iff.mp H
 obtain ⟨t295, A30, H⟩ := H
 have A3 := zA A30
 clear A30
 by_cases c4 : t295 = true
 ·subst c4
  have H1 := H; rw [if_pos rfl] at H1
  clear H
  have H := H1
  clear H1
  replace H := Option.bind_eq_some_iff.mp H
  obtain ⟨t296, A50, H⟩ := H
  have A5 := zA A50
  clear A50
  replace H := Option.bind_eq_some_iff.mp H
  obtain ⟨t297, A60, H⟩ := H
  have A6 := zA A60
  clear A60
  have HC7 := zA H
  clear H
  go_enter Tryd.func52, Tryd.ntmps52
  go_upto_if 16 with (first | ((with_reducible refine zS (N := 1) rfl ?_); refine zW ?hg (N := 1) ?hd (cs := #[.int .i64 a0_0, .int .i64 a0_1]) (t := 31) ?hr ?_; (case hd => rfl); (case hg => rfl); (case hr => first | (go_simp; done) | (go_simp; rfl)); intro gb294 hg w8 hbox hb; have BK294 := zA (hbox); have GW294 := zA ((by rw [hg]; exact (zQ apA) : w.heap.size ≤ gb294)); have GE294 := zA ((by rw [hg]; exact (zQ apA) : w.heap.size ≤ gb294)); replace HB := zA (zP apA hb); clear hb hbox hg; obtain ⟨hcz9_0, hcz9_1, hfz9_0, hfz9_1⟩ := zb2 BK294.out) | (go_at_call 48; (with_reducible refine (impl_DecOk.calls a0_0 a0_1 true _ A3.out).mono ?_); rintro e w10 ⟨rfl, hb⟩; replace BK294 := zA (zN (g := gb294) (o := .cells #[.int .i64 a0_0, .int .i64 a0_1] 31 (0, 0)) apR hb); replace HB := zA (zP apP hb); (try clear hb); (try clear hb2); (try clear hk); (try clear hi); obtain ⟨hcz11_0, hcz11_1, hfz11_0, hfz11_1⟩ := zb2 BK294.out) | (go_at_call 62; (with_reducible refine (impl_size.calls a0_0 t296 _ A5.out).mono ?_); rintro e w12 ⟨rfl, hb⟩; replace BK294 := zA (zN (g := gb294) (o := .cells #[.int .i64 a0_0, .int .i64 a0_1] 31 (0, 0)) apR hb); replace HB := zA (zP apP hb); (try clear hb); (try clear hb2); (try clear hk); (try clear hi)) | (go_at_call 61; (with_reducible refine (strconv_Itoa.calls t296 A1 c1 l1 t297 _ ?side1 ?side2 ?side3 A6.out).mono ?_); (case side1 => exact vc (Kd.C_below HR1.out HB.out)); (case side2 => exact HC1.out); (case side3 => exact HG1.out); rintro e w13 ⟨rfl, hb⟩; replace BK294 := zA (zN (g := gb294) (o := .cells #[.int .i64 a0_0, .int .i64 a0_1] 31 (0, 0)) apR hb); replace HB := zA (zP apP hb); (try clear hb); (try clear hb2); (try clear hk); (try clear hi); obtain ⟨hcz14_0, hcz14_1, hfz14_0, hfz14_1⟩ := zb2 BK294.out))
  repeat (go_quiet (first | ((with_reducible refine zS (N := 1) rfl ?_); refine zW ?hg (N := 1) ?hd (cs := #[.int .i64 a0_0, .int .i64 a0_1]) (t := 31) ?hr ?_; (case hd => rfl); (case hg => rfl); (case hr => first | (go_simp; done) | (go_simp; rfl)); intro gb294 hg w8 hbox hb; have BK294 := zA (hbox); have GW294 := zA ((by rw [hg]; exact (zQ apA) : w.heap.size ≤ gb294)); have GE294 := zA ((by rw [hg]; exact (zQ apA) : w.heap.size ≤ gb294)); replace HB := zA (zP apA hb); clear hb hbox hg; obtain ⟨hcz9_0, hcz9_1, hfz9_0, hfz9_1⟩ := zb2 BK294.out) | (go_at_call 48; (with_reducible refine (impl_DecOk.calls a0_0 a0_1 true _ A3.out).mono ?_); rintro e w10 ⟨rfl, hb⟩; replace BK294 := zA (zN (g := gb294) (o := .cells #[.int .i64 a0_0, .int .i64 a0_1] 31 (0, 0)) apR hb); replace HB := zA (zP apP hb); (try clear hb); (try clear hb2); (try clear hk); (try clear hi); obtain ⟨hcz11_0, hcz11_1, hfz11_0, hfz11_1⟩ := zb2 BK294.out) | (go_at_call 62; (with_reducible refine (impl_size.calls a0_0 t296 _ A5.out).mono ?_); rintro e w12 ⟨rfl, hb⟩; replace BK294 := zA (zN (g := gb294) (o := .cells #[.int .i64 a0_0, .int .i64 a0_1] 31 (0, 0)) apR hb); replace HB := zA (zP apP hb); (try clear hb); (try clear hb2); (try clear hk); (try clear hi)) | (go_at_call 61; (with_reducible refine (strconv_Itoa.calls t296 A1 c1 l1 t297 _ ?side1 ?side2 ?side3 A6.out).mono ?_); (case side1 => exact vc (Kd.C_below HR1.out HB.out)); (case side2 => exact HC1.out); (case side3 => exact HG1.out); rintro e w13 ⟨rfl, hb⟩; replace BK294 := zA (zN (g := gb294) (o := .cells #[.int .i64 a0_0, .int .i64 a0_1] 31 (0, 0)) apR hb); replace HB := zA (zP apP hb); (try clear hb); (try clear hb2); (try clear hk); (try clear hi); obtain ⟨hcz14_0, hcz14_1, hfz14_0, hfz14_1⟩ := zb2 BK294.out)); go_upto_if 16 with (first | ((with_reducible refine zS (N := 1) rfl ?_); refine zW ?hg (N := 1) ?hd (cs := #[.int .i64 a0_0, .int .i64 a0_1]) (t := 31) ?hr ?_; (case hd => rfl); (case hg => rfl); (case hr => first | (go_simp; done) | (go_simp; rfl)); intro gb294 hg w8 hbox hb; have BK294 := zA (hbox); have GW294 := zA ((by rw [hg]; exact (zQ apA) : w.heap.size ≤ gb294)); have GE294 := zA ((by rw [hg]; exact (zQ apA) : w.heap.size ≤ gb294)); replace HB := zA (zP apA hb); clear hb hbox hg; obtain ⟨hcz9_0, hcz9_1, hfz9_0, hfz9_1⟩ := zb2 BK294.out) | (go_at_call 48; (with_reducible refine (impl_DecOk.calls a0_0 a0_1 true _ A3.out).mono ?_); rintro e w10 ⟨rfl, hb⟩; replace BK294 := zA (zN (g := gb294) (o := .cells #[.int .i64 a0_0, .int .i64 a0_1] 31 (0, 0)) apR hb); replace HB := zA (zP apP hb); (try clear hb); (try clear hb2); (try clear hk); (try clear hi); obtain ⟨hcz11_0, hcz11_1, hfz11_0, hfz11_1⟩ := zb2 BK294.out) | (go_at_call 62; (with_reducible refine (impl_size.calls a0_0 t296 _ A5.out).mono ?_); rintro e w12 ⟨rfl, hb⟩; replace BK294 := zA (zN (g := gb294) (o := .cells #[.int .i64 a0_0, .int .i64 a0_1] 31 (0, 0)) apR hb); replace HB := zA (zP apP hb); (try clear hb); (try clear hb2); (try clear hk); (try clear hi)) | (go_at_call 61; (with_reducible refine (strconv_Itoa.calls t296 A1 c1 l1 t297 _ ?side1 ?side2 ?side3 A6.out).mono ?_); (case side1 => exact vc (Kd.C_below HR1.out HB.out)); (case side2 => exact HC1.out); (case side3 => exact HG1.out); rintro e w13 ⟨rfl, hb⟩; replace BK294 := zA (zN (g := gb294) (o := .cells #[.int .i64 a0_0, .int .i64 a0_1] 31 (0, 0)) apR hb); replace HB := zA (zP apP hb); (try clear hb); (try clear hb2); (try clear hk); (try clear hi); obtain ⟨hcz14_0, hcz14_1, hfz14_0, hfz14_1⟩ := zb2 BK294.out)))
  (try simp only [Act.put, zK, zL, zM])
  go_cut [4] (fun v4 wc => ∃ (kq : Nat) (x4_6 : ByteArray), v4 = .string x4_6 ∧ Aside0 (impl_DecText.j0 kq t297 x4_6 a0_0 a0_1 = some r) ∧ Aside0 (kq ≤ k) ∧ Aside0 (wc.heap[gb294]? = some (.cells #[.int .i64 a0_0, .int .i64 a0_1] 31 (0, 0))) ∧ Aside0 (Below w.heap.size w wc))
  case first =>
   have H := HC7.out
   clear HC7
   by_cases c15 : a0_0 < 0
   ·rw [if_pos c15] at H
    have c15b0 : decide (a0_0 < 0) = true := yE c15
    clear c15
    (first | rw [c15b0] | (simp only [i64_w, i32_w]; rw [c15b0]) | skip)
    have H' := zA H
    clear H
    go_wp2
    repeat (go_quiet (fail); try go_wp2)
    go_meet
    case rel => exact ⟨_, ((⟨#[45]⟩ : ByteArray)), apC, H', ⟨by first | omega | exact yJ _⟩, ⟨apR⟩, ⟨apP⟩⟩
   ·rw [if_neg c15] at H
    have c15b0 : decide (a0_0 < 0) = false := decide_eq_false c15
    clear c15
    (first | rw [c15b0] | (simp only [i64_w, i32_w]; rw [c15b0]) | skip)
    have H' := zA H
    clear H
    go_wp2
    repeat (go_quiet (fail); try go_wp2)
    go_meet
    case rel => exact ⟨_, ((⟨#[]⟩ : ByteArray)), apC, H', ⟨by first | omega | exact yJ _⟩, ⟨apR⟩, ⟨apP⟩⟩
  case rest =>
   clear HC7
   try clear c1 p2 c4 c5 c15 c15b0 hcz11_0 hcz11_1 hcz14_0 hcz14_1 hcz9_0 hcz9_1 hfz11_0 hfz11_1 hfz14_0 hfz14_1 hfz9_0 hfz9_1
   obtain ⟨kq, x4_6, rfl, HA, HJ6, BK294, HB⟩ := hcut
   cases kq with
   | zero => exact absurd HA.out (by simp [impl_DecText.j0])
   | succ kj6 =>
    have H := HA.out
    clear HA
    simp only [impl_DecText.j0] at H
    by_cases c16 : a0_1 ≥ 0
    ·rw [if_pos c16] at H
     have c16b0 : decide (0 ≤ a0_1) = true := yE c16
     clear c16
     by_cases c17 : x4_6.size + t297.size ≤ 9223372036854775807
     ·rw [if_pos c17] at H
      have c17b0 := eq_true c17
      have c17b1 : decide (x4_6.size + t297.size ≤ 9223372036854775807) = true := yE c17
      try have c17b2 : (9223372036854775807 < x4_6.size + t297.size) = False := eq_false (Nat.not_lt.2 c17)
      replace H := Option.bind_eq_some_iff.mp H
      obtain ⟨t298, A180, H⟩ := H
      have A18 := zA A180
      clear A180
      by_cases c19 : (x4_6 ++ t297).size + t298.size ≤ 9223372036854775807
      ·rw [if_pos c19] at H
       have c19b0 := eq_true c19
       have c19b1 : decide ((x4_6 ++ t297).size + t298.size ≤ 9223372036854775807) = true := yE c19
       try have c19b2 : (9223372036854775807 < (x4_6 ++ t297).size + t298.size) = False := eq_false (Nat.not_lt.2 c19)
       try simp only [ByteArray.size_append] at c19b2
       obtain rfl := yG H
       obtain ⟨hcz20_0, hcz20_1, hfz20_0, hfz20_1⟩ := zb2 BK294.out
       go_wp2_with (first | (go_at_call 63; (with_reducible refine (strings_Repeat.calls (⟨#[48]⟩ : ByteArray) a0_1 t298 _ A18.out).mono ?_); rintro e w21 ⟨rfl, hb⟩; replace HB := zA (zP apA hb); (try clear hb); (try clear hb2); (try clear hk); (try clear hi)))
       repeat (go_quiet (first | (go_at_call 63; (with_reducible refine (strings_Repeat.calls (⟨#[48]⟩ : ByteArray) a0_1 t298 _ A18.out).mono ?_); rintro e w21 ⟨rfl, hb⟩; replace HB := zA (zP apA hb); (try clear hb); (try clear hb2); (try clear hk); (try clear hi))); try go_wp2_with (first | (go_at_call 63; (with_reducible refine (strings_Repeat.calls (⟨#[48]⟩ : ByteArray) a0_1 t298 _ A18.out).mono ?_); rintro e w21 ⟨rfl, hb⟩; replace HB := zA (zP apA hb); (try clear hb); (try clear hb2); (try clear hk); (try clear hi))))
       go_ret
       exact ⟨apD, apA⟩
      ·rw [if_neg c19] at H
       exact absurd H (by simp)
     ·rw [if_neg c17] at H
      exact absurd H (by simp)
    ·rw [if_neg c16] at H
     have c16b0 : decide (0 ≤ a0_1) = false := decide_eq_false c16
     clear c16
     by_cases c22 : (wrap64 ((wrap64 (-a0_1)) - (t297.size : Int))) ≥ 0
     ·rw [if_pos c22] at H
      have c22b0 : decide (0 ≤ (wrap64 ((wrap64 (-a0_1)) - (t297.size : Int)))) = true := yE c22
      clear c22
      replace H := Option.bind_eq_some_iff.mp H
      obtain ⟨t299, A230, H⟩ := H
      have A23 := zA A230
      clear A230
      by_cases c24 : t299.size + t297.size ≤ 9223372036854775807
      ·rw [if_pos c24] at H
       have c24b0 := eq_true c24
       have c24b1 : decide (t299.size + t297.size ≤ 9223372036854775807) = true := yE c24
       try have c24b2 : (9223372036854775807 < t299.size + t297.size) = False := eq_false (Nat.not_lt.2 c24)
       obtain ⟨ji25, hji25⟩ : ∃ j_ : Int, (wrap64 (((t299 ++ t297).size : Int) + a0_1)) = j_ := ⟨_, rfl⟩
       replace H : (if 0 ≤ (ji25) then (if (ji25) ≤ ((t299 ++ t297).size : Int) then (if x4_6.size + ((t299 ++ t297).extract 0 ((ji25) : Int).toNat).size ≤ 9223372036854775807 then (if (x4_6 ++ ((t299 ++ t297).extract 0 ((ji25) : Int).toNat)).size + 1 ≤ 9223372036854775807 then (if ((x4_6 ++ ((t299 ++ t297).extract 0 ((ji25) : Int).toNat)) ++ (⟨#[46]⟩ : ByteArray)).size + ((t299 ++ t297).extract ((ji25) : Int).toNat (t299 ++ t297).size).size ≤ 9223372036854775807 then (some (((x4_6 ++ ((t299 ++ t297).extract 0 ((ji25) : Int).toNat)) ++ (⟨#[46]⟩ : ByteArray)) ++ ((t299 ++ t297).extract ((ji25) : Int).toNat (t299 ++ t297).size))) else (none)) else (none)) else (none)) else (none)) else (none)) = some r := by first | (rw [hji25] at H; exact H) | (simp only [hji25] at H ⊢; exact H)
       (try rw [hji25] at A23)
       (try (have hji25a := hji25; simp only [ByteArray.size_append, Int.natCast_add] at hji25a))
       have hji25w : (IntKind.i64.wrap (((t299 ++ t297).size : Int) + a0_1)) = ji25 := (i64_w _).trans hji25
       by_cases c26 : 0 ≤ (ji25)
       ·rw [if_pos c26] at H
        have c26b0 := eq_true c26
        have c26b1 : decide (0 ≤ (ji25)) = true := yE c26
        clear c26
        by_cases c27 : (ji25) ≤ ((t299 ++ t297).size : Int)
        ·rw [if_pos c27] at H
         (try (have c27b9 := eq_true c27; simp only [ByteArray.size_append, Int.natCast_add] at c27b9))
         have c27b0 := eq_true c27
         have c27b1 : decide ((ji25) ≤ ((t299 ++ t297).size : Int)) = true := yE c27
         by_cases c28 : x4_6.size + ((t299 ++ t297).extract 0 ((ji25) : Int).toNat).size ≤ 9223372036854775807
         ·rw [if_pos c28] at H
          (try (have c28b9 := eq_true c28; simp only [ByteArray.size_append, Int.natCast_add] at c28b9))
          have c28b0 := eq_true c28
          have c28b1 : decide (x4_6.size + ((t299 ++ t297).extract 0 ((ji25) : Int).toNat).size ≤ 9223372036854775807) = true := yE c28
          try have c28b2 : (9223372036854775807 < x4_6.size + ((t299 ++ t297).extract 0 ((ji25) : Int).toNat).size) = False := eq_false (Nat.not_lt.2 c28)
          try simp only [ByteArray.size_append] at c28b2
          by_cases c29 : (x4_6 ++ ((t299 ++ t297).extract 0 ((ji25) : Int).toNat)).size + 1 ≤ 9223372036854775807
          ·rw [if_pos c29] at H
           (try (have c29b9 := eq_true c29; simp only [ByteArray.size_append, Int.natCast_add] at c29b9))
           have c29b0 := eq_true c29
           have c29b1 : decide ((x4_6 ++ ((t299 ++ t297).extract 0 ((ji25) : Int).toNat)).size + 1 ≤ 9223372036854775807) = true := yE c29
           try have c29b2 : (9223372036854775807 < (x4_6 ++ ((t299 ++ t297).extract 0 ((ji25) : Int).toNat)).size + 1) = False := eq_false (Nat.not_lt.2 c29)
           try simp only [ByteArray.size_append] at c29b2
           have c30b0 := eq_true (yF apB : 0 ≤ (ji25))
           have c31b0 := eq_true (yF apB : (ji25) ≤ ((t299 ++ t297).size : Int))
           (try (have c31b9 := c31b0; simp only [ByteArray.size_append, Int.natCast_add] at c31b9))
           by_cases c32 : ((x4_6 ++ ((t299 ++ t297).extract 0 ((ji25) : Int).toNat)) ++ (⟨#[46]⟩ : ByteArray)).size + ((t299 ++ t297).extract ((ji25) : Int).toNat (t299 ++ t297).size).size ≤ 9223372036854775807
           ·rw [if_pos c32] at H
            (try (have c32b9 := eq_true c32; simp only [ByteArray.size_append, Int.natCast_add, show ((⟨#[46]⟩ : ByteArray)).size = 1 from rfl] at c32b9))
            (try (have c32b8 := eq_false (Nat.not_lt.2 c32); simp only [ByteArray.size_append, show ((⟨#[46]⟩ : ByteArray)).size = 1 from rfl] at c32b8))
            have c32b0 := eq_true c32
            have c32b1 : decide (((x4_6 ++ ((t299 ++ t297).extract 0 ((ji25) : Int).toNat)) ++ (⟨#[46]⟩ : ByteArray)).size + ((t299 ++ t297).extract ((ji25) : Int).toNat (t299 ++ t297).size).size ≤ 9223372036854775807) = true := yE c32
            try have c32b2 : (9223372036854775807 < ((x4_6 ++ ((t299 ++ t297).extract 0 ((ji25) : Int).toNat)) ++ (⟨#[46]⟩ : ByteArray)).size + ((t299 ++ t297).extract ((ji25) : Int).toNat (t299 ++ t297).size).size) = False := eq_false (Nat.not_lt.2 c32)
            try simp only [ByteArray.size_append] at c32b2
            obtain rfl := yG H
            obtain ⟨hcz33_0, hcz33_1, hfz33_0, hfz33_1⟩ := zb2 BK294.out
            go_wp2_with (first | (go_at_call 63; (with_reducible refine (strings_Repeat.calls (⟨#[48]⟩ : ByteArray) (wrap64 ((wrap64 ((wrap64 (-a0_1)) - (t297.size : Int))) + 1)) t299 _ A23.out).mono ?_); rintro e w34 ⟨rfl, hb⟩; replace BK294 := zA (zN (g := gb294) (o := .cells #[.int .i64 a0_0, .int .i64 a0_1] 31 (0, 0)) apR hb); replace HB := zA (zP apP hb); (try clear hb); (try clear hb2); (try clear hk); (try clear hi); obtain ⟨hcz35_0, hcz35_1, hfz35_0, hfz35_1⟩ := zb2 BK294.out))
            repeat (go_quiet (first | (go_at_call 63; (with_reducible refine (strings_Repeat.calls (⟨#[48]⟩ : ByteArray) (wrap64 ((wrap64 ((wrap64 (-a0_1)) - (t297.size : Int))) + 1)) t299 _ A23.out).mono ?_); rintro e w34 ⟨rfl, hb⟩; replace BK294 := zA (zN (g := gb294) (o := .cells #[.int .i64 a0_0, .int .i64 a0_1] 31 (0, 0)) apR hb); replace HB := zA (zP apP hb); (try clear hb); (try clear hb2); (try clear hk); (try clear hi); obtain ⟨hcz35_0, hcz35_1, hfz35_0, hfz35_1⟩ := zb2 BK294.out)); try go_wp2_with (first | (go_at_call 63; (with_reducible refine (strings_Repeat.calls (⟨#[48]⟩ : ByteArray) (wrap64 ((wrap64 ((wrap64 (-a0_1)) - (t297.size : Int))) + 1)) t299 _ A23.out).mono ?_); rintro e w34 ⟨rfl, hb⟩; replace BK294 := zA (zN (g := gb294) (o := .cells #[.int .i64 a0_0, .int .i64 a0_1] 31 (0, 0)) apR hb); replace HB := zA (zP apP hb); (try clear hb); (try clear hb2); (try clear hk); (try clear hi); obtain ⟨hcz35_0, hcz35_1, hfz35_0, hfz35_1⟩ := zb2 BK294.out)))
            go_ret
            exact ⟨by first | rfl | (simp [errW_none, errW_some] <;> rfl) | (simp only [← hji25]; first | rfl | (simp [errW_none, errW_some] <;> rfl)) | (simp [*, errW_none, errW_some] <;> rfl), apP⟩
           ·rw [if_neg c32] at H
            exact absurd H (by simp)
          ·rw [if_neg c29] at H
           exact absurd H (by simp)
         ·rw [if_neg c28] at H
          exact absurd H (by simp)
        ·rw [if_neg c27] at H
         exact absurd H (by simp)
       ·rw [if_neg c26] at H
        exact absurd H (by simp)
      ·rw [if_neg c24] at H
       exact absurd H (by simp)
     ·rw [if_neg c22] at H
      have c22b0 : decide (0 ≤ (wrap64 ((wrap64 (-a0_1)) - (t297.size : Int)))) = false := decide_eq_false c22
      clear c22
      obtain ⟨ji36, hji36⟩ : ∃ j_ : Int, (wrap64 ((t297.size : Int) + a0_1)) = j_ := ⟨_, rfl⟩
      replace H : (if 0 ≤ (ji36) then (if (ji36) ≤ (t297.size : Int) then (if x4_6.size + (t297.extract 0 ((ji36) : Int).toNat).size ≤ 9223372036854775807 then (if (x4_6 ++ (t297.extract 0 ((ji36) : Int).toNat)).size + 1 ≤ 9223372036854775807 then (if ((x4_6 ++ (t297.extract 0 ((ji36) : Int).toNat)) ++ (⟨#[46]⟩ : ByteArray)).size + (t297.extract ((ji36) : Int).toNat t297.size).size ≤ 9223372036854775807 then (some (((x4_6 ++ (t297.extract 0 ((ji36) : Int).toNat)) ++ (⟨#[46]⟩ : ByteArray)) ++ (t297.extract ((ji36) : Int).toNat t297.size))) else (none)) else (none)) else (none)) else (none)) else (none)) = some r := by first | (rw [hji36] at H; exact H) | (simp only [hji36] at H ⊢; exact H)
      have hji36w : (IntKind.i64.wrap ((t297.size : Int) + a0_1)) = ji36 := (i64_w _).trans hji36
      by_cases c37 : 0 ≤ (ji36)
      ·rw [if_pos c37] at H
       have c37b0 := eq_true c37
       have c37b1 : decide (0 ≤ (ji36)) = true := yE c37
       clear c37
       by_cases c38 : (ji36) ≤ (t297.size : Int)
       ·rw [if_pos c38] at H
        have c38b0 := eq_true c38
        have c38b1 : decide ((ji36) ≤ (t297.size : Int)) = true := yE c38
        clear c38
        by_cases c39 : x4_6.size + (t297.extract 0 ((ji36) : Int).toNat).size ≤ 9223372036854775807
        ·rw [if_pos c39] at H
         have c39b0 := eq_true c39
         have c39b1 : decide (x4_6.size + (t297.extract 0 ((ji36) : Int).toNat).size ≤ 9223372036854775807) = true := yE c39
         try have c39b2 : (9223372036854775807 < x4_6.size + (t297.extract 0 ((ji36) : Int).toNat).size) = False := eq_false (Nat.not_lt.2 c39)
         by_cases c40 : (x4_6 ++ (t297.extract 0 ((ji36) : Int).toNat)).size + 1 ≤ 9223372036854775807
         ·rw [if_pos c40] at H
          (try (have c40b9 := eq_true c40; simp only [ByteArray.size_append, Int.natCast_add] at c40b9))
          have c40b0 := eq_true c40
          have c40b1 : decide ((x4_6 ++ (t297.extract 0 ((ji36) : Int).toNat)).size + 1 ≤ 9223372036854775807) = true := yE c40
          try have c40b2 : (9223372036854775807 < (x4_6 ++ (t297.extract 0 ((ji36) : Int).toNat)).size + 1) = False := eq_false (Nat.not_lt.2 c40)
          try simp only [ByteArray.size_append] at c40b2
          have c41b0 := eq_true (yF apB : 0 ≤ (ji36))
          have c42b0 := eq_true (yF apB : (ji36) ≤ (t297.size : Int))
          by_cases c43 : ((x4_6 ++ (t297.extract 0 ((ji36) : Int).toNat)) ++ (⟨#[46]⟩ : ByteArray)).size + (t297.extract ((ji36) : Int).toNat t297.size).size ≤ 9223372036854775807
          ·rw [if_pos c43] at H
           (try (have c43b9 := eq_true c43; simp only [ByteArray.size_append, Int.natCast_add, show ((⟨#[46]⟩ : ByteArray)).size = 1 from rfl] at c43b9))
           (try (have c43b8 := eq_false (Nat.not_lt.2 c43); simp only [ByteArray.size_append, show ((⟨#[46]⟩ : ByteArray)).size = 1 from rfl] at c43b8))
           have c43b0 := eq_true c43
           have c43b1 : decide (((x4_6 ++ (t297.extract 0 ((ji36) : Int).toNat)) ++ (⟨#[46]⟩ : ByteArray)).size + (t297.extract ((ji36) : Int).toNat t297.size).size ≤ 9223372036854775807) = true := yE c43
           try have c43b2 : (9223372036854775807 < ((x4_6 ++ (t297.extract 0 ((ji36) : Int).toNat)) ++ (⟨#[46]⟩ : ByteArray)).size + (t297.extract ((ji36) : Int).toNat t297.size).size) = False := eq_false (Nat.not_lt.2 c43)
           try simp only [ByteArray.size_append] at c43b2
           obtain rfl := yG H
           obtain ⟨hcz44_0, hcz44_1, hfz44_0, hfz44_1⟩ := zb2 BK294.out
           go_wp2
           repeat (go_quiet (fail); try go_wp2)
           go_ret
           exact ⟨by first | rfl | (simp [errW_none, errW_some] <;> rfl) | (simp only [← hji36]; first | rfl | (simp [errW_none, errW_some] <;> rfl)) | (simp [*, errW_none, errW_some] <;> rfl), apP⟩
          ·rw [if_neg c43] at H
           exact absurd H (by simp)
         ·rw [if_neg c40] at H
          exact absurd H (by simp)
        ·rw [if_neg c39] at H
         exact absurd H (by simp)
       ·rw [if_neg c38] at H
        exact absurd H (by simp)
      ·rw [if_neg c37] at H
       exact absurd H (by simp)
 ·replace c4 := Bool.eq_false_iff.mpr c4
  subst c4
  have H1 := H; rw [if_neg (show ¬ (false = true) by decide)] at H1
  clear H
  have H := H1
  clear H1
  obtain rfl := yG H
  go_enter Tryd.func52, Tryd.ntmps52
  go_wp2_with (first | ((with_reducible refine zS (N := 1) rfl ?_); refine zW ?hg (N := 1) ?hd (cs := #[.int .i64 a0_0, .int .i64 a0_1]) (t := 31) ?hr ?_; (case hd => rfl); (case hg => rfl); (case hr => first | (go_simp; done) | (go_simp; rfl)); intro gb294 hg w45 hbox hb; have BK294 := zA (hbox); have GW294 := zA ((by rw [hg]; exact (zQ apA) : w.heap.size ≤ gb294)); have GE294 := zA ((by rw [hg]; exact (zQ apA) : w.heap.size ≤ gb294)); replace HB := zA (zP apA hb); clear hb hbox hg; obtain ⟨hcz46_0, hcz46_1, hfz46_0, hfz46_1⟩ := zb2 BK294.out) | (go_at_call 48; (with_reducible refine (impl_DecOk.calls a0_0 a0_1 false _ A3.out).mono ?_); rintro e w47 ⟨rfl, hb⟩; replace HB := zA (zP apA hb); (try clear hb); (try clear hb2); (try clear hk); (try clear hi)))
  repeat (go_quiet (first | ((with_reducible refine zS (N := 1) rfl ?_); refine zW ?hg (N := 1) ?hd (cs := #[.int .i64 a0_0, .int .i64 a0_1]) (t := 31) ?hr ?_; (case hd => rfl); (case hg => rfl); (case hr => first | (go_simp; done) | (go_simp; rfl)); intro gb294 hg w45 hbox hb; have BK294 := zA (hbox); have GW294 := zA ((by rw [hg]; exact (zQ apA) : w.heap.size ≤ gb294)); have GE294 := zA ((by rw [hg]; exact (zQ apA) : w.heap.size ≤ gb294)); replace HB := zA (zP apA hb); clear hb hbox hg; obtain ⟨hcz46_0, hcz46_1, hfz46_0, hfz46_1⟩ := zb2 BK294.out) | (go_at_call 48; (with_reducible refine (impl_DecOk.calls a0_0 a0_1 false _ A3.out).mono ?_); rintro e w47 ⟨rfl, hb⟩; replace HB := zA (zP apA hb); (try clear hb); (try clear hb2); (try clear hk); (try clear hi))); try go_wp2_with (first | ((with_reducible refine zS (N := 1) rfl ?_); refine zW ?hg (N := 1) ?hd (cs := #[.int .i64 a0_0, .int .i64 a0_1]) (t := 31) ?hr ?_; (case hd => rfl); (case hg => rfl); (case hr => first | (go_simp; done) | (go_simp; rfl)); intro gb294 hg w45 hbox hb; have BK294 := zA (hbox); have GW294 := zA ((by rw [hg]; exact (zQ apA) : w.heap.size ≤ gb294)); have GE294 := zA ((by rw [hg]; exact (zQ apA) : w.heap.size ≤ gb294)); replace HB := zA (zP apA hb); clear hb hbox hg; obtain ⟨hcz46_0, hcz46_1, hfz46_0, hfz46_1⟩ := zb2 BK294.out) | (go_at_call 48; (with_reducible refine (impl_DecOk.calls a0_0 a0_1 false _ A3.out).mono ?_); rintro e w47 ⟨rfl, hb⟩; replace HB := zA (zP apA hb); (try clear hb); (try clear hb2); (try clear hk); (try clear hi))))
  go_ret
  exact ⟨apD, apA⟩

end Go.Proofs.YthaceblepbkjjaaDoor.Q

namespace Go.Proofs.YthaceblepbkjjaaDoor.Q
open Go.RowKit Go.Proofs.YthaceblepbkjjaaDoorW.PrintWords Go.Proofs.YthaceblepbkjjaaDoorW.PrintLast Go.Proofs.YthaceblepbkjjaaDoorW.PrintMore Go.Proofs.YthaceblepbkjjaaDoorX
attribute [local go_sem] max2_int min2_int max_two min_two max_three min_three max_four min_four   -- for this text's walks alone
set_option linter.unusedVariables false
set_option linter.unusedSimpArgs false

def spec_l7Escape.j0 : Nat → Int → ByteArray → Bool → Option (ByteArray)
 | 0, _, _, _ => none
 | k + 1, x0, x3, x4 => if x4 = true then (some (strOfNums (([92, x0] : List Int)))) else (if x0 ≥ 32 then (if x0 < 127 then (some (strOfNums (([x0] : List Int)))) else (if 0 ≤ ((Int.tdiv x0 16) % 256) then (if ((Int.tdiv x0 16) % 256) < (x3.size : Int) then (if 0 ≤ (Int.tmod x0 16) then (if (Int.tmod x0 16) < (x3.size : Int) then ((some (([bt x3 ((Int.tdiv x0 16) % 256), bt x3 (Int.tmod x0 16)] : List Int) : List Int)).bind fun y204 => (if 4 + (strOfNums y204).size ≤ 9223372036854775807 then (some ((⟨#[92, 117, 48, 48]⟩ : ByteArray) ++ (strOfNums y204))) else (none))) else (none)) else (none)) else (none)) else (none))) else (if 0 ≤ ((Int.tdiv x0 16) % 256) then (if ((Int.tdiv x0 16) % 256) < (x3.size : Int) then (if 0 ≤ (Int.tmod x0 16) then (if (Int.tmod x0 16) < (x3.size : Int) then ((some (([bt x3 ((Int.tdiv x0 16) % 256), bt x3 (Int.tmod x0 16)] : List Int) : List Int)).bind fun y207 => (if 4 + (strOfNums y207).size ≤ 9223372036854775807 then (some ((⟨#[92, 117, 48, 48]⟩ : ByteArray) ++ (strOfNums y207))) else (none))) else (none)) else (none)) else (none)) else (none)))
def spec_l7Escape.f (k : Nat) (a0 : Int) : Option (ByteArray) := if a0 = 34 then (spec_l7Escape.j0 k a0 (⟨#[48, 49, 50, 51, 52, 53, 54, 55, 56, 57, 97, 98, 99, 100, 101, 102]⟩ : ByteArray) true) else (spec_l7Escape.j0 k a0 (⟨#[48, 49, 50, 51, 52, 53, 54, 55, 56, 57, 97, 98, 99, 100, 101, 102]⟩ : ByteArray) (a0 == 92))
theorem spec_l7Escape.mono_l : ∀ k, (∀ y0 y1 y2, LeO (spec_l7Escape.j0 k y0 y1 y2) (spec_l7Escape.j0 (k + 1) y0 y1 y2))
 | 0 => fun _ _ _ r h => by simp [spec_l7Escape.j0] at h
 | k + 1 => by
  have ih0 := spec_l7Escape.mono_l k
  ·intro y0 y1 y2
   unfold spec_l7Escape.j0
   repeat' first
   | (with_reducible exact ih0 _ _ _)
   | (with_reducible exact LeO.refl _)
   | (with_reducible exact LeO.none _)
   | (with_reducible refine LeO.ite ?_ ?_)
   | (with_reducible refine LeO.bind ?_ (fun _ => ?_))
   | exact ih0 _ _ _
theorem spec_l7Escape.mono : ∀ a0 k, LeO (spec_l7Escape.f k a0) (spec_l7Escape.f (k + 1) a0) := by
 intro a0 k
 have ih0 := spec_l7Escape.mono_l k
 unfold spec_l7Escape.f
 repeat' first
   | (with_reducible exact ih0 _ _ _)
   | (with_reducible exact LeO.refl _)
   | (with_reducible exact LeO.none _)
   | (with_reducible refine LeO.ite ?_ ?_)
   | (with_reducible refine LeO.bind ?_ (fun _ => ?_))
   | exact ih0 _ _ _
def spec_l7Escape.T6 : Bool × List (List Nat × List Nat) := (true, [([], []), ([], []), ([1], [1]), ([0, 2], [0, 2]), ([], []), ([], []), ([5], [5]), ([4, 6], [4, 6]), ([3, 7], [3, 7]), ([8], [8]), ([9], [9]), ([10, 0, 1, 2, 3, 4, 5, 6, 7, 8, 9, 10], [10])])
def spec_l7Escape.B6 : List Nat := [0, 0, 2, 7, 0, 0, 32, 112, 255, 511, 1023, 2047]
theorem spec_l7Escape.tab6 : rtab .any (opsOf Tryd.f47 6) = spec_l7Escape.T6 := by kernel_rfl
theorem spec_l7Escape.bits6 : waitsOk spec_l7Escape.T6.2 spec_l7Escape.B6 = true := by kernel_rfl
set_option maxHeartbeats 8000000 in
set_option maxRecDepth 100000 in
theorem spec_l7Escape.calls (k : Nat) (a0 : Int) (r : ByteArray) (w : World) (h : spec_l7Escape.f k a0 = some r) :
  Calls Tryd.prog 47 #[.int .u8 a0] w fun e w' => e = .returned (.string r) ∧ Below w.heap.size w w' := by
 have HB := zA (yH w.heap.size w)
 have H : (if a0 = 34 then (spec_l7Escape.j0 k a0 (⟨#[48, 49, 50, 51, 52, 53, 54, 55, 56, 57, 97, 98, 99, 100, 101, 102]⟩ : ByteArray) true) else (spec_l7Escape.j0 k a0 (⟨#[48, 49, 50, 51, 52, 53, 54, 55, 56, 57, 97, 98, 99, 100, 101, 102]⟩ : ByteArray) (a0 == 92))) = some r := h
 clear h
 have HC2 := zA H
 clear H
 go_enter Tryd.func47, Tryd.ntmps47
 go_upto_region 2 with (fail)
 go_cut [4] (fun v4 wc => ∃ (kq : Nat) (x4_1 : Bool), v4 = .bool x4_1 ∧ Aside0 (spec_l7Escape.j0 kq a0 (⟨#[48, 49, 50, 51, 52, 53, 54, 55, 56, 57, 97, 98, 99, 100, 101, 102]⟩ : ByteArray) x4_1 = some r) ∧ Aside0 (kq ≤ k) ∧ Aside0 (Below w.heap.size w wc))
 case first =>
  have H := HC2.out
  clear HC2
  by_cases c3 : a0 = 34
  ·rw [if_pos c3] at H
   have c3b0 : (a0 == 34) = true := beq_iff_eq.mpr c3
   have c3b1 : (a0 != 34) = false := bne_eq_false_iff_eq.mpr c3
   clear c3
   (first | rw [c3b0] | (simp only [i64_w, i32_w]; rw [c3b0]) | skip)
   have H' := zA H
   clear H
   go_wp2
   go_meet
   case rel => exact ⟨_, (true), apC, H', ⟨by first | omega | exact yJ _⟩, ⟨apA⟩⟩
  ·rw [if_neg c3] at H
   have c3b0 : (a0 == 34) = false := beq_eq_false_iff_ne.mpr c3
   have c3b1 : (a0 != 34) = true := bne_iff_ne.mpr c3
   (first | rw [c3b0] | (simp only [i64_w, i32_w]; rw [c3b0]) | skip)
   have H' := zA H
   clear H
   go_wp2
   go_meet
   case rel => exact ⟨_, ((a0 == 92)), apC, H', ⟨by first | omega | exact yJ _⟩, ⟨apA⟩⟩
 case rest =>
  clear HC2
  try clear p2 c3 c3b0 c3b1
  obtain ⟨kq, x4_1, rfl, HA, HJ1, HB⟩ := hcut
  cases kq with
  | zero => exact absurd HA.out (by simp [spec_l7Escape.j0])
  | succ kj1 =>
   have H := HA.out
   clear HA
   simp only [spec_l7Escape.j0] at H
   by_cases c4 : x4_1 = true
   ·subst c4
    have H1 := H; rw [if_pos rfl] at H1
    clear H
    have H := H1
    clear H1
    obtain ⟨y198, hy198⟩ : ∃ y_ : List Int, y_ = (([92, a0] : List Int)) := ⟨_, rfl⟩
    replace H : (some (strOfNums y198)) = some r := by first | (rw [hy198]; with_reducible exact H) | (have H2_ := (Option.bind_some _ _).symm.trans H; rw [hy198]; with_reducible exact H2_) | (have H2_ := (Option.bind_some _ _).symm.trans H; with_reducible exact H2_) | with_reducible exact H | (rw [hy198]; exact H) | exact H
    have Ny198 := zA hy198
    clear hy198
    obtain rfl := yG H
    go_wp2_with (first | ((with_reducible refine zS (N := 12) rfl ?_); refine Kd.R_lit (Kd.int .u8) _ 5 ?hg (N := 12) ?hd (xs := ([92, a0] : List Int)) (inner := [.int .u8 92, .int .u8 a0]) (ok := fun _ => True) (okp := fun _ => True) ?hr ?hp (fun _ hk => hk) trivial (yH _ _) (yJ _) (by simp) ?_; (case hd => rfl); (case hg => rfl); (case hr => first | (go_simp; done) | (go_simp; rfl)); (case hp => exact (Reps.one (show Kd.M (Kd.int .u8) _ _ _ 92 [.int .u8 92] from rfl) (Reps.one (show Kd.M (Kd.int .u8) _ _ _ a0 [.int .u8 a0] from rfl) (Reps.none _ _)))); intro v199 w5 ho6 hb hg_ hnew_; clear hg_ hnew_; (first | rw [← Ny198.out] at ho6 | (simp only [Int.reduceToNat] at ho6; rw [← Ny198.out] at ho6)); have HO200 := zA (Kd.R_lower ho6 (zQ apA)); replace HB := zA (zP apA hb); clear hb ho6; have hcv7 := own_string (P := Tryd.prog) Tryd.underlying65 Tryd.underlying5 Tryd.underlying9 (Kd.own_of_R HO200.out)))
    go_ret
    exact ⟨apD, apA⟩
   ·replace c4 := Bool.eq_false_iff.mpr c4
    subst c4
    have H1 := H; rw [if_neg (show ¬ (false = true) by decide)] at H1
    clear H
    have H := H1
    clear H1
    by_cases c8 : a0 ≥ 32
    ·rw [if_pos c8] at H
     have c8b0 : decide (32 ≤ a0) = true := yE c8
     clear c8
     by_cases c9 : a0 < 127
     ·rw [if_pos c9] at H
      have c9b0 : decide (a0 < 127) = true := yE c9
      clear c9
      obtain ⟨y201, hy201⟩ : ∃ y_ : List Int, y_ = (([a0] : List Int)) := ⟨_, rfl⟩
      replace H : (some (strOfNums y201)) = some r := by first | (rw [hy201]; with_reducible exact H) | (have H2_ := (Option.bind_some _ _).symm.trans H; rw [hy201]; with_reducible exact H2_) | (have H2_ := (Option.bind_some _ _).symm.trans H; with_reducible exact H2_) | with_reducible exact H | (rw [hy201]; exact H) | exact H
      have Ny201 := zA hy201
      clear hy201
      obtain rfl := yG H
      go_wp2_with (first | ((with_reducible refine zS (N := 22) rfl ?_); refine Kd.R_lit (Kd.int .u8) _ 5 ?hg (N := 22) ?hd (xs := ([a0] : List Int)) (inner := [.int .u8 a0]) (ok := fun _ => True) (okp := fun _ => True) ?hr ?hp (fun _ hk => hk) trivial (yH _ _) (yJ _) (by simp) ?_; (case hd => rfl); (case hg => rfl); (case hr => first | (go_simp; done) | (go_simp; rfl)); (case hp => exact (Reps.one (show Kd.M (Kd.int .u8) _ _ _ a0 [.int .u8 a0] from rfl) (Reps.none _ _))); intro v202 w10 ho11 hb hg_ hnew_; clear hg_ hnew_; (first | rw [← Ny201.out] at ho11 | (simp only [Int.reduceToNat] at ho11; rw [← Ny201.out] at ho11)); have HO203 := zA (Kd.R_lower ho11 (zQ apA)); replace HB := zA (zP apA hb); clear hb ho11; have hcv12 := own_string (P := Tryd.prog) Tryd.underlying65 Tryd.underlying5 Tryd.underlying9 (Kd.own_of_R HO203.out)))
      go_ret
      exact ⟨apD, apA⟩
     ·rw [if_neg c9] at H
      have c9b0 : decide (a0 < 127) = false := decide_eq_false c9
      clear c9
      obtain ⟨ji13, hji13⟩ : ∃ j_ : Int, ((Int.tdiv a0 16) % 256) = j_ := ⟨_, rfl⟩
      replace H : (if 0 ≤ (ji13) then (if (ji13) < ((⟨#[48, 49, 50, 51, 52, 53, 54, 55, 56, 57, 97, 98, 99, 100, 101, 102]⟩ : ByteArray).size : Int) then (if 0 ≤ (Int.tmod a0 16) then (if (Int.tmod a0 16) < ((⟨#[48, 49, 50, 51, 52, 53, 54, 55, 56, 57, 97, 98, 99, 100, 101, 102]⟩ : ByteArray).size : Int) then ((some (([bt (⟨#[48, 49, 50, 51, 52, 53, 54, 55, 56, 57, 97, 98, 99, 100, 101, 102]⟩ : ByteArray) (ji13), bt (⟨#[48, 49, 50, 51, 52, 53, 54, 55, 56, 57, 97, 98, 99, 100, 101, 102]⟩ : ByteArray) (Int.tmod a0 16)] : List Int) : List Int)).bind fun y204 => (if 4 + (strOfNums y204).size ≤ 9223372036854775807 then (some ((⟨#[92, 117, 48, 48]⟩ : ByteArray) ++ (strOfNums y204))) else (none))) else (none)) else (none)) else (none)) else (none)) = some r := by first | (rw [hji13] at H; exact H) | (simp only [hji13] at H ⊢; exact H)
      (try have hji13u : (IntKind.u8.wrap (Int.tdiv a0 16)) = ji13 := (IntKind.wrap_u8 _).trans hji13)
      by_cases c14 : 0 ≤ (ji13)
      ·rw [if_pos c14] at H
       have c14b0 : decide (0 ≤ (ji13)) = true := yE c14
       clear c14
       by_cases c15 : (ji13) < ((⟨#[48, 49, 50, 51, 52, 53, 54, 55, 56, 57, 97, 98, 99, 100, 101, 102]⟩ : ByteArray).size : Int)
       ·rw [if_pos c15] at H
        have c15b0 : decide ((ji13) < ((⟨#[48, 49, 50, 51, 52, 53, 54, 55, 56, 57, 97, 98, 99, 100, 101, 102]⟩ : ByteArray).size : Int)) = true := yE c15
        clear c15
        obtain ⟨ji17, hji17⟩ : ∃ j_ : Int, (Int.tmod a0 16) = j_ := ⟨_, rfl⟩
        replace H : (if 0 ≤ (ji17) then (if (ji17) < ((⟨#[48, 49, 50, 51, 52, 53, 54, 55, 56, 57, 97, 98, 99, 100, 101, 102]⟩ : ByteArray).size : Int) then ((some (([bt (⟨#[48, 49, 50, 51, 52, 53, 54, 55, 56, 57, 97, 98, 99, 100, 101, 102]⟩ : ByteArray) (ji13), bt (⟨#[48, 49, 50, 51, 52, 53, 54, 55, 56, 57, 97, 98, 99, 100, 101, 102]⟩ : ByteArray) (ji17)] : List Int) : List Int)).bind fun y204 => (if 4 + (strOfNums y204).size ≤ 9223372036854775807 then (some ((⟨#[92, 117, 48, 48]⟩ : ByteArray) ++ (strOfNums y204))) else (none))) else (none)) else (none)) = some r := by first | (rw [hji17] at H; exact H) | (simp only [hji17] at H ⊢; exact H)
        by_cases c18 : 0 ≤ (ji17)
        ·rw [if_pos c18] at H
         have c18b0 : decide (0 ≤ (ji17)) = true := yE c18
         clear c18
         by_cases c19 : (ji17) < ((⟨#[48, 49, 50, 51, 52, 53, 54, 55, 56, 57, 97, 98, 99, 100, 101, 102]⟩ : ByteArray).size : Int)
         ·rw [if_pos c19] at H
          have c19b0 : decide ((ji17) < ((⟨#[48, 49, 50, 51, 52, 53, 54, 55, 56, 57, 97, 98, 99, 100, 101, 102]⟩ : ByteArray).size : Int)) = true := yE c19
          clear c19
          obtain ⟨y204, hy204, H⟩ := Option.bind_eq_some_iff.mp H
          replace hy204 := (yG hy204).symm
          have Ny204 := zA hy204
          clear hy204
          by_cases c21 : 4 + (strOfNums y204).size ≤ 9223372036854775807
          ·rw [if_pos c21] at H
           have c21b0 := eq_true c21
           have c21b1 : decide (4 + (strOfNums y204).size ≤ 9223372036854775807) = true := yE c21
           try have c21b2 : (9223372036854775807 < 4 + (strOfNums y204).size) = False := eq_false (Nat.not_lt.2 c21)
           obtain rfl := yG H
           try go_wp2
           replace HB := zA (zF HB.out)
           have p16 : 0 ≤ ((ji13) : Int) := yF apB
           have q16 : (ji13) < (16 : Int) := yF apB
           have hx16 := bt_at (⟨#[48, 49, 50, 51, 52, 53, 54, 55, 56, 57, 97, 98, 99, 100, 101, 102]⟩ : ByteArray) (ji13)
           replace p16 := eq_true p16
           replace q16 := eq_true q16
           have p20 : 0 ≤ ((ji17) : Int) := yF apB
           have q20 : (ji17) < (16 : Int) := yF apB
           have hx20 := bt_at (⟨#[48, 49, 50, 51, 52, 53, 54, 55, 56, 57, 97, 98, 99, 100, 101, 102]⟩ : ByteArray) (ji17)
           replace p20 := eq_true p20
           replace q20 := eq_true q20
           refine start_ (n := 12) (S := fun w' => True) (ds := []) #[false, false, false, false, false, false, false, false, false, false, false, false] (by kernel_rfl) rfl rfl trivial (fun hHeld => ?_); refine with_tabW spec_l7Escape.tab6 spec_l7Escape.bits6 (fun HT_ HW_ => ?_)
           generalize wc.drew = w22 at HB hHeld ⊢
           refine pure_ (i := 0) (N := some 24) (v := ?_) (a' := ?_) #[true, false, false, false, false, false, false, false, false, false, false, false] rfl rfl (any_of HT_.out (by kernel_rfl)) (fun _ _ _ h => h) (Or.inl ⟨by rfl, ?_⟩) ?_ ?_
           rotate_left
           ·intro w'
            go_simp
            with_reducible rfl
           rotate_left
           ·simp only [Act.put, zK, zL, zM, i64_w, i32_w]
            rfl
           refine pure_ (i := 1) (N := some 25) (v := ?_) (a' := ?_) #[true, true, false, false, false, false, false, false, false, false, false, false] rfl rfl (any_of HT_.out (by kernel_rfl)) (fun _ _ _ h => h) (Or.inl ⟨by rfl, ?_⟩) ?_ ?_
           rotate_left
           ·intro w'
            go_simp
            with_reducible rfl
           rotate_left
           ·simp only [Act.put, zK, zL, zM, i64_w, i32_w]
            rfl
           refine pure_ (i := 2) (N := some 26) (v := ?_) (a' := ?_) #[true, true, true, false, false, false, false, false, false, false, false, false] rfl rfl (any_of HT_.out (by kernel_rfl)) (fun _ _ _ h => h) (Or.inl ⟨by rfl, ?_⟩) ?_ ?_
           rotate_left
           ·intro w'
            go_simp
            with_reducible rfl
           rotate_left
           ·simp only [Act.put, zK, zL, zM, i64_w, i32_w]
            rfl
           refine pure_ (i := 4) (N := some 28) (v := ?_) (a' := ?_) #[true, true, true, false, true, false, false, false, false, false, false, false] rfl rfl (any_of HT_.out (by kernel_rfl)) (fun _ _ _ h => h) (Or.inl ⟨by rfl, ?_⟩) ?_ ?_
           rotate_left
           ·intro w'
            go_simp
            with_reducible rfl
           rotate_left
           ·simp only [Act.put, zK, zL, zM, i64_w, i32_w]
            rfl
           refine pure_ (i := 5) (N := some 29) (v := ?_) (a' := ?_) #[true, true, true, false, true, true, false, false, false, false, false, false] rfl rfl (any_of HT_.out (by kernel_rfl)) (fun _ _ _ h => h) (Or.inl ⟨by rfl, ?_⟩) ?_ ?_
           rotate_left
           ·intro w'
            go_simp
            with_reducible rfl
           rotate_left
           ·simp only [Act.put, zK, zL, zM, i64_w, i32_w]
            rfl
           refine pure_ (i := 6) (N := some 30) (v := ?_) (a' := ?_) #[true, true, true, false, true, true, true, false, false, false, false, false] rfl rfl (any_of HT_.out (by kernel_rfl)) (fun _ _ _ h => h) (Or.inl ⟨by rfl, ?_⟩) ?_ ?_
           rotate_left
           ·intro w'
            go_simp
            with_reducible rfl
           rotate_left
           ·simp only [Act.put, zK, zL, zM, i64_w, i32_w]
            rfl
           refine take_ (i := 3) (N := some 27) (v := ?_) (a' := ?_) #[true, true, true, true, true, true, true, false, false, false, false, false] rfl rfl (take_ofW HT_.out HW_.out (by kernel_rfl)) (fun _ _ _ h => h) (Or.inl ⟨by rfl, ?_⟩) hHeld ?_ ?_
           rotate_left
           ·intro w' _
            go_simp
            with_reducible rfl
           rotate_left
           ·simp only [Act.put, zK, zL, zM, i64_w, i32_w]
            rfl
           refine take_ (i := 7) (N := some 31) (v := ?_) (a' := ?_) #[true, true, true, true, true, true, true, true, false, false, false, false] rfl rfl (take_ofW HT_.out HW_.out (by kernel_rfl)) (fun _ _ _ h => h) (Or.inl ⟨by rfl, ?_⟩) hHeld ?_ ?_
           rotate_left
           ·intro w' _
            go_simp
            with_reducible rfl
           rotate_left
           ·simp only [Act.put, zK, zL, zM, i64_w, i32_w]
            rfl
           refine one_ (i := 8) (N := some 32) #[true, true, true, true, true, true, true, true, true, false, false, false] rfl rfl (one_of HT_.out (by kernel_rfl)) (by decide) (fun K hK => ?_)
           refine Kd.R_lit_step (Kd.int .u8) _ 5 ?hg (N := 32) ?hd (xs := ([bt (⟨#[48, 49, 50, 51, 52, 53, 54, 55, 56, 57, 97, 98, 99, 100, 101, 102]⟩ : ByteArray) (ji13), bt (⟨#[48, 49, 50, 51, 52, 53, 54, 55, 56, 57, 97, 98, 99, 100, 101, 102]⟩ : ByteArray) (ji17)] : List Int)) (inner := [.int .u8 (bt (⟨#[48, 49, 50, 51, 52, 53, 54, 55, 56, 57, 97, 98, 99, 100, 101, 102]⟩ : ByteArray) (ji13)), .int .u8 (bt (⟨#[48, 49, 50, 51, 52, 53, 54, 55, 56, 57, 97, 98, 99, 100, 101, 102]⟩ : ByteArray) (ji17))]) (ok := fun _ => True) (okp := fun _ => True) ?hr ?hp (fun _ hk => hk) trivial (yH _ _) (yJ _) (by simp) ?_; (case hd => rfl); (case hg => rfl); (case hr => first | (go_simp; done) | (go_simp; rfl)); (case hp => exact (Reps.one (show Kd.M (Kd.int .u8) _ _ _ (bt (⟨#[48, 49, 50, 51, 52, 53, 54, 55, 56, 57, 97, 98, 99, 100, 101, 102]⟩ : ByteArray) (ji13)) [.int .u8 (bt (⟨#[48, 49, 50, 51, 52, 53, 54, 55, 56, 57, 97, 98, 99, 100, 101, 102]⟩ : ByteArray) (ji13))] from rfl) (Reps.one (show Kd.M (Kd.int .u8) _ _ _ (bt (⟨#[48, 49, 50, 51, 52, 53, 54, 55, 56, 57, 97, 98, 99, 100, 101, 102]⟩ : ByteArray) (ji17)) [.int .u8 (bt (⟨#[48, 49, 50, 51, 52, 53, 54, 55, 56, 57, 97, 98, 99, 100, 101, 102]⟩ : ByteArray) (ji17))] from rfl) (Reps.none _ _))))
           intro v205 w23 ho24 hb hg_ hnew_
           clear hg_ hnew_
           (first | rw [← Ny204.out] at ho24 | (simp only [Int.reduceToNat] at ho24; rw [← Ny204.out] at ho24))
           have HO206 := zA (Kd.R_lower ho24 (zQ apA))
           replace HB := zA (zP apA hb)
           clear hb ho24
           refine hK.out _ _ trivial (fun hHeld => ?_)
           clear hK K
           refine norm_ (a' := ?_) ?_ ?_
           rotate_left
           ·show Act.put _ (some 32) _ = _
            simp only [Act.put, zK, zL, zM, i64_w, i32_w]
            rfl
           refine one_ (i := 9) (N := some 33) #[true, true, true, true, true, true, true, true, true, true, false, false] rfl rfl (one_of HT_.out (by kernel_rfl)) (by decide) (fun K hK => ?_)
           have hcv25 := own_string (P := Tryd.prog) Tryd.underlying65 Tryd.underlying5 Tryd.underlying9 (Kd.own_of_R HO206.out)
           refine value_ (w1 := ?_) (v := ?_) (by rfl) rfl ?_ ?_
           rotate_left 2
           ·go_simp
            constructor
            ·rfl
            ·rfl
           clear hcv25
           refine hK.out _ _ trivial (fun hHeld => ?_)
           clear hK K
           refine norm_ (a' := ?_) ?_ ?_
           rotate_left
           ·show Act.put _ (some 33) _ = _
            simp only [Act.put, zK, zL, zM, i64_w, i32_w]
            rfl
           refine pure_ (i := 10) (N := some 34) (v := ?_) (a' := ?_) #[true, true, true, true, true, true, true, true, true, true, true, false] rfl rfl (any_of HT_.out (by kernel_rfl)) (fun _ _ _ h => h) (Or.inl ⟨by rfl, ?_⟩) ?_ ?_
           rotate_left
           ·intro w'
            go_simp
            with_reducible rfl
           rotate_left
           ·simp only [Act.put, zK, zL, zM, i64_w, i32_w]
            rfl
           refine pure_ (i := 11) (N := some 2) (v := ?_) (a' := ?_) #[true, true, true, true, true, true, true, true, true, true, true, true] rfl rfl (any_of HT_.out (by kernel_rfl)) (fun _ _ _ h => h) (Or.inl ⟨by rfl, ?_⟩) ?_ ?_
           rotate_left
           ·intro w'
            go_simp
            with_reducible rfl
           rotate_left
           ·simp only [Act.put, zK, zL, zM, i64_w, i32_w]
            rfl
           refine done_ (done_of HT_.out (by kernel_rfl)) ?_
           try go_wp2
           go_ret
           exact ⟨by first | rfl | (simp [errW_none, errW_some] <;> rfl) | (simp only [← hji13, ← hji17]; first | rfl | (simp [errW_none, errW_some] <;> rfl)) | (simp [*, errW_none, errW_some] <;> rfl), apA⟩
          ·rw [if_neg c21] at H
           exact absurd H (by simp)
         ·rw [if_neg c19] at H
          exact absurd H (by simp)
        ·rw [if_neg c18] at H
         exact absurd H (by simp)
       ·rw [if_neg c15] at H
        exact absurd H (by simp)
      ·rw [if_neg c14] at H
       exact absurd H (by simp)
    ·rw [if_neg c8] at H
     have c8b0 : decide (32 ≤ a0) = false := decide_eq_false c8
     clear c8
     obtain ⟨ji26, hji26⟩ : ∃ j_ : Int, ((Int.tdiv a0 16) % 256) = j_ := ⟨_, rfl⟩
     replace H : (if 0 ≤ (ji26) then (if (ji26) < ((⟨#[48, 49, 50, 51, 52, 53, 54, 55, 56, 57, 97, 98, 99, 100, 101, 102]⟩ : ByteArray).size : Int) then (if 0 ≤ (Int.tmod a0 16) then (if (Int.tmod a0 16) < ((⟨#[48, 49, 50, 51, 52, 53, 54, 55, 56, 57, 97, 98, 99, 100, 101, 102]⟩ : ByteArray).size : Int) then ((some (([bt (⟨#[48, 49, 50, 51, 52, 53, 54, 55, 56, 57, 97, 98, 99, 100, 101, 102]⟩ : ByteArray) (ji26), bt (⟨#[48, 49, 50, 51, 52, 53, 54, 55, 56, 57, 97, 98, 99, 100, 101, 102]⟩ : ByteArray) (Int.tmod a0 16)] : List Int) : List Int)).bind fun y207 => (if 4 + (strOfNums y207).size ≤ 9223372036854775807 then (some ((⟨#[92, 117, 48, 48]⟩ : ByteArray) ++ (strOfNums y207))) else (none))) else (none)) else (none)) else (none)) else (none)) = some r := by first | (rw [hji26] at H; exact H) | (simp only [hji26] at H ⊢; exact H)
     (try have hji26u : (IntKind.u8.wrap (Int.tdiv a0 16)) = ji26 := (IntKind.wrap_u8 _).trans hji26)
     by_cases c27 : 0 ≤ (ji26)
     ·rw [if_pos c27] at H
      have c27b0 : decide (0 ≤ (ji26)) = true := yE c27
      clear c27
      by_cases c28 : (ji26) < ((⟨#[48, 49, 50, 51, 52, 53, 54, 55, 56, 57, 97, 98, 99, 100, 101, 102]⟩ : ByteArray).size : Int)
      ·rw [if_pos c28] at H
       have c28b0 : decide ((ji26) < ((⟨#[48, 49, 50, 51, 52, 53, 54, 55, 56, 57, 97, 98, 99, 100, 101, 102]⟩ : ByteArray).size : Int)) = true := yE c28
       clear c28
       obtain ⟨ji30, hji30⟩ : ∃ j_ : Int, (Int.tmod a0 16) = j_ := ⟨_, rfl⟩
       replace H : (if 0 ≤ (ji30) then (if (ji30) < ((⟨#[48, 49, 50, 51, 52, 53, 54, 55, 56, 57, 97, 98, 99, 100, 101, 102]⟩ : ByteArray).size : Int) then ((some (([bt (⟨#[48, 49, 50, 51, 52, 53, 54, 55, 56, 57, 97, 98, 99, 100, 101, 102]⟩ : ByteArray) (ji26), bt (⟨#[48, 49, 50, 51, 52, 53, 54, 55, 56, 57, 97, 98, 99, 100, 101, 102]⟩ : ByteArray) (ji30)] : List Int) : List Int)).bind fun y207 => (if 4 + (strOfNums y207).size ≤ 9223372036854775807 then (some ((⟨#[92, 117, 48, 48]⟩ : ByteArray) ++ (strOfNums y207))) else (none))) else (none)) else (none)) = some r := by first | (rw [hji30] at H; exact H) | (simp only [hji30] at H ⊢; exact H)
       by_cases c31 : 0 ≤ (ji30)
       ·rw [if_pos c31] at H
        have c31b0 : decide (0 ≤ (ji30)) = true := yE c31
        clear c31
        by_cases c32 : (ji30) < ((⟨#[48, 49, 50, 51, 52, 53, 54, 55, 56, 57, 97, 98, 99, 100, 101, 102]⟩ : ByteArray).size : Int)
        ·rw [if_pos c32] at H
         have c32b0 : decide ((ji30) < ((⟨#[48, 49, 50, 51, 52, 53, 54, 55, 56, 57, 97, 98, 99, 100, 101, 102]⟩ : ByteArray).size : Int)) = true := yE c32
         clear c32
         obtain ⟨y207, hy207, H⟩ := Option.bind_eq_some_iff.mp H
         replace hy207 := (yG hy207).symm
         have Ny207 := zA hy207
         clear hy207
         by_cases c34 : 4 + (strOfNums y207).size ≤ 9223372036854775807
         ·rw [if_pos c34] at H
          have c34b0 := eq_true c34
          have c34b1 : decide (4 + (strOfNums y207).size ≤ 9223372036854775807) = true := yE c34
          try have c34b2 : (9223372036854775807 < 4 + (strOfNums y207).size) = False := eq_false (Nat.not_lt.2 c34)
          obtain rfl := yG H
          try go_wp2
          replace HB := zA (zF HB.out)
          have p29 : 0 ≤ ((ji26) : Int) := yF apB
          have q29 : (ji26) < (16 : Int) := yF apB
          have hx29 := bt_at (⟨#[48, 49, 50, 51, 52, 53, 54, 55, 56, 57, 97, 98, 99, 100, 101, 102]⟩ : ByteArray) (ji26)
          replace p29 := eq_true p29
          replace q29 := eq_true q29
          have p33 : 0 ≤ ((ji30) : Int) := yF apB
          have q33 : (ji30) < (16 : Int) := yF apB
          have hx33 := bt_at (⟨#[48, 49, 50, 51, 52, 53, 54, 55, 56, 57, 97, 98, 99, 100, 101, 102]⟩ : ByteArray) (ji30)
          replace p33 := eq_true p33
          replace q33 := eq_true q33
          refine start_ (n := 12) (S := fun w' => True) (ds := []) #[false, false, false, false, false, false, false, false, false, false, false, false] (by kernel_rfl) rfl rfl trivial (fun hHeld => ?_); refine with_tabW spec_l7Escape.tab6 spec_l7Escape.bits6 (fun HT_ HW_ => ?_)
          generalize wc.drew = w35 at HB hHeld ⊢
          refine pure_ (i := 0) (N := some 24) (v := ?_) (a' := ?_) #[true, false, false, false, false, false, false, false, false, false, false, false] rfl rfl (any_of HT_.out (by kernel_rfl)) (fun _ _ _ h => h) (Or.inl ⟨by rfl, ?_⟩) ?_ ?_
          rotate_left
          ·intro w'
           go_simp
           with_reducible rfl
          rotate_left
          ·simp only [Act.put, zK, zL, zM, i64_w, i32_w]
           rfl
          refine pure_ (i := 1) (N := some 25) (v := ?_) (a' := ?_) #[true, true, false, false, false, false, false, false, false, false, false, false] rfl rfl (any_of HT_.out (by kernel_rfl)) (fun _ _ _ h => h) (Or.inl ⟨by rfl, ?_⟩) ?_ ?_
          rotate_left
          ·intro w'
           go_simp
           with_reducible rfl
          rotate_left
          ·simp only [Act.put, zK, zL, zM, i64_w, i32_w]
           rfl
          refine pure_ (i := 2) (N := some 26) (v := ?_) (a' := ?_) #[true, true, true, false, false, false, false, false, false, false, false, false] rfl rfl (any_of HT_.out (by kernel_rfl)) (fun _ _ _ h => h) (Or.inl ⟨by rfl, ?_⟩) ?_ ?_
          rotate_left
          ·intro w'
           go_simp
           with_reducible rfl
          rotate_left
          ·simp only [Act.put, zK, zL, zM, i64_w, i32_w]
           rfl
          refine pure_ (i := 4) (N := some 28) (v := ?_) (a' := ?_) #[true, true, true, false, true, false, false, false, false, false, false, false] rfl rfl (any_of HT_.out (by kernel_rfl)) (fun _ _ _ h => h) (Or.inl ⟨by rfl, ?_⟩) ?_ ?_
          rotate_left
          ·intro w'
           go_simp
           with_reducible rfl
          rotate_left
          ·simp only [Act.put, zK, zL, zM, i64_w, i32_w]
           rfl
          refine pure_ (i := 5) (N := some 29) (v := ?_) (a' := ?_) #[true, true, true, false, true, true, false, false, false, false, false, false] rfl rfl (any_of HT_.out (by kernel_rfl)) (fun _ _ _ h => h) (Or.inl ⟨by rfl, ?_⟩) ?_ ?_
          rotate_left
          ·intro w'
           go_simp
           with_reducible rfl
          rotate_left
          ·simp only [Act.put, zK, zL, zM, i64_w, i32_w]
           rfl
          refine pure_ (i := 6) (N := some 30) (v := ?_) (a' := ?_) #[true, true, true, false, true, true, true, false, false, false, false, false] rfl rfl (any_of HT_.out (by kernel_rfl)) (fun _ _ _ h => h) (Or.inl ⟨by rfl, ?_⟩) ?_ ?_
          rotate_left
          ·intro w'
           go_simp
           with_reducible rfl
          rotate_left
          ·simp only [Act.put, zK, zL, zM, i64_w, i32_w]
           rfl
          refine take_ (i := 3) (N := some 27) (v := ?_) (a' := ?_) #[true, true, true, true, true, true, true, false, false, false, false, false] rfl rfl (take_ofW HT_.out HW_.out (by kernel_rfl)) (fun _ _ _ h => h) (Or.inl ⟨by rfl, ?_⟩) hHeld ?_ ?_
          rotate_left
          ·intro w' _
           go_simp
           with_reducible rfl
          rotate_left
          ·simp only [Act.put, zK, zL, zM, i64_w, i32_w]
           rfl
          refine take_ (i := 7) (N := some 31) (v := ?_) (a' := ?_) #[true, true, true, true, true, true, true, true, false, false, false, false] rfl rfl (take_ofW HT_.out HW_.out (by kernel_rfl)) (fun _ _ _ h => h) (Or.inl ⟨by rfl, ?_⟩) hHeld ?_ ?_
          rotate_left
          ·intro w' _
           go_simp
           with_reducible rfl
          rotate_left
          ·simp only [Act.put, zK, zL, zM, i64_w, i32_w]
           rfl
          refine one_ (i := 8) (N := some 32) #[true, true, true, true, true, true, true, true, true, false, false, false] rfl rfl (one_of HT_.out (by kernel_rfl)) (by decide) (fun K hK => ?_)
          refine Kd.R_lit_step (Kd.int .u8) _ 5 ?hg (N := 32) ?hd (xs := ([bt (⟨#[48, 49, 50, 51, 52, 53, 54, 55, 56, 57, 97, 98, 99, 100, 101, 102]⟩ : ByteArray) (ji26), bt (⟨#[48, 49, 50, 51, 52, 53, 54, 55, 56, 57, 97, 98, 99, 100, 101, 102]⟩ : ByteArray) (ji30)] : List Int)) (inner := [.int .u8 (bt (⟨#[48, 49, 50, 51, 52, 53, 54, 55, 56, 57, 97, 98, 99, 100, 101, 102]⟩ : ByteArray) (ji26)), .int .u8 (bt (⟨#[48, 49, 50, 51, 52, 53, 54, 55, 56, 57, 97, 98, 99, 100, 101, 102]⟩ : ByteArray) (ji30))]) (ok := fun _ => True) (okp := fun _ => True) ?hr ?hp (fun _ hk => hk) trivial (yH _ _) (yJ _) (by simp) ?_; (case hd => rfl); (case hg => rfl); (case hr => first | (go_simp; done) | (go_simp; rfl)); (case hp => exact (Reps.one (show Kd.M (Kd.int .u8) _ _ _ (bt (⟨#[48, 49, 50, 51, 52, 53, 54, 55, 56, 57, 97, 98, 99, 100, 101, 102]⟩ : ByteArray) (ji26)) [.int .u8 (bt (⟨#[48, 49, 50, 51, 52, 53, 54, 55, 56, 57, 97, 98, 99, 100, 101, 102]⟩ : ByteArray) (ji26))] from rfl) (Reps.one (show Kd.M (Kd.int .u8) _ _ _ (bt (⟨#[48, 49, 50, 51, 52, 53, 54, 55, 56, 57, 97, 98, 99, 100, 101, 102]⟩ : ByteArray) (ji30)) [.int .u8 (bt (⟨#[48, 49, 50, 51, 52, 53, 54, 55, 56, 57, 97, 98, 99, 100, 101, 102]⟩ : ByteArray) (ji30))] from rfl) (Reps.none _ _))))
          intro v208 w36 ho37 hb hg_ hnew_
          clear hg_ hnew_
          (first | rw [← Ny207.out] at ho37 | (simp only [Int.reduceToNat] at ho37; rw [← Ny207.out] at ho37))
          have HO209 := zA (Kd.R_lower ho37 (zQ apA))
          replace HB := zA (zP apA hb)
          clear hb ho37
          refine hK.out _ _ trivial (fun hHeld => ?_)
          clear hK K
          refine norm_ (a' := ?_) ?_ ?_
          rotate_left
          ·show Act.put _ (some 32) _ = _
           simp only [Act.put, zK, zL, zM, i64_w, i32_w]
           rfl
          refine one_ (i := 9) (N := some 33) #[true, true, true, true, true, true, true, true, true, true, false, false] rfl rfl (one_of HT_.out (by kernel_rfl)) (by decide) (fun K hK => ?_)
          have hcv38 := own_string (P := Tryd.prog) Tryd.underlying65 Tryd.underlying5 Tryd.underlying9 (Kd.own_of_R HO209.out)
          refine value_ (w1 := ?_) (v := ?_) (by rfl) rfl ?_ ?_
          rotate_left 2
          ·go_simp
           constructor
           ·rfl
           ·rfl
          clear hcv38
          refine hK.out _ _ trivial (fun hHeld => ?_)
          clear hK K
          refine norm_ (a' := ?_) ?_ ?_
          rotate_left
          ·show Act.put _ (some 33) _ = _
           simp only [Act.put, zK, zL, zM, i64_w, i32_w]
           rfl
          refine pure_ (i := 10) (N := some 34) (v := ?_) (a' := ?_) #[true, true, true, true, true, true, true, true, true, true, true, false] rfl rfl (any_of HT_.out (by kernel_rfl)) (fun _ _ _ h => h) (Or.inl ⟨by rfl, ?_⟩) ?_ ?_
          rotate_left
          ·intro w'
           go_simp
           with_reducible rfl
          rotate_left
          ·simp only [Act.put, zK, zL, zM, i64_w, i32_w]
           rfl
          refine pure_ (i := 11) (N := some 2) (v := ?_) (a' := ?_) #[true, true, true, true, true, true, true, true, true, true, true, true] rfl rfl (any_of HT_.out (by kernel_rfl)) (fun _ _ _ h => h) (Or.inl ⟨by rfl, ?_⟩) ?_ ?_
          rotate_left
          ·intro w'
           go_simp
           with_reducible rfl
          rotate_left
          ·simp only [Act.put, zK, zL, zM, i64_w, i32_w]
           rfl
          refine done_ (done_of HT_.out (by kernel_rfl)) ?_
          try go_wp2
          go_ret
          exact ⟨by first | rfl | (simp [errW_none, errW_some] <;> rfl) | (simp only [← hji26, ← hji30]; first | rfl | (simp [errW_none, errW_some] <;> rfl)) | (simp [*, errW_none, errW_some] <;> rfl), apA⟩
         ·rw [if_neg c34] at H
          exact absurd H (by simp)
        ·rw [if_neg c32] at H
         exact absurd H (by simp)
       ·rw [if_neg c31] at H
        exact absurd H (by simp)
      ·rw [if_neg c28] at H
       exact absurd H (by simp)
     ·rw [if_neg c27] at H
      exact absurd H (by simp)


def spec_l7Quote.l0 : Nat → ByteArray → ByteArray → Int → Option (ByteArray)
 | 0, _, _, _ => none
 | k + 1, x0, x3, x4 => if x4 < (x0.size : Int) then (if 0 ≤ x4 then ((spec_l7Escape.f k (bt x0 x4)).bind fun t210 => (if x3.size + t210.size ≤ 9223372036854775807 then (spec_l7Quote.l0 k x0 (x3 ++ t210) (wrap64 (x4 + 1))) else (none))) else (none)) else (if x3.size + 1 ≤ 9223372036854775807 then (some (x3 ++ (⟨#[34]⟩ : ByteArray))) else (none))
def spec_l7Quote.f (k : Nat) (a0 : ByteArray) : Option (ByteArray) := spec_l7Quote.l0 k a0 (⟨#[34]⟩ : ByteArray) 0
theorem spec_l7Quote.mono_l : ∀ k, (∀ y0 y1 y2, LeO (spec_l7Quote.l0 k y0 y1 y2) (spec_l7Quote.l0 (k + 1) y0 y1 y2))
 | 0 => fun _ _ _ r h => by simp [spec_l7Quote.l0] at h
 | k + 1 => by
  have ih0 := spec_l7Quote.mono_l k
  ·intro y0 y1 y2
   unfold spec_l7Quote.l0
   repeat' first
   | (with_reducible exact ih0 _ _ _)
   | (with_reducible exact spec_l7Escape.mono _ _)
   | (with_reducible exact LeO.refl _)
   | (with_reducible exact LeO.none _)
   | (with_reducible refine LeO.ite ?_ ?_)
   | (with_reducible refine LeO.bind ?_ (fun _ => ?_))
   | exact ih0 _ _ _
theorem spec_l7Quote.mono : ∀ a0 k, LeO (spec_l7Quote.f k a0) (spec_l7Quote.f (k + 1) a0) := by
 intro a0 k
 have ih0 := spec_l7Quote.mono_l k
 unfold spec_l7Quote.f
 repeat' first
   | (with_reducible exact ih0 _ _ _)
   | (with_reducible exact spec_l7Escape.mono _ _)
   | (with_reducible exact LeO.refl _)
   | (with_reducible exact LeO.none _)
   | (with_reducible refine LeO.ite ?_ ?_)
   | (with_reducible refine LeO.bind ?_ (fun _ => ?_))
   | exact ih0 _ _ _
set_option maxHeartbeats 8000000 in
set_option maxRecDepth 100000 in
theorem spec_l7Quote.calls (k : Nat) (a0 : ByteArray) (r : ByteArray) (w : World) (h : spec_l7Quote.f k a0 = some r) :
  Calls Tryd.prog 35 #[.string a0] w fun e w' => e = .returned (.string r) ∧ Below w.heap.size w w' := by
 have HB := zA (yH w.heap.size w)
 have H : (spec_l7Quote.l0 k a0 (⟨#[34]⟩ : ByteArray) 0) = some r := h
 clear h
 have H' := zA H
 clear H
 go_enter Tryd.func35, Tryd.ntmps35
 go_wp2
 go_loopg [3, 4] k (fun kq v3 v4 w' => ∃ (x3_1 : ByteArray) (x4_1 : Int), v3 = .string x3_1 ∧ v4 = .int .i64 x4_1 ∧ Aside0 (spec_l7Quote.l0 kq a0 x3_1 x4_1 = some r) ∧ Aside0 (kq ≤ k) ∧ Aside0 (Below w.heap.size w w'))
 case atStart => exact ⟨((⟨#[34]⟩ : ByteArray)), (0), apC, apC, H', ⟨yJ _⟩, ⟨apA⟩⟩
 case round =>
  clear H'
  obtain ⟨x3_1, x4_1, rfl, rfl, HA, HK1, HB⟩ := hrel
  cases gk with
  | zero => exact absurd HA.out (by simp [spec_l7Quote.l0])
  | succ k1 =>
   have H := HA.out
   clear HA
   simp only [spec_l7Quote.l0] at H
   by_cases c2 : x4_1 < (a0.size : Int)
   ·rw [if_pos c2] at H
    have c2b0 : decide (x4_1 < (a0.size : Int)) = true := yE c2
    clear c2
    by_cases c3 : 0 ≤ x4_1
    ·rw [if_pos c3] at H
     have c3b0 : decide (0 ≤ x4_1) = true := yE c3
     clear c3
     replace H := Option.bind_eq_some_iff.mp H
     obtain ⟨t210, A50, H⟩ := H
     have A5 := zA A50
     clear A50
     by_cases c6 : x3_1.size + t210.size ≤ 9223372036854775807
     ·rw [if_pos c6] at H
      have c6b0 := eq_true c6
      have c6b1 : decide (x3_1.size + t210.size ≤ 9223372036854775807) = true := yE c6
      try have c6b2 : (9223372036854775807 < x3_1.size + t210.size) = False := eq_false (Nat.not_lt.2 c6)
      have H' := zA H
      clear H
      have p4 : 0 ≤ (x4_1 : Int) := yF apB
      have q4 : x4_1 < (a0.size : Int) := yF apB
      have hx4 := bt_at a0 x4_1
      replace p4 := eq_true p4
      replace q4 := eq_true q4
      go_wp2_with (first | ((with_reducible refine zT (f := 47) rfl ?_); refine goesL_ (some 15) rfl rfl Tryd.func47 (by kernel_rfl) rfl #[.int .u8 (bt a0 x4_1)] rfl apE ?_; (with_reducible refine (spec_l7Escape.calls k1 (bt a0 x4_1) t210 _ A5.out).mono ?_); rintro e w7 ⟨rfl, hb⟩; refine ⟨_, rfl, ?_⟩; replace HB := zA (zP apA hb); (try clear hb); (try clear hb2); (try clear hk); (try clear hi)))
      go_roundg k1
      case measure => have := HK1.out; omega
      case rel => exact ⟨(x3_1 ++ t210), (wrap64 (x4_1 + 1)), apC, apC, H', ⟨by have := HK1.out; omega⟩, ⟨apA⟩⟩
     ·rw [if_neg c6] at H
      exact absurd H (by simp)
    ·rw [if_neg c3] at H
     exact absurd H (by simp)
   ·rw [if_neg c2] at H
    have c2b0 : decide (x4_1 < (a0.size : Int)) = false := decide_eq_false c2
    clear c2
    by_cases c8 : x3_1.size + 1 ≤ 9223372036854775807
    ·rw [if_pos c8] at H
     have c8b0 := eq_true c8
     have c8b1 : decide (x3_1.size + 1 ≤ 9223372036854775807) = true := yE c8
     try have c8b2 : (9223372036854775807 < x3_1.size + 1) = False := eq_false (Nat.not_lt.2 c8)
     obtain rfl := yG H
     go_wp2
     go_ret
     exact ⟨apD, apA⟩
    ·rw [if_neg c8] at H
     exact absurd H (by simp)


def impl_plain.f (a0 : Int) : Option (Bool) := if a0 ≥ 32 then (if a0 ≤ 126 then (if a0 = 34 then (some false) else (some (a0 != 92))) else (some false)) else (some false)
set_option maxHeartbeats 8000000 in
set_option maxRecDepth 100000 in
theorem impl_plain.calls (a0 : Int) (r : Bool) (w : World) (h : impl_plain.f a0 = some r) :
  Calls Tryd.prog 64 #[.int .u8 a0] w fun e w' => e = .returned (.bool r) ∧ Drawn0 w w' := by
 have H : (if a0 ≥ 32 then (if a0 ≤ 126 then (if a0 = 34 then (some false) else (some (a0 != 92))) else (some false)) else (some false)) = some r := h
 clear h
 by_cases c2 : a0 ≥ 32
 ·rw [if_pos c2] at H
  have c2b0 : decide (32 ≤ a0) = true := yE c2
  clear c2
  by_cases c3 : a0 ≤ 126
  ·rw [if_pos c3] at H
   have c3b0 : decide (a0 ≤ 126) = true := yE c3
   clear c3
   by_cases c4 : a0 = 34
   ·rw [if_pos c4] at H
    have c4b0 : (a0 == 34) = true := beq_iff_eq.mpr c4
    have c4b1 : (a0 != 34) = false := bne_eq_false_iff_eq.mpr c4
    clear c4
    obtain rfl := yG H
    go_enter Tryd.func64, Tryd.ntmps64
    go_wp2
    go_ret
    exact ⟨apC, apF⟩
   ·rw [if_neg c4] at H
    have c4b0 : (a0 == 34) = false := beq_eq_false_iff_ne.mpr c4
    have c4b1 : (a0 != 34) = true := bne_iff_ne.mpr c4
    obtain rfl := yG H
    go_enter Tryd.func64, Tryd.ntmps64
    go_wp2
    go_ret
    exact ⟨apC, apF⟩
  ·rw [if_neg c3] at H
   have c3b0 : decide (a0 ≤ 126) = false := decide_eq_false c3
   clear c3
   obtain rfl := yG H
   go_enter Tryd.func64, Tryd.ntmps64
   go_wp2
   go_ret
   exact ⟨apC, apF⟩
 ·rw [if_neg c2] at H
  have c2b0 : decide (32 ≤ a0) = false := decide_eq_false c2
  clear c2
  obtain rfl := yG H
  go_enter Tryd.func64, Tryd.ntmps64
  go_wp2
  go_ret
  exact ⟨apC, apF⟩

end Go.Proofs.YthaceblepbkjjaaDoor.Q

namespace Go.Proofs.YthaceblepbkjjaaDoor.Q
open Go.RowKit Go.Proofs.YthaceblepbkjjaaDoorW.PrintWords Go.Proofs.YthaceblepbkjjaaDoorW.PrintLast Go.Proofs.YthaceblepbkjjaaDoorW.PrintMore Go.Proofs.YthaceblepbkjjaaDoorX
attribute [local go_sem] max2_int min2_int max_two min_two max_three min_three max_four min_four   -- for this text's walks alone
set_option linter.unusedVariables false
set_option linter.unusedSimpArgs false

attribute [-simp] ByteArray.size_extract
def impl_hex.f (a0 : Int) : Option (ByteArray) := if 0 ≤ (a0 / 16) then (if (a0 / 16) ≤ (((a0 / 16) + 1) % 256) then (if (((a0 / 16) + 1) % 256) ≤ 16 then (if 0 ≤ (Go.bits .and .u8 a0 15) then (if (Go.bits .and .u8 a0 15) ≤ (((Go.bits .and .u8 a0 15) + 1) % 256) then (if (((Go.bits .and .u8 a0 15) + 1) % 256) ≤ 16 then (if ((⟨#[48, 49, 50, 51, 52, 53, 54, 55, 56, 57, 97, 98, 99, 100, 101, 102]⟩ : ByteArray).extract ((a0 / 16) : Int).toNat ((((a0 / 16) + 1) % 256) : Int).toNat).size + ((⟨#[48, 49, 50, 51, 52, 53, 54, 55, 56, 57, 97, 98, 99, 100, 101, 102]⟩ : ByteArray).extract ((Go.bits .and .u8 a0 15) : Int).toNat ((((Go.bits .and .u8 a0 15) + 1) % 256) : Int).toNat).size ≤ 9223372036854775807 then (some (((⟨#[48, 49, 50, 51, 52, 53, 54, 55, 56, 57, 97, 98, 99, 100, 101, 102]⟩ : ByteArray).extract ((a0 / 16) : Int).toNat ((((a0 / 16) + 1) % 256) : Int).toNat) ++ ((⟨#[48, 49, 50, 51, 52, 53, 54, 55, 56, 57, 97, 98, 99, 100, 101, 102]⟩ : ByteArray).extract ((Go.bits .and .u8 a0 15) : Int).toNat ((((Go.bits .and .u8 a0 15) + 1) % 256) : Int).toNat))) else (none)) else (none)) else (none)) else (none)) else (none)) else (none)) else (none)
set_option maxHeartbeats 8000000 in
set_option maxRecDepth 100000 in
theorem impl_hex.calls (a0 : Int) (r : ByteArray) (w : World) (h : impl_hex.f a0 = some r) :
  Calls Tryd.prog 65 #[.int .u8 a0] w fun e w' => e = .returned (.string r) ∧ Drawn0 w w' := by
 have H : (if 0 ≤ (a0 / 16) then (if (a0 / 16) ≤ (((a0 / 16) + 1) % 256) then (if (((a0 / 16) + 1) % 256) ≤ 16 then (if 0 ≤ (Go.bits .and .u8 a0 15) then (if (Go.bits .and .u8 a0 15) ≤ (((Go.bits .and .u8 a0 15) + 1) % 256) then (if (((Go.bits .and .u8 a0 15) + 1) % 256) ≤ 16 then (if ((⟨#[48, 49, 50, 51, 52, 53, 54, 55, 56, 57, 97, 98, 99, 100, 101, 102]⟩ : ByteArray).extract ((a0 / 16) : Int).toNat ((((a0 / 16) + 1) % 256) : Int).toNat).size + ((⟨#[48, 49, 50, 51, 52, 53, 54, 55, 56, 57, 97, 98, 99, 100, 101, 102]⟩ : ByteArray).extract ((Go.bits .and .u8 a0 15) : Int).toNat ((((Go.bits .and .u8 a0 15) + 1) % 256) : Int).toNat).size ≤ 9223372036854775807 then (some (((⟨#[48, 49, 50, 51, 52, 53, 54, 55, 56, 57, 97, 98, 99, 100, 101, 102]⟩ : ByteArray).extract ((a0 / 16) : Int).toNat ((((a0 / 16) + 1) % 256) : Int).toNat) ++ ((⟨#[48, 49, 50, 51, 52, 53, 54, 55, 56, 57, 97, 98, 99, 100, 101, 102]⟩ : ByteArray).extract ((Go.bits .and .u8 a0 15) : Int).toNat ((((Go.bits .and .u8 a0 15) + 1) % 256) : Int).toNat))) else (none)) else (none)) else (none)) else (none)) else (none)) else (none)) else (none)) = some r := h
 clear h
 obtain ⟨ji2, hji2⟩ : ∃ j_ : Int, (a0 / 16) = j_ := ⟨_, rfl⟩
 replace H : (if 0 ≤ (ji2) then (if (ji2) ≤ (((ji2) + 1) % 256) then (if (((ji2) + 1) % 256) ≤ 16 then (if 0 ≤ (Go.bits .and .u8 a0 15) then (if (Go.bits .and .u8 a0 15) ≤ (((Go.bits .and .u8 a0 15) + 1) % 256) then (if (((Go.bits .and .u8 a0 15) + 1) % 256) ≤ 16 then (if ((⟨#[48, 49, 50, 51, 52, 53, 54, 55, 56, 57, 97, 98, 99, 100, 101, 102]⟩ : ByteArray).extract ((ji2) : Int).toNat ((((ji2) + 1) % 256) : Int).toNat).size + ((⟨#[48, 49, 50, 51, 52, 53, 54, 55, 56, 57, 97, 98, 99, 100, 101, 102]⟩ : ByteArray).extract ((Go.bits .and .u8 a0 15) : Int).toNat ((((Go.bits .and .u8 a0 15) + 1) % 256) : Int).toNat).size ≤ 9223372036854775807 then (some (((⟨#[48, 49, 50, 51, 52, 53, 54, 55, 56, 57, 97, 98, 99, 100, 101, 102]⟩ : ByteArray).extract ((ji2) : Int).toNat ((((ji2) + 1) % 256) : Int).toNat) ++ ((⟨#[48, 49, 50, 51, 52, 53, 54, 55, 56, 57, 97, 98, 99, 100, 101, 102]⟩ : ByteArray).extract ((Go.bits .and .u8 a0 15) : Int).toNat ((((Go.bits .and .u8 a0 15) + 1) % 256) : Int).toNat))) else (none)) else (none)) else (none)) else (none)) else (none)) else (none)) else (none)) = some r := by first | (rw [hji2] at H; exact H) | (simp only [hji2] at H ⊢; exact H)
 by_cases c3 : 0 ≤ (ji2)
 ·rw [if_pos c3] at H
  have c3b0 := eq_true c3
  have c3b1 : decide (0 ≤ (ji2)) = true := yE c3
  clear c3
  by_cases c4 : (ji2) ≤ (((ji2) + 1) % 256)
  ·rw [if_pos c4] at H
   have c4b0 := eq_true c4
   have c4b1 : decide ((ji2) ≤ (((ji2) + 1) % 256)) = true := yE c4
   by_cases c5 : (((ji2) + 1) % 256) ≤ 16
   ·rw [if_pos c5] at H
    have c5b0 := eq_true c5
    have c5b1 : decide ((((ji2) + 1) % 256) ≤ 16) = true := yE c5
    by_cases c6 : 0 ≤ (Go.bits .and .u8 a0 15)
    ·rw [if_pos c6] at H
     have c6b0 := eq_true c6
     have c6b1 : decide (0 ≤ (Go.bits .and .u8 a0 15)) = true := yE c6
     clear c6
     by_cases c7 : (Go.bits .and .u8 a0 15) ≤ (((Go.bits .and .u8 a0 15) + 1) % 256)
     ·rw [if_pos c7] at H
      have c7b0 := eq_true c7
      have c7b1 : decide ((Go.bits .and .u8 a0 15) ≤ (((Go.bits .and .u8 a0 15) + 1) % 256)) = true := yE c7
      by_cases c8 : (((Go.bits .and .u8 a0 15) + 1) % 256) ≤ 16
      ·rw [if_pos c8] at H
       have c8b0 := eq_true c8
       have c8b1 : decide ((((Go.bits .and .u8 a0 15) + 1) % 256) ≤ 16) = true := yE c8
       by_cases c9 : ((⟨#[48, 49, 50, 51, 52, 53, 54, 55, 56, 57, 97, 98, 99, 100, 101, 102]⟩ : ByteArray).extract ((ji2) : Int).toNat ((((ji2) + 1) % 256) : Int).toNat).size + ((⟨#[48, 49, 50, 51, 52, 53, 54, 55, 56, 57, 97, 98, 99, 100, 101, 102]⟩ : ByteArray).extract ((Go.bits .and .u8 a0 15) : Int).toNat ((((Go.bits .and .u8 a0 15) + 1) % 256) : Int).toNat).size ≤ 9223372036854775807
       ·rw [if_pos c9] at H
        have c9b0 := eq_true c9
        have c9b1 : decide (((⟨#[48, 49, 50, 51, 52, 53, 54, 55, 56, 57, 97, 98, 99, 100, 101, 102]⟩ : ByteArray).extract ((ji2) : Int).toNat ((((ji2) + 1) % 256) : Int).toNat).size + ((⟨#[48, 49, 50, 51, 52, 53, 54, 55, 56, 57, 97, 98, 99, 100, 101, 102]⟩ : ByteArray).extract ((Go.bits .and .u8 a0 15) : Int).toNat ((((Go.bits .and .u8 a0 15) + 1) % 256) : Int).toNat).size ≤ 9223372036854775807) = true := yE c9
        try have c9b2 : (9223372036854775807 < ((⟨#[48, 49, 50, 51, 52, 53, 54, 55, 56, 57, 97, 98, 99, 100, 101, 102]⟩ : ByteArray).extract ((ji2) : Int).toNat ((((ji2) + 1) % 256) : Int).toNat).size + ((⟨#[48, 49, 50, 51, 52, 53, 54, 55, 56, 57, 97, 98, 99, 100, 101, 102]⟩ : ByteArray).extract ((Go.bits .and .u8 a0 15) : Int).toNat ((((Go.bits .and .u8 a0 15) + 1) % 256) : Int).toNat).size) = False := eq_false (Nat.not_lt.2 c9)
        obtain rfl := yG H
        go_enter Tryd.func65, Tryd.ntmps65
        go_wp2
        repeat (go_quiet (fail); try go_wp2)
        go_ret
        exact ⟨by first | rfl | (simp; done) | (simp only [*]; done) | (simp [*]; done) | ((simp only [← hji2] <;> (first | rfl | simp)); done), apF⟩
       ·rw [if_neg c9] at H
        exact absurd H (by simp)
      ·rw [if_neg c8] at H
       exact absurd H (by simp)
     ·rw [if_neg c7] at H
      exact absurd H (by simp)
    ·rw [if_neg c6] at H
     exact absurd H (by simp)
   ·rw [if_neg c5] at H
    exact absurd H (by simp)
  ·rw [if_neg c4] at H
   exact absurd H (by simp)
 ·rw [if_neg c3] at H
  exact absurd H (by simp)

end Go.Proofs.YthaceblepbkjjaaDoor.Q

namespace Go.Proofs.YthaceblepbkjjaaDoor.Q
open Go.RowKit Go.Proofs.YthaceblepbkjjaaDoorW.PrintWords Go.Proofs.YthaceblepbkjjaaDoorW.PrintLast Go.Proofs.YthaceblepbkjjaaDoorW.PrintMore Go.Proofs.YthaceblepbkjjaaDoorX
attribute [local go_sem] max2_int min2_int max_two min_two max_three min_three max_four min_four   -- for this text's walks alone
set_option linter.unusedVariables false
set_option linter.unusedSimpArgs false

def impl_jsonText.l0 : Nat → ByteArray → List Int → Int → Int → Option (ByteArray)
 | 0, _, _, _, _ => none
 | k + 1, x0, x3, x8, x9 => if x9 < x8 then (if 0 ≤ x9 then (if x9 < (x0.size : Int) then ((impl_plain.f (bt x0 x9)).bind fun t306 => (if t306 = true then (if x3.length < 140737488355328 then (impl_jsonText.l0 k x0 (x3 ++ [bt x0 x9]) x8 (wrap64 (x9 + 1))) else (none)) else (if (bt x0 x9) = 34 then ((some (([92, bt x0 x9] : List Int) : List Int)).bind fun y310 => (if x3.length + y310.length < 140737488355328 then (impl_jsonText.l0 k x0 (x3 ++ y310) x8 (wrap64 (x9 + 1))) else (none))) else (if (bt x0 x9) = 92 then ((some (([92, bt x0 x9] : List Int) : List Int)).bind fun y316 => (if x3.length + y316.length < 140737488355328 then (impl_jsonText.l0 k x0 (x3 ++ y316) x8 (wrap64 (x9 + 1))) else (none))) else ((impl_hex.f (bt x0 x9)).bind fun t322 => (if 4 + t322.size ≤ 9223372036854775807 then (if x3.length + ((⟨#[92, 117, 48, 48]⟩ : ByteArray) ++ t322).size < 140737488355328 then (impl_jsonText.l0 k x0 (x3 ++ bytesOf ((⟨#[92, 117, 48, 48]⟩ : ByteArray) ++ t322)) x8 (wrap64 (x9 + 1))) else (none)) else (none))))))) else (none)) else (none)) else (if x3.length < 140737488355328 then (some (strOfNums (x3 ++ [34]))) else (none))
def impl_jsonText.f (k : Nat) (a0 : ByteArray) : Option (ByteArray) := impl_jsonText.l0 k a0 (([34] : List Int)) (a0.size : Int) 0
theorem impl_jsonText.mono_l : ∀ k, (∀ y0 y1 y2 y3, LeO (impl_jsonText.l0 k y0 y1 y2 y3) (impl_jsonText.l0 (k + 1) y0 y1 y2 y3))
 | 0 => fun _ _ _ _ r h => by simp [impl_jsonText.l0] at h
 | k + 1 => by
  have ih0 := impl_jsonText.mono_l k
  ·intro y0 y1 y2 y3
   unfold impl_jsonText.l0
   repeat' first
   | (with_reducible exact ih0 _ _ _ _)
   | (with_reducible exact LeO.refl _)
   | (with_reducible exact LeO.none _)
   | (with_reducible refine LeO.ite ?_ ?_)
   | (with_reducible refine LeO.bind ?_ (fun _ => ?_))
   | exact ih0 _ _ _ _
theorem impl_jsonText.mono : ∀ a0 k, LeO (impl_jsonText.f k a0) (impl_jsonText.f (k + 1) a0) := by
 intro a0 k
 have ih0 := impl_jsonText.mono_l k
 unfold impl_jsonText.f
 repeat' first
   | (with_reducible exact ih0 _ _ _ _)
   | (with_reducible exact LeO.refl _)
   | (with_reducible exact LeO.none _)
   | (with_reducible refine LeO.ite ?_ ?_)
   | (with_reducible refine LeO.bind ?_ (fun _ => ?_))
   | exact ih0 _ _ _ _
set_option maxHeartbeats 8000000 in
set_option maxRecDepth 100000 in
theorem impl_jsonText.calls (k : Nat) (a0 : ByteArray) (r : ByteArray) (w : World) (h : impl_jsonText.f k a0 = some r) :
  Calls Tryd.prog 53 #[.string a0] w fun e w' => e = .returned (.string r) ∧ Below w.heap.size w w' := by
 have HB := zA (yH w.heap.size w)
 have H : (impl_jsonText.l0 k a0 (([34] : List Int)) (a0.size : Int) 0) = some r := h
 clear h
 obtain ⟨y300, hy300⟩ : ∃ y_ : List Int, y_ = (([34] : List Int)) := ⟨_, rfl⟩
 replace H : (impl_jsonText.l0 k a0 y300 (a0.size : Int) 0) = some r := by first | (rw [hy300]; with_reducible exact H) | (have H2_ := (Option.bind_some _ _).symm.trans H; rw [hy300]; with_reducible exact H2_) | (have H2_ := (Option.bind_some _ _).symm.trans H; with_reducible exact H2_) | with_reducible exact H | (rw [hy300]; exact H) | exact H
 have Ny300 := zA hy300
 clear hy300
 have H' := zA H
 clear H
 go_enter Tryd.func53, Tryd.ntmps53
 go_wp2_with (first | ((with_reducible refine zS (N := 6) rfl ?_); refine Kd.R_lit (Kd.int .u8) _ 5 ?hg (N := 6) ?hd (xs := ([34] : List Int)) (inner := [.int .u8 34]) (ok := fun _ => True) (okp := fun _ => True) ?hr ?hp (fun _ hk => hk) trivial (yH _ _) (yJ _) (by simp) ?_; (case hd => rfl); (case hg => rfl); (case hr => first | (go_simp; done) | (go_simp; rfl)); (case hp => exact (Reps.one (show Kd.M (Kd.int .u8) _ _ _ 34 [.int .u8 34] from rfl) (Reps.none _ _))); intro v301 w2 ho3 hb hg_ hnew_; clear hg_ hnew_; (first | rw [← Ny300.out] at ho3 | (simp only [Int.reduceToNat] at ho3; rw [← Ny300.out] at ho3)); have HO302 := zA (Kd.R_lower ho3 (zQ apA)); replace HB := zA (zP apA hb); clear hb ho3))
 go_loopg [3, 9] k (fun kq v3 v9 w' => ∃ (x3_1 : List Int) (x9_1 : Int), v9 = .int .i64 x9_1 ∧ Aside0 (impl_jsonText.l0 kq a0 x3_1 (a0.size : Int) x9_1 = some r) ∧ Aside0 (kq ≤ k) ∧ Aside0 (Kd.R (Kd.int .u8) 5 w' w.heap.size (fun _ => True) v3 x3_1) ∧ Aside0 (Below w.heap.size w w'))
 case atStart => exact ⟨(y300), (0), apC, H', ⟨yJ _⟩, ⟨vwR HO302.out⟩, ⟨apA⟩⟩
 case round =>
  clear H'
  try clear p2
  obtain ⟨x3_1, x9_1, rfl, HA, HK1, HO_3, HB⟩ := hrel
  cases gk with
  | zero => exact absurd HA.out (by simp [impl_jsonText.l0])
  | succ k1 =>
   have H := HA.out
   clear HA
   simp only [impl_jsonText.l0] at H
   by_cases c4 : x9_1 < (a0.size : Int)
   ·rw [if_pos c4] at H
    have c4b0 : decide (x9_1 < (a0.size : Int)) = true := yE c4
    clear c4
    by_cases c5 : 0 ≤ x9_1
    ·rw [if_pos c5] at H
     have c5b0 : decide (0 ≤ x9_1) = true := yE c5
     clear c5
     by_cases c6 : x9_1 < (a0.size : Int)
     ·rw [if_pos c6] at H
      have c6b0 : decide (x9_1 < (a0.size : Int)) = true := yE c6
      clear c6
      replace H := Option.bind_eq_some_iff.mp H
      obtain ⟨t306, A80, H⟩ := H
      have A8 := zA A80
      clear A80
      by_cases c9 : t306 = true
      ·subst c9
       have H1 := H; rw [if_pos rfl] at H1
       clear H
       have H := H1
       clear H1
       by_cases c10 : x3_1.length < 140737488355328
       ·rw [if_pos c10] at H
        have LMc10 := zA c10
        clear c10
        obtain ⟨y307, hy307⟩ : ∃ y_ : List Int, y_ = (x3_1 ++ [bt a0 x9_1]) := ⟨_, rfl⟩
        replace H : (impl_jsonText.l0 k1 a0 y307 (a0.size : Int) (wrap64 (x9_1 + 1))) = some r := by first | (rw [hy307]; with_reducible exact H) | (have H2_ := (Option.bind_some _ _).symm.trans H; rw [hy307]; with_reducible exact H2_) | (have H2_ := (Option.bind_some _ _).symm.trans H; with_reducible exact H2_) | with_reducible exact H | (rw [hy307]; exact H) | exact H
        have Ny307 := zA hy307
        clear hy307
        have H' := zA H
        clear H
        have p7 : 0 ≤ (x9_1 : Int) := yF apB
        have q7 : x9_1 < (a0.size : Int) := yF apB
        have hx7 := bt_at a0 x9_1
        replace p7 := eq_true p7
        replace q7 := eq_true q7
        go_wp2_with (first | ((with_reducible refine zT (f := 64) rfl ?_); refine goesL_ (some 22) rfl rfl Tryd.func64 (by kernel_rfl) rfl #[.int .u8 (bt a0 x9_1)] rfl apE ?_; (with_reducible refine (impl_plain.calls (bt a0 x9_1) true _ A8.out).mono ?_); rintro e w' ⟨rfl, ⟨nd, rfl⟩⟩; refine ⟨_, rfl, ?_⟩) | ((with_reducible refine gate_builtin (b := .append) (xs := #[.tmp 23, .tmp 25]) rfl ?_); at_builtin; refine Kd.R_append (Kd.int .u8) (w0 := w) w.heap.size rfl (.tmp 23) (.tmp 25) 65 5 (.int .u8 0) 1 rfl Tryd.underlying65 info5 rfl (by decide) (by omega) u3 x3_1 (bt a0 x9_1) [.int .u8 (bt a0 x9_1)] (fun _ => True) (fun _ => False) rfl rfl ?aP (fun _ hk => hk.elim) ?aF ?aO ?aB ?aS ?aL ?_; (case aP => exact rfl); (case aB => exact apA); (case aF => exact (fun _ _ => trivial)); (case aO => exact (vwR HO_3.out)); (case aS => exact (zQ apA)); (case aL => have := LMc10.out; (first | omega | (simp only [ByteArray.size, List.size_toArray, List.length_cons, List.length_nil] at *; omega))); intro v308 w11 ho hb hg hat; rw [← Ny307.out] at ho; replace HB := zA (hb); have HO309 := zA (ho); clear HO_3; clear ho hb hg hat))
        go_roundg k1
        case measure => have := HK1.out; omega
        case rel => exact ⟨(y307), (wrap64 (x9_1 + 1)), apC, H', ⟨by have := HK1.out; omega⟩, ⟨vwR HO309.out⟩, ⟨apA⟩⟩
       ·rw [if_neg c10] at H
        exact absurd H (by simp)
      ·replace c9 := Bool.eq_false_iff.mpr c9
       subst c9
       have H1 := H; rw [if_neg (show ¬ (false = true) by decide)] at H1
       clear H
       have H := H1
       clear H1
       by_cases c12 : (bt a0 x9_1) = 34
       ·rw [if_pos c12] at H
        have c12b0 : ((bt a0 x9_1) == 34) = true := beq_iff_eq.mpr c12
        have c12b1 : ((bt a0 x9_1) != 34) = false := bne_eq_false_iff_eq.mpr c12
        clear c12
        obtain ⟨y310, hy310⟩ : ∃ y_ : List Int, y_ = (([92, bt a0 x9_1] : List Int)) := ⟨_, rfl⟩
        replace H : (if x3_1.length + y310.length < 140737488355328 then (impl_jsonText.l0 k1 a0 (x3_1 ++ y310) (a0.size : Int) (wrap64 (x9_1 + 1))) else (none)) = some r := by first | (rw [hy310]; with_reducible exact H) | (have H2_ := (Option.bind_some _ _).symm.trans H; rw [hy310]; with_reducible exact H2_) | (have H2_ := (Option.bind_some _ _).symm.trans H; with_reducible exact H2_) | with_reducible exact H | (rw [hy310]; exact H) | exact H
        have Ny310 := zA hy310
        clear hy310
        by_cases c13 : x3_1.length + y310.length < 140737488355328
        ·rw [if_pos c13] at H
         have LMc13 := zA c13
         clear c13
         obtain ⟨y313, hy313⟩ : ∃ y_ : List Int, y_ = (x3_1 ++ y310) := ⟨_, rfl⟩
         replace H : (impl_jsonText.l0 k1 a0 y313 (a0.size : Int) (wrap64 (x9_1 + 1))) = some r := by first | (rw [hy313]; with_reducible exact H) | (have H2_ := (Option.bind_some _ _).symm.trans H; rw [hy313]; with_reducible exact H2_) | (have H2_ := (Option.bind_some _ _).symm.trans H; with_reducible exact H2_) | with_reducible exact H | (rw [hy313]; exact H) | exact H
         have Ny313 := zA hy313
         clear hy313
         have H' := zA H
         clear H
         have p7 : 0 ≤ (x9_1 : Int) := yF apB
         have q7 : x9_1 < (a0.size : Int) := yF apB
         have hx7 := bt_at a0 x9_1
         replace p7 := eq_true p7
         replace q7 := eq_true q7
         go_wp2_with (first | ((with_reducible refine zT (f := 64) rfl ?_); refine goesL_ (some 22) rfl rfl Tryd.func64 (by kernel_rfl) rfl #[.int .u8 (bt a0 x9_1)] rfl apE ?_; (with_reducible refine (impl_plain.calls (bt a0 x9_1) false _ A8.out).mono ?_); rintro e w' ⟨rfl, ⟨nd, rfl⟩⟩; refine ⟨_, rfl, ?_⟩) | ((with_reducible refine zS (N := 36) rfl ?_); refine Kd.R_lit (Kd.int .u8) _ 5 ?hg (N := 36) ?hd (xs := ([92, bt a0 x9_1] : List Int)) (inner := [.int .u8 92, .int .u8 (bt a0 x9_1)]) (ok := fun _ => True) (okp := fun _ => True) ?hr ?hp (fun _ hk => hk) trivial (yH _ _) (yJ _) (by simp) ?_; (case hd => rfl); (case hg => rfl); (case hr => first | (go_simp; done) | (go_simp; rfl)); (case hp => exact (Reps.one (show Kd.M (Kd.int .u8) _ _ _ 92 [.int .u8 92] from rfl) (Reps.one (show Kd.M (Kd.int .u8) _ _ _ (bt a0 x9_1) [.int .u8 (bt a0 x9_1)] from rfl) (Reps.none _ _)))); intro v311 w14 ho15 hb hg_ hnew_; clear hg_ hnew_; (first | rw [← Ny310.out] at ho15 | (simp only [Int.reduceToNat] at ho15; rw [← Ny310.out] at ho15)); have HO312 := zA (Kd.R_lower (Kd.R_new' ho15 (Kd.R_lt (vwR HO_3.out))) (zQ apA)); replace HO_3 := zA (Kd.R_elder' (vwR HO_3.out) (Kd.R_base ho15) hb); replace HB := zA (zP apA hb); clear hb ho15; obtain ⟨Ao17, co17, eo17⟩ := Kd.R_slice HO312.out; subst eo17) | ((with_reducible refine gate_builtin (b := .append) (xs := #[.tmp 34, .tmp 36]) rfl ?_); at_builtin; refine Kd.R_append_rows (Kd.int .u8) (w0 := w) w.heap.size rfl (.tmp 34) (.tmp 36) 65 5 (.int .u8 0) 1 rfl Tryd.underlying65 info5 rfl (by decide) (by omega) u3 x3_1 y310 _ _ _ (fun k_ => zn (.slice Ao17 y310.length co17) k_) (fun _ => False) rfl rfl ?aO ?aR (fun _ _ h => h) (fun _ h => h.elim) ?aF ?aB ?aS ?aL ?_; (case aR => exact vc (Kd.R_reads' HO312.out).2.2); (case aB => exact apA); (case aF => exact (fun k_ hk => Kd.fresh' (Kd.R_lt (vwR HO312.out)) k_ hk)); (case aO => exact (by (with_reducible repeat (first | apply Kd.R_alloc | apply Kd.R_drewN | apply Kd.R_drew)); exact Kd.R_mono HO_3.out (fun _ hk => hk.2))); (case aS => exact (zQ apA)); (case aL => have := LMc13.out; (first | omega | (simp only [ByteArray.size, List.size_toArray, List.length_cons, List.length_nil] at *; omega))); intro v314 w16 ho hb hg hat; rw [← Ny313.out] at ho; replace HO312 := zA (Kd.R_after (ok := (fun _ => True)) (vwR HO312.out) hg hat); replace HB := zA (hb); have HO315 := zA (ho); clear HO_3; clear ho hb hg hat))
         go_roundg k1
         case measure => have := HK1.out; omega
         case rel => exact ⟨(y313), (wrap64 (x9_1 + 1)), apC, H', ⟨by have := HK1.out; omega⟩, ⟨by (with_reducible repeat (first | apply Kd.R_alloc | apply Kd.R_drewN | apply Kd.R_drew)); exact Kd.R_mono HO315.out (fun _ hk => trivial)⟩, ⟨apA⟩⟩
        ·rw [if_neg c13] at H
         exact absurd H (by simp)
       ·rw [if_neg c12] at H
        have c12b0 : ((bt a0 x9_1) == 34) = false := beq_eq_false_iff_ne.mpr c12
        have c12b1 : ((bt a0 x9_1) != 34) = true := bne_iff_ne.mpr c12
        by_cases c18 : (bt a0 x9_1) = 92
        ·rw [if_pos c18] at H
         have c18b0 : ((bt a0 x9_1) == 92) = true := beq_iff_eq.mpr c18
         have c18b1 : ((bt a0 x9_1) != 92) = false := bne_eq_false_iff_eq.mpr c18
         clear c18
         obtain ⟨y316, hy316⟩ : ∃ y_ : List Int, y_ = (([92, bt a0 x9_1] : List Int)) := ⟨_, rfl⟩
         replace H : (if x3_1.length + y316.length < 140737488355328 then (impl_jsonText.l0 k1 a0 (x3_1 ++ y316) (a0.size : Int) (wrap64 (x9_1 + 1))) else (none)) = some r := by first | (rw [hy316]; with_reducible exact H) | (have H2_ := (Option.bind_some _ _).symm.trans H; rw [hy316]; with_reducible exact H2_) | (have H2_ := (Option.bind_some _ _).symm.trans H; with_reducible exact H2_) | with_reducible exact H | (rw [hy316]; exact H) | exact H
         have Ny316 := zA hy316
         clear hy316
         by_cases c19 : x3_1.length + y316.length < 140737488355328
         ·rw [if_pos c19] at H
          have LMc19 := zA c19
          clear c19
          obtain ⟨y319, hy319⟩ : ∃ y_ : List Int, y_ = (x3_1 ++ y316) := ⟨_, rfl⟩
          replace H : (impl_jsonText.l0 k1 a0 y319 (a0.size : Int) (wrap64 (x9_1 + 1))) = some r := by first | (rw [hy319]; with_reducible exact H) | (have H2_ := (Option.bind_some _ _).symm.trans H; rw [hy319]; with_reducible exact H2_) | (have H2_ := (Option.bind_some _ _).symm.trans H; with_reducible exact H2_) | with_reducible exact H | (rw [hy319]; exact H) | exact H
          have Ny319 := zA hy319
          clear hy319
          have H' := zA H
          clear H
          have p7 : 0 ≤ (x9_1 : Int) := yF apB
          have q7 : x9_1 < (a0.size : Int) := yF apB
          have hx7 := bt_at a0 x9_1
          replace p7 := eq_true p7
          replace q7 := eq_true q7
          go_wp2_with (first | ((with_reducible refine zT (f := 64) rfl ?_); refine goesL_ (some 22) rfl rfl Tryd.func64 (by kernel_rfl) rfl #[.int .u8 (bt a0 x9_1)] rfl apE ?_; (with_reducible refine (impl_plain.calls (bt a0 x9_1) false _ A8.out).mono ?_); rintro e w' ⟨rfl, ⟨nd, rfl⟩⟩; refine ⟨_, rfl, ?_⟩) | ((with_reducible refine zS (N := 36) rfl ?_); refine Kd.R_lit (Kd.int .u8) _ 5 ?hg (N := 36) ?hd (xs := ([92, bt a0 x9_1] : List Int)) (inner := [.int .u8 92, .int .u8 (bt a0 x9_1)]) (ok := fun _ => True) (okp := fun _ => True) ?hr ?hp (fun _ hk => hk) trivial (yH _ _) (yJ _) (by simp) ?_; (case hd => rfl); (case hg => rfl); (case hr => first | (go_simp; done) | (go_simp; rfl)); (case hp => exact (Reps.one (show Kd.M (Kd.int .u8) _ _ _ 92 [.int .u8 92] from rfl) (Reps.one (show Kd.M (Kd.int .u8) _ _ _ (bt a0 x9_1) [.int .u8 (bt a0 x9_1)] from rfl) (Reps.none _ _)))); intro v317 w20 ho21 hb hg_ hnew_; clear hg_ hnew_; (first | rw [← Ny316.out] at ho21 | (simp only [Int.reduceToNat] at ho21; rw [← Ny316.out] at ho21)); have HO318 := zA (Kd.R_lower (Kd.R_new' ho21 (Kd.R_lt (vwR HO_3.out))) (zQ apA)); replace HO_3 := zA (Kd.R_elder' (vwR HO_3.out) (Kd.R_base ho21) hb); replace HB := zA (zP apA hb); clear hb ho21; obtain ⟨Ao23, co23, eo23⟩ := Kd.R_slice HO318.out; subst eo23) | ((with_reducible refine gate_builtin (b := .append) (xs := #[.tmp 34, .tmp 36]) rfl ?_); at_builtin; refine Kd.R_append_rows (Kd.int .u8) (w0 := w) w.heap.size rfl (.tmp 34) (.tmp 36) 65 5 (.int .u8 0) 1 rfl Tryd.underlying65 info5 rfl (by decide) (by omega) u3 x3_1 y316 _ _ _ (fun k_ => zn (.slice Ao23 y316.length co23) k_) (fun _ => False) rfl rfl ?aO ?aR (fun _ _ h => h) (fun _ h => h.elim) ?aF ?aB ?aS ?aL ?_; (case aR => exact vc (Kd.R_reads' HO318.out).2.2); (case aB => exact apA); (case aF => exact (fun k_ hk => Kd.fresh' (Kd.R_lt (vwR HO318.out)) k_ hk)); (case aO => exact (by (with_reducible repeat (first | apply Kd.R_alloc | apply Kd.R_drewN | apply Kd.R_drew)); exact Kd.R_mono HO_3.out (fun _ hk => hk.2))); (case aS => exact (zQ apA)); (case aL => have := LMc19.out; (first | omega | (simp only [ByteArray.size, List.size_toArray, List.length_cons, List.length_nil] at *; omega))); intro v320 w22 ho hb hg hat; rw [← Ny319.out] at ho; replace HO318 := zA (Kd.R_after (ok := (fun _ => True)) (vwR HO318.out) hg hat); replace HB := zA (hb); have HO321 := zA (ho); clear HO_3; clear ho hb hg hat))
          go_roundg k1
          case measure => have := HK1.out; omega
          case rel => exact ⟨(y319), (wrap64 (x9_1 + 1)), apC, H', ⟨by have := HK1.out; omega⟩, ⟨by (with_reducible repeat (first | apply Kd.R_alloc | apply Kd.R_drewN | apply Kd.R_drew)); exact Kd.R_mono HO321.out (fun _ hk => trivial)⟩, ⟨apA⟩⟩
         ·rw [if_neg c19] at H
          exact absurd H (by simp)
        ·rw [if_neg c18] at H
         have c18b0 : ((bt a0 x9_1) == 92) = false := beq_eq_false_iff_ne.mpr c18
         have c18b1 : ((bt a0 x9_1) != 92) = true := bne_iff_ne.mpr c18
         replace H := Option.bind_eq_some_iff.mp H
         obtain ⟨t322, A240, H⟩ := H
         have A24 := zA A240
         clear A240
         by_cases c25 : 4 + t322.size ≤ 9223372036854775807
         ·rw [if_pos c25] at H
          have c25b0 := eq_true c25
          have c25b1 : decide (4 + t322.size ≤ 9223372036854775807) = true := yE c25
          try have c25b2 : (9223372036854775807 < 4 + t322.size) = False := eq_false (Nat.not_lt.2 c25)
          by_cases c26 : x3_1.length + ((⟨#[92, 117, 48, 48]⟩ : ByteArray) ++ t322).size < 140737488355328
          ·rw [if_pos c26] at H
           have LMc26 := zA c26
           clear c26
           obtain ⟨y323, hy323⟩ : ∃ y_ : List Int, y_ = (x3_1 ++ bytesOf ((⟨#[92, 117, 48, 48]⟩ : ByteArray) ++ t322)) := ⟨_, rfl⟩
           replace H : (impl_jsonText.l0 k1 a0 y323 (a0.size : Int) (wrap64 (x9_1 + 1))) = some r := by first | (rw [hy323]; with_reducible exact H) | (have H2_ := (Option.bind_some _ _).symm.trans H; rw [hy323]; with_reducible exact H2_) | (have H2_ := (Option.bind_some _ _).symm.trans H; with_reducible exact H2_) | with_reducible exact H | (rw [hy323]; exact H) | exact H
           have Ny323 := zA hy323
           clear hy323
           have H' := zA H
           clear H
           have p7 : 0 ≤ (x9_1 : Int) := yF apB
           have q7 : x9_1 < (a0.size : Int) := yF apB
           have hx7 := bt_at a0 x9_1
           replace p7 := eq_true p7
           replace q7 := eq_true q7
           go_wp2_with (first | ((with_reducible refine zT (f := 64) rfl ?_); refine goesL_ (some 22) rfl rfl Tryd.func64 (by kernel_rfl) rfl #[.int .u8 (bt a0 x9_1)] rfl apE ?_; (with_reducible refine (impl_plain.calls (bt a0 x9_1) false _ A8.out).mono ?_); rintro e w' ⟨rfl, ⟨nd, rfl⟩⟩; refine ⟨_, rfl, ?_⟩) | ((with_reducible refine zT (f := 65) rfl ?_); refine goesL_ (some 17) rfl rfl Tryd.func65 (by kernel_rfl) rfl #[.int .u8 (bt a0 x9_1)] rfl apE ?_; (with_reducible refine (impl_hex.calls (bt a0 x9_1) t322 _ A24.out).mono ?_); rintro e w' ⟨rfl, ⟨nd, rfl⟩⟩; refine ⟨_, rfl, ?_⟩) | (at_builtin; refine print_append_str (w0 := w) w.heap.size rfl (.tmp 15) _ 65 9 5 rfl Tryd.underlying65 Tryd.underlying9 info5 u3 x3_1 ((⟨#[92, 117, 48, 48]⟩ : ByteArray) ++ t322) rfl rfl ?aO ?aB ?aS ?aL ?_; (case aB => exact apA); (case aO => exact (Kd.own_of_R (vwR HO_3.out))); (case aS => exact (zQ apA)); (case aL => have := LMc26.out; (first | omega | (simp only [ByteArray.size, List.size_toArray, List.length_cons, List.length_nil] at *; omega))); intro v324 w27 ho0 hb hg; have ho := Kd.R_of_own (h1 := fun _ => rfl) (ok := fun _ => True) ho0 (fun _ _ => trivial); clear ho0; have hat := True.intro; rw [← Ny323.out] at ho; change Kd.R (Kd.int .u8) 5 w27 w.heap.size (fun _ => True) v324 y323 at ho; replace HB := zA (hb); have HO325 := zA (ho); clear HO_3; clear ho hb hg hat))
           go_roundg k1
           case measure => have := HK1.out; omega
           case rel => exact ⟨(y323), (wrap64 (x9_1 + 1)), apC, H', ⟨by have := HK1.out; omega⟩, ⟨vwR HO325.out⟩, ⟨apA⟩⟩
          ·rw [if_neg c26] at H
           exact absurd H (by simp)
         ·rw [if_neg c25] at H
          exact absurd H (by simp)
     ·rw [if_neg c6] at H
      exact absurd H (by simp)
    ·rw [if_neg c5] at H
     exact absurd H (by simp)
   ·rw [if_neg c4] at H
    have c4b0 : decide (x9_1 < (a0.size : Int)) = false := decide_eq_false c4
    clear c4
    by_cases c28 : x3_1.length < 140737488355328
    ·rw [if_pos c28] at H
     have LMc28 := zA c28
     clear c28
     obtain ⟨y303, hy303⟩ : ∃ y_ : List Int, y_ = (x3_1 ++ [34]) := ⟨_, rfl⟩
     replace H : (some (strOfNums y303)) = some r := by first | (rw [hy303]; with_reducible exact H) | (have H2_ := (Option.bind_some _ _).symm.trans H; rw [hy303]; with_reducible exact H2_) | (have H2_ := (Option.bind_some _ _).symm.trans H; with_reducible exact H2_) | with_reducible exact H | (rw [hy303]; exact H) | exact H
     have Ny303 := zA hy303
     clear hy303
     obtain rfl := yG H
     go_wp2_with (first | ((with_reducible refine gate_builtin (b := .append) (xs := #[.tmp 39, .tmp 40]) rfl ?_); at_builtin; refine Kd.R_append (Kd.int .u8) (w0 := w) w.heap.size rfl (.tmp 39) (.tmp 40) 65 5 (.int .u8 0) 1 rfl Tryd.underlying65 info5 rfl (by decide) (by omega) u3 x3_1 34 [.int .u8 34] (fun _ => True) (fun _ => False) rfl rfl ?aP (fun _ hk => hk.elim) ?aF ?aO ?aB ?aS ?aL ?_; (case aP => exact rfl); (case aB => exact apA); (case aF => exact (fun _ _ => trivial)); (case aO => exact (vwR HO_3.out)); (case aS => exact (zQ apA)); (case aL => have := LMc28.out; (first | omega | (simp only [ByteArray.size, List.size_toArray, List.length_cons, List.length_nil] at *; omega))); intro v304 w29 ho hb hg hat; rw [← Ny303.out] at ho; replace HB := zA (hb); have HO305 := zA (ho); clear HO_3; clear ho hb hg hat; have hcv30 := own_string (P := Tryd.prog) Tryd.underlying65 Tryd.underlying5 Tryd.underlying9 (Kd.own_of_R HO305.out)))
     go_ret
     exact ⟨apD, apA⟩
    ·rw [if_neg c28] at H
     exact absurd H (by simp)


mutual
def spec_l7Put.l0 : Nat → ByteArray → Int → Int → Int → Int → ByteArray → List (S34) → List ByteArray → Option (ByteArray)
 | 0, _, _, _, _, _, _, _, _ => none
 | k + 1, x3, x4, x212000, x212001, x212002, x212003, x212004, x212005 => if x4 < (x212004.length : Int) then (if x4 > 0 then (if x3.size + 1 ≤ 9223372036854775807 then (spec_l7Put.j1 k (x3 ++ (⟨#[44]⟩ : ByteArray)) x4 x212000 x212001 x212002 x212003 x212004 x212005) else (none)) else (spec_l7Put.j1 k x3 x4 x212000 x212001 x212002 x212003 x212004 x212005)) else (if x212000 = 6 then (if 1 + x3.size ≤ 9223372036854775807 then (if ((⟨#[123]⟩ : ByteArray) ++ x3).size + 1 ≤ 9223372036854775807 then (some (((⟨#[123]⟩ : ByteArray) ++ x3) ++ (⟨#[125]⟩ : ByteArray))) else (none)) else (none)) else (if 1 + x3.size ≤ 9223372036854775807 then (if ((⟨#[91]⟩ : ByteArray) ++ x3).size + 1 ≤ 9223372036854775807 then (some (((⟨#[91]⟩ : ByteArray) ++ x3) ++ (⟨#[93]⟩ : ByteArray))) else (none)) else (none)))
def spec_l7Put.j1 : Nat → ByteArray → Int → Int → Int → Int → ByteArray → List (S34) → List ByteArray → Option (ByteArray)
 | 0, _, _, _, _, _, _, _, _ => none
 | k + 1, x3, x4, x212000, x212001, x212002, x212003, x212004, x212005 => if x212000 = 6 then (if 0 ≤ x4 then (if x4 < (x212005.length : Int) then ((spec_l7Quote.f k (rdOf ByteArray.empty x212005 x4)).bind fun t215 => (if x3.size + t215.size ≤ 9223372036854775807 then (if (x3 ++ t215).size + 1 ≤ 9223372036854775807 then (if x4 < (x212004.length : Int) then ((spec_l7Put.f k ((rd_T34 x212004 x4).f0) ((rd_T34 x212004 x4).f1.f0) ((rd_T34 x212004 x4).f1.f1) ((rd_T34 x212004 x4).f2) ((rd_T34 x212004 x4).f3) ((rd_T34 x212004 x4).f4)).bind fun t217 => (if ((x3 ++ t215) ++ (⟨#[58]⟩ : ByteArray)).size + t217.size ≤ 9223372036854775807 then (spec_l7Put.l0 k (((x3 ++ t215) ++ (⟨#[58]⟩ : ByteArray)) ++ t217) (wrap64 (x4 + 1)) x212000 x212001 x212002 x212003 x212004 x212005) else (none))) else (none)) else (none)) else (none))) else (none)) else (none)) else (if 0 ≤ x4 then (if x4 < (x212004.length : Int) then ((spec_l7Put.f k ((rd_T34 x212004 x4).f0) ((rd_T34 x212004 x4).f1.f0) ((rd_T34 x212004 x4).f1.f1) ((rd_T34 x212004 x4).f2) ((rd_T34 x212004 x4).f3) ((rd_T34 x212004 x4).f4)).bind fun t219 => (if x3.size + t219.size ≤ 9223372036854775807 then (spec_l7Put.l0 k (x3 ++ t219) (wrap64 (x4 + 1)) x212000 x212001 x212002 x212003 x212004 x212005) else (none))) else (none)) else (none))
def spec_l7Put.f : Nat → Int → Int → Int → ByteArray → List (S34) → List ByteArray → Option (ByteArray)
 | 0, _, _, _, _, _, _ => none
 | k + 1, a0_0, a0_1, a0_2, a0_3, l0_4, l0_5 => if a0_0 = 0 then (some (⟨#[110, 117, 108, 108]⟩ : ByteArray)) else (if a0_0 = 1 then (some (⟨#[116, 114, 117, 101]⟩ : ByteArray)) else (if a0_0 = 2 then (some (⟨#[102, 97, 108, 115, 101]⟩ : ByteArray)) else (if a0_0 = 3 then ((spec_l1Text.f k a0_1 a0_2).bind fun t212 => (some t212)) else (if a0_0 = 4 then ((spec_l7Quote.f k a0_3).bind fun t213 => (some t213)) else (spec_l7Put.l0 k (⟨#[]⟩ : ByteArray) 0 a0_0 a0_1 a0_2 a0_3 l0_4 l0_5)))))
end
theorem spec_l7Put.mono_l : ∀ k, (∀ y0 y1 y2 y3 y4 y5, LeO (spec_l7Put.f k y0 y1 y2 y3 y4 y5) (spec_l7Put.f (k + 1) y0 y1 y2 y3 y4 y5)) ∧ (∀ y0 y1 y2 y3 y4 y5 y6 y7, LeO (spec_l7Put.l0 k y0 y1 y2 y3 y4 y5 y6 y7) (spec_l7Put.l0 (k + 1) y0 y1 y2 y3 y4 y5 y6 y7)) ∧ (∀ y0 y1 y2 y3 y4 y5 y6 y7, LeO (spec_l7Put.j1 k y0 y1 y2 y3 y4 y5 y6 y7) (spec_l7Put.j1 (k + 1) y0 y1 y2 y3 y4 y5 y6 y7))
 | 0 => ⟨fun _ _ _ _ _ _ r h => by simp [spec_l7Put.f] at h, fun _ _ _ _ _ _ _ _ r h => by simp [spec_l7Put.l0] at h, fun _ _ _ _ _ _ _ _ r h => by simp [spec_l7Put.j1] at h⟩
 | k + 1 => by
  obtain ⟨ih0, ih1, ih2⟩ := spec_l7Put.mono_l k
  refine ⟨?_, ?_, ?_⟩
  ·intro y0 y1 y2 y3 y4 y5
   unfold spec_l7Put.f
   repeat' first
   | (with_reducible exact ih0 _ _ _ _ _ _)
   | (with_reducible exact ih1 _ _ _ _ _ _ _ _)
   | (with_reducible exact ih2 _ _ _ _ _ _ _ _)
   | (with_reducible exact spec_l1Text.mono _ _ _)
   | (with_reducible exact spec_l7Quote.mono _ _)
   | (with_reducible exact LeO.refl _)
   | (with_reducible exact LeO.none _)
   | (with_reducible refine LeO.ite ?_ ?_)
   | (with_reducible refine LeO.bind ?_ (fun _ => ?_))
   | exact ih0 _ _ _ _ _ _
   | exact ih1 _ _ _ _ _ _ _ _
   | exact ih2 _ _ _ _ _ _ _ _
  ·intro y0 y1 y2 y3 y4 y5 y6 y7
   unfold spec_l7Put.l0
   repeat' first
   | (with_reducible exact ih0 _ _ _ _ _ _)
   | (with_reducible exact ih1 _ _ _ _ _ _ _ _)
   | (with_reducible exact ih2 _ _ _ _ _ _ _ _)
   | (with_reducible exact spec_l1Text.mono _ _ _)
   | (with_reducible exact spec_l7Quote.mono _ _)
   | (with_reducible exact LeO.refl _)
   | (with_reducible exact LeO.none _)
   | (with_reducible refine LeO.ite ?_ ?_)
   | (with_reducible refine LeO.bind ?_ (fun _ => ?_))
   | exact ih0 _ _ _ _ _ _
   | exact ih1 _ _ _ _ _ _ _ _
   | exact ih2 _ _ _ _ _ _ _ _
  ·intro y0 y1 y2 y3 y4 y5 y6 y7
   unfold spec_l7Put.j1
   repeat' first
   | (with_reducible exact ih0 _ _ _ _ _ _)
   | (with_reducible exact ih1 _ _ _ _ _ _ _ _)
   | (with_reducible exact ih2 _ _ _ _ _ _ _ _)
   | (with_reducible exact spec_l1Text.mono _ _ _)
   | (with_reducible exact spec_l7Quote.mono _ _)
   | (with_reducible exact LeO.refl _)
   | (with_reducible exact LeO.none _)
   | (with_reducible refine LeO.ite ?_ ?_)
   | (with_reducible refine LeO.bind ?_ (fun _ => ?_))
   | exact ih0 _ _ _ _ _ _
   | exact ih1 _ _ _ _ _ _ _ _
   | exact ih2 _ _ _ _ _ _ _ _
theorem spec_l7Put.mono : ∀ a0 a1 a2 a3 a4 a5 k, LeO (spec_l7Put.f k a0 a1 a2 a3 a4 a5) (spec_l7Put.f (k + 1) a0 a1 a2 a3 a4 a5) := by
 intro a0 a1 a2 a3 a4 a5 k
 obtain ⟨ih0, ih1, ih2⟩ := spec_l7Put.mono_l k
 exact ih0 a0 a1 a2 a3 a4 a5
set_option maxHeartbeats 8000000 in
set_option maxRecDepth 100000 in
theorem spec_l7Put.calls (k : Nat) : ∀ (a0_0 : Int) (a0_1 : Int) (a0_2 : Int) (a0_3 : ByteArray) (A0_4 : Option Addr) (c0_4 : Nat) (l0_4 : List (S34)) (A0_5 : Option Addr) (c0_5 : Nat) (l0_5 : List ByteArray) (r : ByteArray) (w : World) (hr0_4 : Kd.C k34 w A0_4 l0_4.length l0_4) (hc0_4 : l0_4.length ≤ c0_4) (hr0_5 : Kd.C Kd.string w A0_5 l0_5.length l0_5) (hc0_5 : l0_5.length ≤ c0_5) (h : spec_l7Put.f k a0_0 a0_1 a0_2 a0_3 l0_4 l0_5 = some r),
  Calls Tryd.prog 25 #[.agg #[.int .i64 a0_0, .int .i64 a0_1, .int .i64 a0_2, .string a0_3, .slice A0_4 l0_4.length c0_4, .slice A0_5 l0_5.length c0_5]] w fun e w' => e = .returned (.string r) ∧ Below w.heap.size w w' := by
 induction k using Nat.strongRecOn with
 | _ k ih =>
 intro a0_0 a0_1 a0_2 a0_3 A0_4 c0_4 l0_4 A0_5 c0_5 l0_5 r w hr0_4 hc0_4 hr0_5 hc0_5 h
 cases k with
 | zero => exact absurd h (by simp [spec_l7Put.f])
 | succ k =>
 simp only [spec_l7Put.f] at h
 have hu34 := Tryd.underlying34
 have hu31 := Tryd.underlying31
 have HR0_4 := zA hr0_4
 have HC0_4 := zA hc0_4
 clear hr0_4 hc0_4
 have HR0_5 := zA hr0_5
 have HC0_5 := zA hc0_5
 clear hr0_5 hc0_5
 have HB := zA (yH w.heap.size w)
 have H : (if a0_0 = 0 then (some (⟨#[110, 117, 108, 108]⟩ : ByteArray)) else (if a0_0 = 1 then (some (⟨#[116, 114, 117, 101]⟩ : ByteArray)) else (if a0_0 = 2 then (some (⟨#[102, 97, 108, 115, 101]⟩ : ByteArray)) else (if a0_0 = 3 then ((spec_l1Text.f k a0_1 a0_2).bind fun t212 => (some t212)) else (if a0_0 = 4 then ((spec_l7Quote.f k a0_3).bind fun t213 => (some t213)) else (spec_l7Put.l0 k (⟨#[]⟩ : ByteArray) 0 a0_0 a0_1 a0_2 a0_3 l0_4 l0_5)))))) = some r := h
 clear h
 by_cases c2 : a0_0 = 0
 ·rw [if_pos c2] at H
  have c2b0 : (a0_0 == 0) = true := beq_iff_eq.mpr c2
  have c2b1 : (a0_0 != 0) = false := bne_eq_false_iff_eq.mpr c2
  clear c2
  obtain rfl := yG H
  go_enter Tryd.func25, Tryd.ntmps25
  go_wp2_with (first | ((with_reducible refine zS (N := 1) rfl ?_); refine zW ?hg (N := 1) ?hd (cs := #[.int .i64 a0_0, .int .i64 a0_1, .int .i64 a0_2, .string a0_3, .slice A0_4 l0_4.length c0_4, .slice A0_5 l0_5.length c0_5]) (t := 34) ?hr ?_; (case hd => rfl); (case hg => rfl); (case hr => first | (go_simp; done) | (go_simp; rfl)); intro gb211 hg w3 hbox hb; have BK211 := zA (hbox); have GW211 := zA ((by rw [hg]; exact (zQ apA) : w.heap.size ≤ gb211)); have GE211 := zA ((by rw [hg]; exact (zQ apA) : w.heap.size ≤ gb211)); replace HB := zA (zP apA hb); clear hb hbox hg; obtain ⟨hcz4_0, hcz4_1, hcz4_2, hcz4_3, hcz4_4, hcz4_5, hfz4_0, hfz4_1, hfz4_2, hfz4_3, hfz4_4, hfz4_5⟩ := zb6 BK211.out))
  go_ret
  exact ⟨apD, apS⟩
 ·rw [if_neg c2] at H
  have c2b0 : (a0_0 == 0) = false := beq_eq_false_iff_ne.mpr c2
  have c2b1 : (a0_0 != 0) = true := bne_iff_ne.mpr c2
  by_cases c5 : a0_0 = 1
  ·rw [if_pos c5] at H
   have c5b0 : (a0_0 == 1) = true := beq_iff_eq.mpr c5
   have c5b1 : (a0_0 != 1) = false := bne_eq_false_iff_eq.mpr c5
   clear c5
   obtain rfl := yG H
   go_enter Tryd.func25, Tryd.ntmps25
   go_wp2_with (first | ((with_reducible refine zS (N := 1) rfl ?_); refine zW ?hg (N := 1) ?hd (cs := #[.int .i64 a0_0, .int .i64 a0_1, .int .i64 a0_2, .string a0_3, .slice A0_4 l0_4.length c0_4, .slice A0_5 l0_5.length c0_5]) (t := 34) ?hr ?_; (case hd => rfl); (case hg => rfl); (case hr => first | (go_simp; done) | (go_simp; rfl)); intro gb211 hg w6 hbox hb; have BK211 := zA (hbox); have GW211 := zA ((by rw [hg]; exact (zQ apA) : w.heap.size ≤ gb211)); have GE211 := zA ((by rw [hg]; exact (zQ apA) : w.heap.size ≤ gb211)); replace HB := zA (zP apA hb); clear hb hbox hg; obtain ⟨hcz7_0, hcz7_1, hcz7_2, hcz7_3, hcz7_4, hcz7_5, hfz7_0, hfz7_1, hfz7_2, hfz7_3, hfz7_4, hfz7_5⟩ := zb6 BK211.out))
   go_ret
   exact ⟨apD, apS⟩
  ·rw [if_neg c5] at H
   have c5b0 : (a0_0 == 1) = false := beq_eq_false_iff_ne.mpr c5
   have c5b1 : (a0_0 != 1) = true := bne_iff_ne.mpr c5
   by_cases c8 : a0_0 = 2
   ·rw [if_pos c8] at H
    have c8b0 : (a0_0 == 2) = true := beq_iff_eq.mpr c8
    have c8b1 : (a0_0 != 2) = false := bne_eq_false_iff_eq.mpr c8
    clear c8
    obtain rfl := yG H
    go_enter Tryd.func25, Tryd.ntmps25
    go_wp2_with (first | ((with_reducible refine zS (N := 1) rfl ?_); refine zW ?hg (N := 1) ?hd (cs := #[.int .i64 a0_0, .int .i64 a0_1, .int .i64 a0_2, .string a0_3, .slice A0_4 l0_4.length c0_4, .slice A0_5 l0_5.length c0_5]) (t := 34) ?hr ?_; (case hd => rfl); (case hg => rfl); (case hr => first | (go_simp; done) | (go_simp; rfl)); intro gb211 hg w9 hbox hb; have BK211 := zA (hbox); have GW211 := zA ((by rw [hg]; exact (zQ apA) : w.heap.size ≤ gb211)); have GE211 := zA ((by rw [hg]; exact (zQ apA) : w.heap.size ≤ gb211)); replace HB := zA (zP apA hb); clear hb hbox hg; obtain ⟨hcz10_0, hcz10_1, hcz10_2, hcz10_3, hcz10_4, hcz10_5, hfz10_0, hfz10_1, hfz10_2, hfz10_3, hfz10_4, hfz10_5⟩ := zb6 BK211.out))
    go_ret
    exact ⟨apD, apS⟩
   ·rw [if_neg c8] at H
    have c8b0 : (a0_0 == 2) = false := beq_eq_false_iff_ne.mpr c8
    have c8b1 : (a0_0 != 2) = true := bne_iff_ne.mpr c8
    by_cases c11 : a0_0 = 3
    ·rw [if_pos c11] at H
     have c11b0 : (a0_0 == 3) = true := beq_iff_eq.mpr c11
     have c11b1 : (a0_0 != 3) = false := bne_eq_false_iff_eq.mpr c11
     clear c11
     replace H := Option.bind_eq_some_iff.mp H
     obtain ⟨t212, A120, H⟩ := H
     have A12 := zA A120
     clear A120
     obtain rfl := yG H
     go_enter Tryd.func25, Tryd.ntmps25
     go_wp2_with (first | ((with_reducible refine zS (N := 1) rfl ?_); refine zW ?hg (N := 1) ?hd (cs := #[.int .i64 a0_0, .int .i64 a0_1, .int .i64 a0_2, .string a0_3, .slice A0_4 l0_4.length c0_4, .slice A0_5 l0_5.length c0_5]) (t := 34) ?hr ?_; (case hd => rfl); (case hg => rfl); (case hr => first | (go_simp; done) | (go_simp; rfl)); intro gb211 hg w13 hbox hb; have BK211 := zA (hbox); have GW211 := zA ((by rw [hg]; exact (zQ apA) : w.heap.size ≤ gb211)); have GE211 := zA ((by rw [hg]; exact (zQ apA) : w.heap.size ≤ gb211)); replace HB := zA (zP apA hb); clear hb hbox hg; obtain ⟨hcz14_0, hcz14_1, hcz14_2, hcz14_3, hcz14_4, hcz14_5, hfz14_0, hfz14_1, hfz14_2, hfz14_3, hfz14_4, hfz14_5⟩ := zb6 BK211.out) | ((with_reducible refine zT (f := 34) rfl ?_); refine goesL_ (some 17) rfl rfl Tryd.func34 (by kernel_rfl) rfl #[.agg #[.int .i64 a0_1, .int .i64 a0_2]] rfl apE ?_; (with_reducible refine (spec_l1Text.calls k a0_1 a0_2 t212 _ A12.out).mono ?_); rintro e w15 ⟨rfl, hb⟩; refine ⟨_, rfl, ?_⟩; replace HB := zA (zP apA hb); (try clear hb); (try clear hb2); (try clear hk); (try clear hi)))
     go_ret
     exact ⟨apD, apA⟩
    ·rw [if_neg c11] at H
     have c11b0 : (a0_0 == 3) = false := beq_eq_false_iff_ne.mpr c11
     have c11b1 : (a0_0 != 3) = true := bne_iff_ne.mpr c11
     by_cases c16 : a0_0 = 4
     ·rw [if_pos c16] at H
      have c16b0 : (a0_0 == 4) = true := beq_iff_eq.mpr c16
      have c16b1 : (a0_0 != 4) = false := bne_eq_false_iff_eq.mpr c16
      clear c16
      replace H := Option.bind_eq_some_iff.mp H
      obtain ⟨t213, A170, H⟩ := H
      have A17 := zA A170
      clear A170
      obtain rfl := yG H
      go_enter Tryd.func25, Tryd.ntmps25
      go_wp2_with (first | ((with_reducible refine zS (N := 1) rfl ?_); refine zW ?hg (N := 1) ?hd (cs := #[.int .i64 a0_0, .int .i64 a0_1, .int .i64 a0_2, .string a0_3, .slice A0_4 l0_4.length c0_4, .slice A0_5 l0_5.length c0_5]) (t := 34) ?hr ?_; (case hd => rfl); (case hg => rfl); (case hr => first | (go_simp; done) | (go_simp; rfl)); intro gb211 hg w18 hbox hb; have BK211 := zA (hbox); have GW211 := zA ((by rw [hg]; exact (zQ apA) : w.heap.size ≤ gb211)); have GE211 := zA ((by rw [hg]; exact (zQ apA) : w.heap.size ≤ gb211)); replace HB := zA (zP apA hb); clear hb hbox hg; obtain ⟨hcz19_0, hcz19_1, hcz19_2, hcz19_3, hcz19_4, hcz19_5, hfz19_0, hfz19_1, hfz19_2, hfz19_3, hfz19_4, hfz19_5⟩ := zb6 BK211.out) | ((with_reducible refine zT (f := 35) rfl ?_); refine goesL_ (some 22) rfl rfl Tryd.func35 (by kernel_rfl) rfl #[.string a0_3] rfl apE ?_; (with_reducible refine (spec_l7Quote.calls k a0_3 t213 _ A17.out).mono ?_); rintro e w20 ⟨rfl, hb⟩; refine ⟨_, rfl, ?_⟩; replace HB := zA (zP apA hb); (try clear hb); (try clear hb2); (try clear hk); (try clear hi)))
      go_ret
      exact ⟨apD, apA⟩
     ·rw [if_neg c16] at H
      have c16b0 : (a0_0 == 4) = false := beq_eq_false_iff_ne.mpr c16
      have c16b1 : (a0_0 != 4) = true := bne_iff_ne.mpr c16
      have H' := zA H
      clear H
      go_enter Tryd.func25, Tryd.ntmps25
      go_wp2_with (first | ((with_reducible refine zS (N := 1) rfl ?_); refine zW ?hg (N := 1) ?hd (cs := #[.int .i64 a0_0, .int .i64 a0_1, .int .i64 a0_2, .string a0_3, .slice A0_4 l0_4.length c0_4, .slice A0_5 l0_5.length c0_5]) (t := 34) ?hr ?_; (case hd => rfl); (case hg => rfl); (case hr => first | (go_simp; done) | (go_simp; rfl)); intro gb211 hg w21 hbox hb; have BK211 := zA (hbox); have GW211 := zA ((by rw [hg]; exact (zQ apA) : w.heap.size ≤ gb211)); have GE211 := zA ((by rw [hg]; exact (zQ apA) : w.heap.size ≤ gb211)); replace HB := zA (zP apA hb); clear hb hbox hg; obtain ⟨hcz22_0, hcz22_1, hcz22_2, hcz22_3, hcz22_4, hcz22_5, hfz22_0, hfz22_1, hfz22_2, hfz22_3, hfz22_4, hfz22_5⟩ := zb6 BK211.out))
      go_loopg [3, 4] k (fun kq v3 v4 w' => ∃ (x3_1 : ByteArray) (x4_1 : Int), v3 = .string x3_1 ∧ v4 = .int .i64 x4_1 ∧ Aside0 (spec_l7Put.l0 kq x3_1 x4_1 a0_0 a0_1 a0_2 a0_3 l0_4 l0_5 = some r) ∧ Aside0 (kq ≤ k) ∧ Aside0 (w'.heap[gb211]? = some (.cells #[.int .i64 a0_0, .int .i64 a0_1, .int .i64 a0_2, .string a0_3, (.slice A0_4 l0_4.length c0_4), (.slice A0_5 l0_5.length c0_5)] 34 (0, 0))) ∧ Aside0 (Below w.heap.size w w'))
      case atStart => exact ⟨((⟨#[]⟩ : ByteArray)), (0), apC, apC, H', ⟨yJ _⟩, ⟨by (with_reducible repeat (first | refine zB ?_ _ | refine zD ?_ | refine zC ?_ _)); exact BK211.out⟩, ⟨apS⟩⟩
      case round =>
       clear H'
       try clear c1 c2 c2b0 c2b1 p2 c3 c5 c5b0 c5b1 c8 c8b0 c8b1 c11 c11b0 c11b1 c16 c16b0 c16b1 hcz10_0 hcz10_1 hcz10_2 hcz10_3 hcz10_4 hcz10_5 hcz14_0 hcz14_1 hcz14_2 hcz14_3 hcz14_4 hcz14_5 hcz19_0 hcz19_1 hcz19_2 hcz19_3 hcz19_4 hcz19_5 hcz22_0 hcz22_1 hcz22_2 hcz22_3 hcz22_4 hcz22_5 hcz4_0 hcz4_1 hcz4_2 hcz4_3 hcz4_4 hcz4_5 hcz7_0 hcz7_1 hcz7_2 hcz7_3 hcz7_4 hcz7_5 hfz10_0 hfz10_1 hfz10_2 hfz10_3 hfz10_4 hfz10_5 hfz14_0 hfz14_1 hfz14_2 hfz14_3 hfz14_4 hfz14_5 hfz19_0 hfz19_1 hfz19_2 hfz19_3 hfz19_4 hfz19_5 hfz22_0 hfz22_1 hfz22_2 hfz22_3 hfz22_4 hfz22_5 hfz4_0 hfz4_1 hfz4_2 hfz4_3 hfz4_4 hfz4_5 hfz7_0 hfz7_1 hfz7_2 hfz7_3 hfz7_4 hfz7_5
       obtain ⟨x3_1, x4_1, rfl, rfl, HA, HK1, BK211, HB⟩ := hrel
       cases gk with
       | zero => exact absurd HA.out (by simp [spec_l7Put.l0])
       | succ k1 =>
        have H := HA.out
        clear HA
        simp only [spec_l7Put.l0] at H
        by_cases c23 : x4_1 < (l0_4.length : Int)
        ·rw [if_pos c23] at H
         have c23b0 : decide (x4_1 < (l0_4.length : Int)) = true := yE c23
         clear c23
         have HC24 := zA H
         clear H
         obtain ⟨hcz25_0, hcz25_1, hcz25_2, hcz25_3, hcz25_4, hcz25_5, hfz25_0, hfz25_1, hfz25_2, hfz25_3, hfz25_4, hfz25_5⟩ := zb6 BK211.out
         go_upto_if 31 with (fail)
         go_cut [3] (fun v3 wc => ∃ (kq : Nat) (x3_23 : ByteArray), v3 = .string x3_23 ∧ Aside0 (spec_l7Put.j1 kq x3_23 x4_1 a0_0 a0_1 a0_2 a0_3 l0_4 l0_5 = some r) ∧ Aside0 (kq ≤ k1) ∧ Aside0 (wc.heap[gb211]? = some (.cells #[.int .i64 a0_0, .int .i64 a0_1, .int .i64 a0_2, .string a0_3, (.slice A0_4 l0_4.length c0_4), (.slice A0_5 l0_5.length c0_5)] 34 (0, 0))) ∧ Aside0 (Below w.heap.size w wc))
         case first =>
          have H := HC24.out
          clear HC24
          by_cases c26 : x4_1 > 0
          ·rw [if_pos c26] at H
           have c26b0 : decide (0 < x4_1) = true := yE c26
           clear c26
           (first | rw [c26b0] | (simp only [i64_w, i32_w]; rw [c26b0]) | skip)
           by_cases c27 : x3_1.size + 1 ≤ 9223372036854775807
           ·rw [if_pos c27] at H
            have c27b0 := eq_true c27
            have c27b1 : decide (x3_1.size + 1 ≤ 9223372036854775807) = true := yE c27
            try have c27b2 : (9223372036854775807 < x3_1.size + 1) = False := eq_false (Nat.not_lt.2 c27)
            have H' := zA H
            clear H
            go_wp2
            go_meet
            case rel => exact ⟨_, (x3_1 ++ (⟨#[44]⟩ : ByteArray)), apC, H', ⟨by have := HK1.out; first | omega | exact yJ _⟩, ⟨by (with_reducible repeat (first | refine zB ?_ _ | refine zD ?_ | refine zC ?_ _)); exact BK211.out⟩, ⟨apS⟩⟩
           ·rw [if_neg c27] at H
            exact absurd H (by simp)
          ·rw [if_neg c26] at H
           have c26b0 : decide (0 < x4_1) = false := decide_eq_false c26
           clear c26
           (first | rw [c26b0] | (simp only [i64_w, i32_w]; rw [c26b0]) | skip)
           have H' := zA H
           clear H
           go_wp2
           go_meet
           case rel => exact ⟨_, (x3_1), apC, H', ⟨by have := HK1.out; first | omega | exact yJ _⟩, ⟨by (with_reducible repeat (first | refine zB ?_ _ | refine zD ?_ | refine zC ?_ _)); exact BK211.out⟩, ⟨apS⟩⟩
         case rest =>
          clear HC24
          try clear c1 c2 c2b0 c2b1 p2 c3 c5 c5b0 c5b1 c8 c8b0 c8b1 c11 c11b0 c11b1 c16 c16b0 c16b1 c23 c23b0 c25 c26 c26b0 c27 c27b0 c27b1 c27b2 hcz10_0 hcz10_1 hcz10_2 hcz10_3 hcz10_4 hcz10_5 hcz14_0 hcz14_1 hcz14_2 hcz14_3 hcz14_4 hcz14_5 hcz19_0 hcz19_1 hcz19_2 hcz19_3 hcz19_4 hcz19_5 hcz22_0 hcz22_1 hcz22_2 hcz22_3 hcz22_4 hcz22_5 hcz25_0 hcz25_1 hcz25_2 hcz25_3 hcz25_4 hcz25_5 hcz4_0 hcz4_1 hcz4_2 hcz4_3 hcz4_4 hcz4_5 hcz7_0 hcz7_1 hcz7_2 hcz7_3 hcz7_4 hcz7_5 hfz10_0 hfz10_1 hfz10_2 hfz10_3 hfz10_4 hfz10_5 hfz14_0 hfz14_1 hfz14_2 hfz14_3 hfz14_4 hfz14_5 hfz19_0 hfz19_1 hfz19_2 hfz19_3 hfz19_4 hfz19_5 hfz22_0 hfz22_1 hfz22_2 hfz22_3 hfz22_4 hfz22_5 hfz25_0 hfz25_1 hfz25_2 hfz25_3 hfz25_4 hfz25_5 hfz4_0 hfz4_1 hfz4_2 hfz4_3 hfz4_4 hfz4_5 hfz7_0 hfz7_1 hfz7_2 hfz7_3 hfz7_4 hfz7_5 p2
          obtain ⟨kq, x3_23, rfl, HA, HJ23, BK211, HB⟩ := hcut
          cases kq with
          | zero => exact absurd HA.out (by simp [spec_l7Put.j1])
          | succ kj23 =>
           have H := HA.out
           clear HA
           simp only [spec_l7Put.j1] at H
           by_cases c28 : a0_0 = 6
           ·rw [if_pos c28] at H
            have c28b0 : (a0_0 == 6) = true := beq_iff_eq.mpr c28
            have c28b1 : (a0_0 != 6) = false := bne_eq_false_iff_eq.mpr c28
            clear c28
            by_cases c29 : 0 ≤ x4_1
            ·rw [if_pos c29] at H
             have c29b0 : decide (0 ≤ x4_1) = true := yE c29
             clear c29
             by_cases c30 : x4_1 < (l0_5.length : Int)
             ·rw [if_pos c30] at H
              have c30b0 : decide (x4_1 < (l0_5.length : Int)) = true := yE c30
              clear c30
              replace H := Option.bind_eq_some_iff.mp H
              obtain ⟨t215, A310, H⟩ := H
              have A31 := zA A310
              clear A310
              by_cases c32 : x3_23.size + t215.size ≤ 9223372036854775807
              ·rw [if_pos c32] at H
               have c32b0 := eq_true c32
               have c32b1 : decide (x3_23.size + t215.size ≤ 9223372036854775807) = true := yE c32
               try have c32b2 : (9223372036854775807 < x3_23.size + t215.size) = False := eq_false (Nat.not_lt.2 c32)
               by_cases c33 : (x3_23 ++ t215).size + 1 ≤ 9223372036854775807
               ·rw [if_pos c33] at H
                have c33b0 := eq_true c33
                have c33b1 : decide ((x3_23 ++ t215).size + 1 ≤ 9223372036854775807) = true := yE c33
                try have c33b2 : (9223372036854775807 < (x3_23 ++ t215).size + 1) = False := eq_false (Nat.not_lt.2 c33)
                try simp only [ByteArray.size_append] at c33b2
                by_cases c34 : x4_1 < (l0_4.length : Int)
                ·rw [if_pos c34] at H
                 have c34b0 : decide (x4_1 < (l0_4.length : Int)) = true := yE c34
                 clear c34
                 replace H := Option.bind_eq_some_iff.mp H
                 obtain ⟨t217, A350, H⟩ := H
                 have A35 := zA A350
                 clear A350
                 by_cases c36 : ((x3_23 ++ t215) ++ (⟨#[58]⟩ : ByteArray)).size + t217.size ≤ 9223372036854775807
                 ·rw [if_pos c36] at H
                  (try (have c36b9 := eq_true c36; simp only [ByteArray.size_append, Int.natCast_add, show ((⟨#[58]⟩ : ByteArray)).size = 1 from rfl] at c36b9))
                  (try (have c36b8 := eq_false (Nat.not_lt.2 c36); simp only [ByteArray.size_append, show ((⟨#[58]⟩ : ByteArray)).size = 1 from rfl] at c36b8))
                  have c36b0 := eq_true c36
                  have c36b1 : decide (((x3_23 ++ t215) ++ (⟨#[58]⟩ : ByteArray)).size + t217.size ≤ 9223372036854775807) = true := yE c36
                  try have c36b2 : (9223372036854775807 < ((x3_23 ++ t215) ++ (⟨#[58]⟩ : ByteArray)).size + t217.size) = False := eq_false (Nat.not_lt.2 c36)
                  try simp only [ByteArray.size_append] at c36b2
                  have H' := zA H
                  clear H
                  obtain ⟨hcz37_0, hcz37_1, hcz37_2, hcz37_3, hcz37_4, hcz37_5, hfz37_0, hfz37_1, hfz37_2, hfz37_3, hfz37_4, hfz37_5⟩ := zb6 BK211.out
                  have p214 : 0 ≤ (x4_1 : Int) := yF apB
                  have q214 : x4_1 < (l0_5.length : Int) := yF apB
                  obtain ⟨ad214, e214, hx214_0⟩ := Kd.at_string HR0_5.out x4_1 p214 q214
                  cases e214
                  replace hx214_0 := (HB.out.cell (zR w _ hx214_0)).trans hx214_0
                  replace p214 := eq_true p214
                  replace q214 := eq_true q214
                  go_wp2_with (first | ((with_reducible refine zT (f := 35) rfl ?_); refine goesL_ (some 43) rfl rfl Tryd.func35 (by kernel_rfl) rfl #[.string (rdOf ByteArray.empty l0_5 x4_1)] rfl apE ?_; (with_reducible refine (spec_l7Quote.calls kj23 (rdOf ByteArray.empty l0_5 x4_1) t215 _ A31.out).mono ?_); rintro e w38 ⟨rfl, hb⟩; refine ⟨_, rfl, ?_⟩; replace BK211 := zA (zN (g := gb211) (o := .cells #[.int .i64 a0_0, .int .i64 a0_1, .int .i64 a0_2, .string a0_3, .slice A0_4 l0_4.length c0_4, .slice (some ad214) l0_5.length c0_5] 34 (0, 0)) (by (with_reducible repeat (first | refine zB ?_ _ | refine zD ?_ | refine zC ?_ _)); exact BK211.out) hb); replace HB := zA (zP apS hb); (try clear hb); (try clear hb2); (try clear hk); (try clear hi); obtain ⟨hcz39_0, hcz39_1, hcz39_2, hcz39_3, hcz39_4, hcz39_5, hfz39_0, hfz39_1, hfz39_2, hfz39_3, hfz39_4, hfz39_5⟩ := zb6 BK211.out; have p216 : 0 ≤ (x4_1 : Int) := yF apB; have q216 : x4_1 < (l0_4.length : Int) := yF apB; obtain ⟨ad216, A216_4, c216_4, A216_5, c216_5, e216, hx216_0, hx216_1, hx216_2, hx216_3, hx216_4, hx216_5, hl216_4, hi216_4, hl216_5, hi216_5⟩ := at_T34 HR0_4.out x4_1 p216 q216; cases e216; replace hx216_0 := (HB.out.cell (zR w _ hx216_0)).trans hx216_0; replace hx216_1 := (HB.out.cell (zR w _ hx216_1)).trans hx216_1; replace hx216_2 := (HB.out.cell (zR w _ hx216_2)).trans hx216_2; replace hx216_3 := (HB.out.cell (zR w _ hx216_3)).trans hx216_3; replace hx216_4 := (HB.out.cell (zR w _ hx216_4)).trans hx216_4; replace hx216_5 := (HB.out.cell (zR w _ hx216_5)).trans hx216_5; have HR216_4 := zA hi216_4; have HC216_4 := zA hl216_4; clear hi216_4 hl216_4; have HR216_5 := zA hi216_5; have HC216_5 := zA hl216_5; clear hi216_5 hl216_5; replace p216 := eq_true p216; replace q216 := eq_true q216) | ((with_reducible refine zT (f := 25) rfl ?_); refine goesL_ (some 52) rfl rfl Tryd.func25 (by kernel_rfl) rfl #[.agg #[.int .i64 ((rd_T34 l0_4 x4_1).f0), .int .i64 ((rd_T34 l0_4 x4_1).f1.f0), .int .i64 ((rd_T34 l0_4 x4_1).f1.f1), .string ((rd_T34 l0_4 x4_1).f2), .slice A216_4 ((rd_T34 l0_4 x4_1).f3).length c216_4, .slice A216_5 ((rd_T34 l0_4 x4_1).f4).length c216_5]] rfl apE ?_; (with_reducible refine (ih kj23 (by have := HK1.out; have := HJ23.out; omega) ((rd_T34 l0_4 x4_1).f0) ((rd_T34 l0_4 x4_1).f1.f0) ((rd_T34 l0_4 x4_1).f1.f1) ((rd_T34 l0_4 x4_1).f2) _ _ ((rd_T34 l0_4 x4_1).f3) _ _ ((rd_T34 l0_4 x4_1).f4) t217 _ ?side1 ?side2 ?side3 ?side4 A35.out).mono ?_); (case side1 => exact vc (Kd.C_below HR216_4.out HB.out)); (case side2 => exact HC216_4.out); (case side3 => exact vc (Kd.C_below HR216_5.out HB.out)); (case side4 => exact HC216_5.out); rintro e w40 ⟨rfl, hb⟩; refine ⟨_, rfl, ?_⟩; replace BK211 := zA (zN (g := gb211) (o := .cells #[.int .i64 a0_0, .int .i64 a0_1, .int .i64 a0_2, .string a0_3, .slice (some ad216) l0_4.length c0_4, .slice (some ad214) l0_5.length c0_5] 34 (0, 0)) (by (with_reducible repeat (first | refine zB ?_ _ | refine zD ?_ | refine zC ?_ _)); exact BK211.out) hb); replace HB := zA (zP apS hb); (try clear hb); (try clear hb2); (try clear hk); (try clear hi)))
                  go_roundg kj23
                  case measure => have := HK1.out; have := HJ23.out; omega
                  case rel => exact ⟨(((x3_23 ++ t215) ++ (⟨#[58]⟩ : ByteArray)) ++ t217), (wrap64 (x4_1 + 1)), apC, apC, H', ⟨by have := HK1.out; have := HJ23.out; omega⟩, ⟨by (with_reducible repeat (first | refine zB ?_ _ | refine zD ?_ | refine zC ?_ _)); exact BK211.out⟩, ⟨apS⟩⟩
                 ·rw [if_neg c36] at H
                  exact absurd H (by simp)
                ·rw [if_neg c34] at H
                 exact absurd H (by simp)
               ·rw [if_neg c33] at H
                exact absurd H (by simp)
              ·rw [if_neg c32] at H
               exact absurd H (by simp)
             ·rw [if_neg c30] at H
              exact absurd H (by simp)
            ·rw [if_neg c29] at H
             exact absurd H (by simp)
           ·rw [if_neg c28] at H
            have c28b0 : (a0_0 == 6) = false := beq_eq_false_iff_ne.mpr c28
            have c28b1 : (a0_0 != 6) = true := bne_iff_ne.mpr c28
            by_cases c41 : 0 ≤ x4_1
            ·rw [if_pos c41] at H
             have c41b0 : decide (0 ≤ x4_1) = true := yE c41
             clear c41
             by_cases c42 : x4_1 < (l0_4.length : Int)
             ·rw [if_pos c42] at H
              have c42b0 : decide (x4_1 < (l0_4.length : Int)) = true := yE c42
              clear c42
              replace H := Option.bind_eq_some_iff.mp H
              obtain ⟨t219, A430, H⟩ := H
              have A43 := zA A430
              clear A430
              by_cases c44 : x3_23.size + t219.size ≤ 9223372036854775807
              ·rw [if_pos c44] at H
               have c44b0 := eq_true c44
               have c44b1 : decide (x3_23.size + t219.size ≤ 9223372036854775807) = true := yE c44
               try have c44b2 : (9223372036854775807 < x3_23.size + t219.size) = False := eq_false (Nat.not_lt.2 c44)
               have H' := zA H
               clear H
               obtain ⟨hcz45_0, hcz45_1, hcz45_2, hcz45_3, hcz45_4, hcz45_5, hfz45_0, hfz45_1, hfz45_2, hfz45_3, hfz45_4, hfz45_5⟩ := zb6 BK211.out
               have p218 : 0 ≤ (x4_1 : Int) := yF apB
               have q218 : x4_1 < (l0_4.length : Int) := yF apB
               obtain ⟨ad218, A218_4, c218_4, A218_5, c218_5, e218, hx218_0, hx218_1, hx218_2, hx218_3, hx218_4, hx218_5, hl218_4, hi218_4, hl218_5, hi218_5⟩ := at_T34 HR0_4.out x4_1 p218 q218
               cases e218
               replace hx218_0 := (HB.out.cell (zR w _ hx218_0)).trans hx218_0
               replace hx218_1 := (HB.out.cell (zR w _ hx218_1)).trans hx218_1
               replace hx218_2 := (HB.out.cell (zR w _ hx218_2)).trans hx218_2
               replace hx218_3 := (HB.out.cell (zR w _ hx218_3)).trans hx218_3
               replace hx218_4 := (HB.out.cell (zR w _ hx218_4)).trans hx218_4
               replace hx218_5 := (HB.out.cell (zR w _ hx218_5)).trans hx218_5
               have HR218_4 := zA hi218_4
               have HC218_4 := zA hl218_4
               clear hi218_4 hl218_4
               have HR218_5 := zA hi218_5
               have HC218_5 := zA hl218_5
               clear hi218_5 hl218_5
               replace p218 := eq_true p218
               replace q218 := eq_true q218
               go_wp2_with (first | ((with_reducible refine zT (f := 25) rfl ?_); refine goesL_ (some 52) rfl rfl Tryd.func25 (by kernel_rfl) rfl #[.agg #[.int .i64 ((rd_T34 l0_4 x4_1).f0), .int .i64 ((rd_T34 l0_4 x4_1).f1.f0), .int .i64 ((rd_T34 l0_4 x4_1).f1.f1), .string ((rd_T34 l0_4 x4_1).f2), .slice A218_4 ((rd_T34 l0_4 x4_1).f3).length c218_4, .slice A218_5 ((rd_T34 l0_4 x4_1).f4).length c218_5]] rfl apE ?_; (with_reducible refine (ih kj23 (by have := HK1.out; have := HJ23.out; omega) ((rd_T34 l0_4 x4_1).f0) ((rd_T34 l0_4 x4_1).f1.f0) ((rd_T34 l0_4 x4_1).f1.f1) ((rd_T34 l0_4 x4_1).f2) _ _ ((rd_T34 l0_4 x4_1).f3) _ _ ((rd_T34 l0_4 x4_1).f4) t219 _ ?side1 ?side2 ?side3 ?side4 A43.out).mono ?_); (case side1 => exact vc (Kd.C_below HR218_4.out HB.out)); (case side2 => exact HC218_4.out); (case side3 => exact vc (Kd.C_below HR218_5.out HB.out)); (case side4 => exact HC218_5.out); rintro e w46 ⟨rfl, hb⟩; refine ⟨_, rfl, ?_⟩; replace BK211 := zA (zN (g := gb211) (o := .cells #[.int .i64 a0_0, .int .i64 a0_1, .int .i64 a0_2, .string a0_3, .slice (some ad218) l0_4.length c0_4, .slice A0_5 l0_5.length c0_5] 34 (0, 0)) (by (with_reducible repeat (first | refine zB ?_ _ | refine zD ?_ | refine zC ?_ _)); exact BK211.out) hb); replace HB := zA (zP apS hb); (try clear hb); (try clear hb2); (try clear hk); (try clear hi)))
               go_roundg kj23
               case measure => have := HK1.out; have := HJ23.out; omega
               case rel => exact ⟨(x3_23 ++ t219), (wrap64 (x4_1 + 1)), apC, apC, H', ⟨by have := HK1.out; have := HJ23.out; omega⟩, ⟨by (with_reducible repeat (first | refine zB ?_ _ | refine zD ?_ | refine zC ?_ _)); exact BK211.out⟩, ⟨apS⟩⟩
              ·rw [if_neg c44] at H
               exact absurd H (by simp)
             ·rw [if_neg c42] at H
              exact absurd H (by simp)
            ·rw [if_neg c41] at H
             exact absurd H (by simp)
        ·rw [if_neg c23] at H
         have c23b0 : decide (x4_1 < (l0_4.length : Int)) = false := decide_eq_false c23
         clear c23
         by_cases c47 : a0_0 = 6
         ·rw [if_pos c47] at H
          have c47b0 : (a0_0 == 6) = true := beq_iff_eq.mpr c47
          have c47b1 : (a0_0 != 6) = false := bne_eq_false_iff_eq.mpr c47
          clear c47
          by_cases c48 : 1 + x3_1.size ≤ 9223372036854775807
          ·rw [if_pos c48] at H
           have c48b0 := eq_true c48
           have c48b1 : decide (1 + x3_1.size ≤ 9223372036854775807) = true := yE c48
           try have c48b2 : (9223372036854775807 < 1 + x3_1.size) = False := eq_false (Nat.not_lt.2 c48)
           by_cases c49 : ((⟨#[123]⟩ : ByteArray) ++ x3_1).size + 1 ≤ 9223372036854775807
           ·rw [if_pos c49] at H
            (try (have c49b9 := eq_true c49; simp only [ByteArray.size_append, Int.natCast_add, show ((⟨#[123]⟩ : ByteArray)).size = 1 from rfl] at c49b9))
            (try (have c49b8 := eq_false (Nat.not_lt.2 c49); simp only [ByteArray.size_append, show ((⟨#[123]⟩ : ByteArray)).size = 1 from rfl] at c49b8))
            have c49b0 := eq_true c49
            have c49b1 : decide (((⟨#[123]⟩ : ByteArray) ++ x3_1).size + 1 ≤ 9223372036854775807) = true := yE c49
            try have c49b2 : (9223372036854775807 < ((⟨#[123]⟩ : ByteArray) ++ x3_1).size + 1) = False := eq_false (Nat.not_lt.2 c49)
            try simp only [ByteArray.size_append] at c49b2
            obtain rfl := yG H
            obtain ⟨hcz50_0, hcz50_1, hcz50_2, hcz50_3, hcz50_4, hcz50_5, hfz50_0, hfz50_1, hfz50_2, hfz50_3, hfz50_4, hfz50_5⟩ := zb6 BK211.out
            go_wp2
            go_ret
            exact ⟨apD, apS⟩
           ·rw [if_neg c49] at H
            exact absurd H (by simp)
          ·rw [if_neg c48] at H
           exact absurd H (by simp)
         ·rw [if_neg c47] at H
          have c47b0 : (a0_0 == 6) = false := beq_eq_false_iff_ne.mpr c47
          have c47b1 : (a0_0 != 6) = true := bne_iff_ne.mpr c47
          by_cases c51 : 1 + x3_1.size ≤ 9223372036854775807
          ·rw [if_pos c51] at H
           have c51b0 := eq_true c51
           have c51b1 : decide (1 + x3_1.size ≤ 9223372036854775807) = true := yE c51
           try have c51b2 : (9223372036854775807 < 1 + x3_1.size) = False := eq_false (Nat.not_lt.2 c51)
           by_cases c52 : ((⟨#[91]⟩ : ByteArray) ++ x3_1).size + 1 ≤ 9223372036854775807
           ·rw [if_pos c52] at H
            (try (have c52b9 := eq_true c52; simp only [ByteArray.size_append, Int.natCast_add, show ((⟨#[91]⟩ : ByteArray)).size = 1 from rfl] at c52b9))
            (try (have c52b8 := eq_false (Nat.not_lt.2 c52); simp only [ByteArray.size_append, show ((⟨#[91]⟩ : ByteArray)).size = 1 from rfl] at c52b8))
            have c52b0 := eq_true c52
            have c52b1 : decide (((⟨#[91]⟩ : ByteArray) ++ x3_1).size + 1 ≤ 9223372036854775807) = true := yE c52
            try have c52b2 : (9223372036854775807 < ((⟨#[91]⟩ : ByteArray) ++ x3_1).size + 1) = False := eq_false (Nat.not_lt.2 c52)
            try simp only [ByteArray.size_append] at c52b2
            obtain rfl := yG H
            obtain ⟨hcz53_0, hcz53_1, hcz53_2, hcz53_3, hcz53_4, hcz53_5, hfz53_0, hfz53_1, hfz53_2, hfz53_3, hfz53_4, hfz53_5⟩ := zb6 BK211.out
            go_wp2
            go_ret
            exact ⟨apD, apS⟩
           ·rw [if_neg c52] at H
            exact absurd H (by simp)
          ·rw [if_neg c51] at H
           exact absurd H (by simp)


def strings_Join.f (l0 : List ByteArray) (a1 : ByteArray) : Option (ByteArray) := if l0.length ≤ 140737488355328 ∧ (Lib.join (l0.map (·.data.toList)) a1.data.toList).length ≤ 140737488355328 then some (⟨(Lib.join (l0.map (·.data.toList)) a1.data.toList).toArray⟩) else none
theorem strings_Join.calls (A0 : Option Addr) (c0 : Nat) (l0 : List ByteArray) (a1 : ByteArray) (r : ByteArray) (w : World) (hr0 : Kd.C Kd.string w A0 l0.length l0) (hc0 : l0.length ≤ c0) (h : strings_Join.f l0 a1 = some r) :
  Calls Tryd.prog 54 #[.slice A0 l0.length c0, .string a1] w fun e w' => e = .returned (.string r) ∧ Below w.heap.size w w' := by
 unfold strings_Join.f at h
 split at h
 ·rename_i hh
  have h2 := yG h
  subst h2
  cases l0 with
  | nil => exact (Any.strings_Join_none Tryd.lays156 Tryd.Builder_Extra_156 A0 c0 a1 w).mono (by rintro e w' ⟨rfl, rfl⟩; exact ⟨rfl, yH _ _⟩)
  | cons x xs =>
   obtain ⟨ad, rfl, hr⟩ := hr0.2.2 (by simp)
   have hcell : ∀ (j : Nat) y, (x :: xs)[j]? = some y → w.cell? (ad.add j) = some (.string y) := by
    intro j y hj
    obtain ⟨c, _, hK, hc⟩ := hr j y hj
    obtain rfl : c = [.string y] := hK
    have := hc 0 _ rfl
    rwa [show j * Kd.string.sz + 0 = j from by show j * 1 + 0 = j; omega] at this
   have h0 := hcell 0 x rfl
   obtain ⟨bk, o, sp⟩ := ad
   obtain rfl : sp = none := by
    cases sp with
    | none => rfl
    | some s =>
     exfalso
     unfold World.cell? at h0
     split at h0
     ·cases h0
     ·cases h0
   have hbk : bk < w.heap.size := by
    apply Classical.byContradiction
    intro hge
    unfold World.cell? at h0
    rw [show w.heap[(Addr.add ⟨bk, o, none⟩ 0).block]? = none from Array.getElem?_eq_none (by show w.heap.size ≤ bk; omega)] at h0
    cases h0
   exact Tryd.strings_Join bk o c0 (x :: xs) a1 w (fun j y hj => by
    have := hcell j y hj
    unfold Addr.add at this
    split at this
    ·rename_i hj0; subst hj0; exact this
    ·exact this) hbk hh.1 hc0 hh.2
 ·cases h

end Go.Proofs.YthaceblepbkjjaaDoor.Q

namespace Go.Proofs.YthaceblepbkjjaaDoor.Q
open Go.RowKit Go.Proofs.YthaceblepbkjjaaDoorW.PrintWords Go.Proofs.YthaceblepbkjjaaDoorW.PrintLast Go.Proofs.YthaceblepbkjjaaDoorW.PrintMore Go.Proofs.YthaceblepbkjjaaDoorX
attribute [local go_sem] max2_int min2_int max_two min_two max_three min_three max_four min_four   -- for this text's walks alone
set_option linter.unusedVariables false
set_option linter.unusedSimpArgs false

attribute [-simp] ByteArray.size_extract
mutual
def impl_layout.j0 : Nat → Bool → ByteArray → ByteArray → ByteArray → ByteArray → ByteArray → Bool → List Int → Int → Int → Int → ByteArray → List (S34) → List ByteArray → Option (ByteArray)
 | 0, _, _, _, _, _, _, _, _, _, _, _, _, _, _ => none
 | k + 1, x1, x2, x7, x8, x9, x10, x40, x997, x327000, x327001, x327002, x327003, x327004, x327005 => if x40 = true then (if x2.size + 2 ≤ 9223372036854775807 then (if 1 + (x2 ++ (⟨#[32, 32]⟩ : ByteArray)).size ≤ 9223372036854775807 then (if 1 + x2.size ≤ 9223372036854775807 then (impl_layout.j1 k x1 (x2 ++ (⟨#[32, 32]⟩ : ByteArray)) ((⟨#[10]⟩ : ByteArray) ++ (x2 ++ (⟨#[32, 32]⟩ : ByteArray))) (⟨#[32]⟩ : ByteArray) ((⟨#[10]⟩ : ByteArray) ++ x2) x997 x327000 x327001 x327002 x327003 x327004 x327005) else (none)) else (none)) else (none)) else (impl_layout.j1 k x1 x7 x8 x9 x10 x997 x327000 x327001 x327002 x327003 x327004 x327005)
def impl_layout.j1 : Nat → Bool → ByteArray → ByteArray → ByteArray → ByteArray → List Int → Int → Int → Int → ByteArray → List (S34) → List ByteArray → Option (ByteArray)
 | 0, _, _, _, _, _, _, _, _, _, _, _, _ => none
 | k + 1, x1, x7, x8, x9, x10, x997, x327000, x327001, x327002, x327003, x327004, x327005 => if x327000 = 6 then (impl_layout.j2 k x1 x7 x8 x9 x10 (⟨#[123, 125]⟩ : ByteArray) x997 x327000 x327001 x327002 x327003 x327004 x327005) else (impl_layout.j2 k x1 x7 x8 x9 x10 (⟨#[91, 93]⟩ : ByteArray) x997 x327000 x327001 x327002 x327003 x327004 x327005)
def impl_layout.j2 : Nat → Bool → ByteArray → ByteArray → ByteArray → ByteArray → ByteArray → List Int → Int → Int → Int → ByteArray → List (S34) → List ByteArray → Option (ByteArray)
 | 0, _, _, _, _, _, _, _, _, _, _, _, _, _ => none
 | k + 1, x1, x7, x8, x9, x10, x11, x997, x327000, x327001, x327002, x327003, x327004, x327005 => impl_layout.l0 k x1 x7 x8 x9 x10 x11 (([] : List ByteArray)) x327004 (x327004.length : Int) 0 x997 x327000 x327001 x327002 x327003 x327004 x327005
def impl_layout.l0 : Nat → Bool → ByteArray → ByteArray → ByteArray → ByteArray → ByteArray → List ByteArray → List (S34) → Int → Int → List Int → Int → Int → Int → ByteArray → List (S34) → List ByteArray → Option (ByteArray)
 | 0, _, _, _, _, _, _, _, _, _, _, _, _, _, _, _, _, _ => none
 | k + 1, x1, x7, x8, x9, x10, x11, x12, x52, x53, x54, x997, x327000, x327001, x327002, x327003, x327004, x327005 => if x54 < x53 then (if 0 ≤ x54 then (if x54 < (x52.length : Int) then (if x327000 = 6 then (if x54 < (x327005.length : Int) then ((impl_jsonText.f k (rdOf ByteArray.empty x327005 x54)).bind fun t336 => (if t336.size + 1 ≤ 9223372036854775807 then (if (t336 ++ (⟨#[58]⟩ : ByteArray)).size + x9.size ≤ 9223372036854775807 then (if x8.size + ((t336 ++ (⟨#[58]⟩ : ByteArray)) ++ x9).size ≤ 9223372036854775807 then ((impl_layout.f k ((rd_T34 x52 x54).f0) ((rd_T34 x52 x54).f1.f0) ((rd_T34 x52 x54).f1.f1) ((rd_T34 x52 x54).f2) ((rd_T34 x52 x54).f3) ((rd_T34 x52 x54).f4) x1 x7 x997).bind fun t337 => (if (x8 ++ ((t336 ++ (⟨#[58]⟩ : ByteArray)) ++ x9)).size + t337.size ≤ 9223372036854775807 then (if x12.length < 8796093022208 then (impl_layout.l0 k x1 x7 x8 x9 x10 x11 (x12 ++ [(x8 ++ ((t336 ++ (⟨#[58]⟩ : ByteArray)) ++ x9)) ++ t337]) x52 x53 (wrap64 (x54 + 1)) x997 x327000 x327001 x327002 x327003 x327004 x327005) else (none)) else (none))) else (none)) else (none)) else (none))) else (none)) else ((impl_layout.f k ((rd_T34 x52 x54).f0) ((rd_T34 x52 x54).f1.f0) ((rd_T34 x52 x54).f1.f1) ((rd_T34 x52 x54).f2) ((rd_T34 x52 x54).f3) ((rd_T34 x52 x54).f4) x1 x7 x997).bind fun t341 => (if x8.size + t341.size ≤ 9223372036854775807 then (if x12.length < 8796093022208 then (impl_layout.l0 k x1 x7 x8 x9 x10 x11 (x12 ++ [x8 ++ t341]) x52 x53 (wrap64 (x54 + 1)) x997 x327000 x327001 x327002 x327003 x327004 x327005) else (none)) else (none)))) else (none)) else (none)) else (if 0 ≤ 1 then (if 1 ≤ (x11.size : Int) then ((strings_Join.f x12 (⟨#[44]⟩ : ByteArray)).bind fun t332 => (if (x11.extract 0 1).size + t332.size ≤ 9223372036854775807 then (if ((x11.extract 0 1) ++ t332).size + x10.size ≤ 9223372036854775807 then (if (((x11.extract 0 1) ++ t332) ++ x10).size + (x11.extract 1 x11.size).size ≤ 9223372036854775807 then (some ((((x11.extract 0 1) ++ t332) ++ x10) ++ (x11.extract 1 x11.size))) else (none)) else (none)) else (none))) else (none)) else (none))
def impl_layout.f : Nat → Int → Int → Int → ByteArray → List (S34) → List ByteArray → Bool → ByteArray → List Int → Option (ByteArray)
 | 0, _, _, _, _, _, _, _, _, _ => none
 | k + 1, a0_0, a0_1, a0_2, a0_3, l0_4, l0_5, a1, a2, l3 => if a0_0 = 0 then (some (⟨#[110, 117, 108, 108]⟩ : ByteArray)) else (if a0_0 = 1 then (some (⟨#[116, 114, 117, 101]⟩ : ByteArray)) else (if a0_0 = 2 then (some (⟨#[102, 97, 108, 115, 101]⟩ : ByteArray)) else (if a0_0 = 3 then ((impl_DecText.f k a0_1 a0_2 l3).bind fun t327 => (some t327)) else (if a0_0 = 4 then ((impl_jsonText.f k a0_3).bind fun t328 => (some t328)) else (if a1 = true then (impl_layout.j0 k a1 a2 (⟨#[]⟩ : ByteArray) (⟨#[]⟩ : ByteArray) (⟨#[]⟩ : ByteArray) (⟨#[]⟩ : ByteArray) (decide ((l0_4.length : Int) > 0)) l3 a0_0 a0_1 a0_2 a0_3 l0_4 l0_5) else (impl_layout.j0 k a1 a2 (⟨#[]⟩ : ByteArray) (⟨#[]⟩ : ByteArray) (⟨#[]⟩ : ByteArray) (⟨#[]⟩ : ByteArray) false l3 a0_0 a0_1 a0_2 a0_3 l0_4 l0_5))))))
end
theorem impl_layout.mono_l : ∀ k, (∀ y0 y1 y2 y3 y4 y5 y6 y7 y8, LeO (impl_layout.f k y0 y1 y2 y3 y4 y5 y6 y7 y8) (impl_layout.f (k + 1) y0 y1 y2 y3 y4 y5 y6 y7 y8)) ∧ (∀ y0 y1 y2 y3 y4 y5 y6 y7 y8 y9 y10 y11 y12 y13, LeO (impl_layout.j0 k y0 y1 y2 y3 y4 y5 y6 y7 y8 y9 y10 y11 y12 y13) (impl_layout.j0 (k + 1) y0 y1 y2 y3 y4 y5 y6 y7 y8 y9 y10 y11 y12 y13)) ∧ (∀ y0 y1 y2 y3 y4 y5 y6 y7 y8 y9 y10 y11, LeO (impl_layout.j1 k y0 y1 y2 y3 y4 y5 y6 y7 y8 y9 y10 y11) (impl_layout.j1 (k + 1) y0 y1 y2 y3 y4 y5 y6 y7 y8 y9 y10 y11)) ∧ (∀ y0 y1 y2 y3 y4 y5 y6 y7 y8 y9 y10 y11 y12, LeO (impl_layout.j2 k y0 y1 y2 y3 y4 y5 y6 y7 y8 y9 y10 y11 y12) (impl_layout.j2 (k + 1) y0 y1 y2 y3 y4 y5 y6 y7 y8 y9 y10 y11 y12)) ∧ (∀ y0 y1 y2 y3 y4 y5 y6 y7 y8 y9 y10 y11 y12 y13 y14 y15 y16, LeO (impl_layout.l0 k y0 y1 y2 y3 y4 y5 y6 y7 y8 y9 y10 y11 y12 y13 y14 y15 y16) (impl_layout.l0 (k + 1) y0 y1 y2 y3 y4 y5 y6 y7 y8 y9 y10 y11 y12 y13 y14 y15 y16))
 | 0 => ⟨fun _ _ _ _ _ _ _ _ _ r h => by simp [impl_layout.f] at h, fun _ _ _ _ _ _ _ _ _ _ _ _ _ _ r h => by simp [impl_layout.j0] at h, fun _ _ _ _ _ _ _ _ _ _ _ _ r h => by simp [impl_layout.j1] at h, fun _ _ _ _ _ _ _ _ _ _ _ _ _ r h => by simp [impl_layout.j2] at h, fun _ _ _ _ _ _ _ _ _ _ _ _ _ _ _ _ _ r h => by simp [impl_layout.l0] at h⟩
 | k + 1 => by
  obtain ⟨ih0, ih1, ih2, ih3, ih4⟩ := impl_layout.mono_l k
  refine ⟨?_, ?_, ?_, ?_, ?_⟩
  ·intro y0 y1 y2 y3 y4 y5 y6 y7 y8
   unfold impl_layout.f
   repeat' first
   | (with_reducible exact ih0 _ _ _ _ _ _ _ _ _)
   | (with_reducible exact ih1 _ _ _ _ _ _ _ _ _ _ _ _ _ _)
   | (with_reducible exact ih2 _ _ _ _ _ _ _ _ _ _ _ _)
   | (with_reducible exact ih3 _ _ _ _ _ _ _ _ _ _ _ _ _)
   | (with_reducible exact ih4 _ _ _ _ _ _ _ _ _ _ _ _ _ _ _ _ _)
   | (with_reducible exact impl_DecText.mono _ _ _ _)
   | (with_reducible exact impl_jsonText.mono _ _)
   | (with_reducible exact LeO.refl _)
   | (with_reducible exact LeO.none _)
   | (with_reducible refine LeO.ite ?_ ?_)
   | (with_reducible refine LeO.bind ?_ (fun _ => ?_))
   | exact ih0 _ _ _ _ _ _ _ _ _
   | exact ih1 _ _ _ _ _ _ _ _ _ _ _ _ _ _
   | exact ih2 _ _ _ _ _ _ _ _ _ _ _ _
   | exact ih3 _ _ _ _ _ _ _ _ _ _ _ _ _
   | exact ih4 _ _ _ _ _ _ _ _ _ _ _ _ _ _ _ _ _
  ·intro y0 y1 y2 y3 y4 y5 y6 y7 y8 y9 y10 y11 y12 y13
   unfold impl_layout.j0
   repeat' first
   | (with_reducible exact ih0 _ _ _ _ _ _ _ _ _)
   | (with_reducible exact ih1 _ _ _ _ _ _ _ _ _ _ _ _ _ _)
   | (with_reducible exact ih2 _ _ _ _ _ _ _ _ _ _ _ _)
   | (with_reducible exact ih3 _ _ _ _ _ _ _ _ _ _ _ _ _)
   | (with_reducible exact ih4 _ _ _ _ _ _ _ _ _ _ _ _ _ _ _ _ _)
   | (with_reducible exact impl_DecText.mono _ _ _ _)
   | (with_reducible exact impl_jsonText.mono _ _)
   | (with_reducible exact LeO.refl _)
   | (with_reducible exact LeO.none _)
   | (with_reducible refine LeO.ite ?_ ?_)
   | (with_reducible refine LeO.bind ?_ (fun _ => ?_))
   | exact ih0 _ _ _ _ _ _ _ _ _
   | exact ih1 _ _ _ _ _ _ _ _ _ _ _ _ _ _
   | exact ih2 _ _ _ _ _ _ _ _ _ _ _ _
   | exact ih3 _ _ _ _ _ _ _ _ _ _ _ _ _
   | exact ih4 _ _ _ _ _ _ _ _ _ _ _ _ _ _ _ _ _
  ·intro y0 y1 y2 y3 y4 y5 y6 y7 y8 y9 y10 y11
   unfold impl_layout.j1
   repeat' first
   | (with_reducible exact ih0 _ _ _ _ _ _ _ _ _)
   | (with_reducible exact ih1 _ _ _ _ _ _ _ _ _ _ _ _ _ _)
   | (with_reducible exact ih2 _ _ _ _ _ _ _ _ _ _ _ _)
   | (with_reducible exact ih3 _ _ _ _ _ _ _ _ _ _ _ _ _)
   | (with_reducible exact ih4 _ _ _ _ _ _ _ _ _ _ _ _ _ _ _ _ _)
   | (with_reducible exact impl_DecText.mono _ _ _ _)
   | (with_reducible exact impl_jsonText.mono _ _)
   | (with_reducible exact LeO.refl _)
   | (with_reducible exact LeO.none _)
   | (with_reducible refine LeO.ite ?_ ?_)
   | (with_reducible refine LeO.bind ?_ (fun _ => ?_))
   | exact ih0 _ _ _ _ _ _ _ _ _
   | exact ih1 _ _ _ _ _ _ _ _ _ _ _ _ _ _
   | exact ih2 _ _ _ _ _ _ _ _ _ _ _ _
   | exact ih3 _ _ _ _ _ _ _ _ _ _ _ _ _
   | exact ih4 _ _ _ _ _ _ _ _ _ _ _ _ _ _ _ _ _
  ·intro y0 y1 y2 y3 y4 y5 y6 y7 y8 y9 y10 y11 y12
   unfold impl_layout.j2
   repeat' first
   | (with_reducible exact ih0 _ _ _ _ _ _ _ _ _)
   | (with_reducible exact ih1 _ _ _ _ _ _ _ _ _ _ _ _ _ _)
   | (with_reducible exact ih2 _ _ _ _ _ _ _ _ _ _ _ _)
   | (with_reducible exact ih3 _ _ _ _ _ _ _ _ _ _ _ _ _)
   | (with_reducible exact ih4 _ _ _ _ _ _ _ _ _ _ _ _ _ _ _ _ _)
   | (with_reducible exact impl_DecText.mono _ _ _ _)
   | (with_reducible exact impl_jsonText.mono _ _)
   | (with_reducible exact LeO.refl _)
   | (with_reducible exact LeO.none _)
   | (with_reducible refine LeO.ite ?_ ?_)
   | (with_reducible refine LeO.bind ?_ (fun _ => ?_))
   | exact ih0 _ _ _ _ _ _ _ _ _
   | exact ih1 _ _ _ _ _ _ _ _ _ _ _ _ _ _
   | exact ih2 _ _ _ _ _ _ _ _ _ _ _ _
   | exact ih3 _ _ _ _ _ _ _ _ _ _ _ _ _
   | exact ih4 _ _ _ _ _ _ _ _ _ _ _ _ _ _ _ _ _
  ·intro y0 y1 y2 y3 y4 y5 y6 y7 y8 y9 y10 y11 y12 y13 y14 y15 y16
   unfold impl_layout.l0
   repeat' first
   | (with_reducible exact ih0 _ _ _ _ _ _ _ _ _)
   | (with_reducible exact ih1 _ _ _ _ _ _ _ _ _ _ _ _ _ _)
   | (with_reducible exact ih2 _ _ _ _ _ _ _ _ _ _ _ _)
   | (with_reducible exact ih3 _ _ _ _ _ _ _ _ _ _ _ _ _)
   | (with_reducible exact ih4 _ _ _ _ _ _ _ _ _ _ _ _ _ _ _ _ _)
   | (with_reducible exact impl_DecText.mono _ _ _ _)
   | (with_reducible exact impl_jsonText.mono _ _)
   | (with_reducible exact LeO.refl _)
   | (with_reducible exact LeO.none _)
   | (with_reducible refine LeO.ite ?_ ?_)
   | (with_reducible refine LeO.bind ?_ (fun _ => ?_))
   | exact ih0 _ _ _ _ _ _ _ _ _
   | exact ih1 _ _ _ _ _ _ _ _ _ _ _ _ _ _
   | exact ih2 _ _ _ _ _ _ _ _ _ _ _ _
   | exact ih3 _ _ _ _ _ _ _ _ _ _ _ _ _
   | exact ih4 _ _ _ _ _ _ _ _ _ _ _ _ _ _ _ _ _
theorem impl_layout.mono : ∀ a0 a1 a2 a3 a4 a5 a6 a7 a8 k, LeO (impl_layout.f k a0 a1 a2 a3 a4 a5 a6 a7 a8) (impl_layout.f (k + 1) a0 a1 a2 a3 a4 a5 a6 a7 a8) := by
 intro a0 a1 a2 a3 a4 a5 a6 a7 a8 k
 obtain ⟨ih0, ih1, ih2, ih3, ih4⟩ := impl_layout.mono_l k
 exact ih0 a0 a1 a2 a3 a4 a5 a6 a7 a8
def impl_layout.T28 : Bool × List (List Nat × List Nat) := (true, [([], []), ([0], [0]), ([], []), ([2], [2]), ([1, 3], [1, 3]), ([], []), ([4, 5], [4, 5]), ([], []), ([7], [7]), ([6, 8], [6, 8]), ([9, 3, 0, 1, 2, 3, 4, 5, 6, 7, 8, 9], [9])])
def impl_layout.B28 : List Nat := [0, 1, 0, 4, 15, 0, 63, 0, 128, 511, 1023]
theorem impl_layout.tab28 : rtab .any (opsOf Tryd.f41 28) = impl_layout.T28 := by kernel_rfl
theorem impl_layout.bits28 : waitsOk impl_layout.T28.2 impl_layout.B28 = true := by kernel_rfl
set_option maxHeartbeats 8000000 in
set_option maxRecDepth 100000 in
theorem impl_layout.calls (k : Nat) : ∀ (a0_0 : Int) (a0_1 : Int) (a0_2 : Int) (a0_3 : ByteArray) (A0_4 : Option Addr) (c0_4 : Nat) (l0_4 : List (S34)) (A0_5 : Option Addr) (c0_5 : Nat) (l0_5 : List ByteArray) (a1 : Bool) (a2 : ByteArray) (A3 : Option Addr) (c3 : Nat) (l3 : List Int) (r : ByteArray) (w : World) (hr0_4 : Kd.C k34 w A0_4 l0_4.length l0_4) (hc0_4 : l0_4.length ≤ c0_4) (hr0_5 : Kd.C Kd.string w A0_5 l0_5.length l0_5) (hc0_5 : l0_5.length ≤ c0_5) (hr3 : Kd.C kPow w A3 l3.length l3) (hc3 : l3.length ≤ c3) (hg3 : A3 = some ⟨2, 0, none⟩ ∧ l3 = [1]) (h : impl_layout.f k a0_0 a0_1 a0_2 a0_3 l0_4 l0_5 a1 a2 l3 = some r),
  Calls Tryd.prog 41 #[.agg #[.int .i64 a0_0, .int .i64 a0_1, .int .i64 a0_2, .string a0_3, .slice A0_4 l0_4.length c0_4, .slice A0_5 l0_5.length c0_5], .bool a1, .string a2] w fun e w' => e = .returned (.string r) ∧ Below w.heap.size w w' := by
 induction k using Nat.strongRecOn with
 | _ k ih =>
 intro a0_0 a0_1 a0_2 a0_3 A0_4 c0_4 l0_4 A0_5 c0_5 l0_5 a1 a2 A3 c3 l3 r w hr0_4 hc0_4 hr0_5 hc0_5 hr3 hc3 hg3 h
 cases k with
 | zero => exact absurd h (by simp [impl_layout.f])
 | succ k =>
 simp only [impl_layout.f] at h
 have hu34 := Tryd.underlying34
 have hu31 := Tryd.underlying31
 have HR0_4 := zA hr0_4
 have HC0_4 := zA hc0_4
 clear hr0_4 hc0_4
 have HR0_5 := zA hr0_5
 have HC0_5 := zA hc0_5
 clear hr0_5 hc0_5
 have HG3 := zA hg3
 clear hg3
 have HR3 := zA hr3
 have HC3 := zA hc3
 clear hr3 hc3
 have HB := zA (yH w.heap.size w)
 have H : (if a0_0 = 0 then (some (⟨#[110, 117, 108, 108]⟩ : ByteArray)) else (if a0_0 = 1 then (some (⟨#[116, 114, 117, 101]⟩ : ByteArray)) else (if a0_0 = 2 then (some (⟨#[102, 97, 108, 115, 101]⟩ : ByteArray)) else (if a0_0 = 3 then ((impl_DecText.f k a0_1 a0_2 l3).bind fun t327 => (some t327)) else (if a0_0 = 4 then ((impl_jsonText.f k a0_3).bind fun t328 => (some t328)) else (if a1 = true then (impl_layout.j0 k a1 a2 (⟨#[]⟩ : ByteArray) (⟨#[]⟩ : ByteArray) (⟨#[]⟩ : ByteArray) (⟨#[]⟩ : ByteArray) (decide ((l0_4.length : Int) > 0)) l3 a0_0 a0_1 a0_2 a0_3 l0_4 l0_5) else (impl_layout.j0 k a1 a2 (⟨#[]⟩ : ByteArray) (⟨#[]⟩ : ByteArray) (⟨#[]⟩ : ByteArray) (⟨#[]⟩ : ByteArray) false l3 a0_0 a0_1 a0_2 a0_3 l0_4 l0_5))))))) = some r := h
 clear h
 by_cases c5 : a0_0 = 0
 ·rw [if_pos c5] at H
  have c5b0 : (a0_0 == 0) = true := beq_iff_eq.mpr c5
  have c5b1 : (a0_0 != 0) = false := bne_eq_false_iff_eq.mpr c5
  clear c5
  obtain rfl := yG H
  go_enter Tryd.func41, Tryd.ntmps41
  go_wp2_with (first | ((with_reducible refine zS (N := 3) rfl ?_); (try (refine gate_guard (by rfl) ?_; dsimp only)); refine zW ?hg (N := 3) ?hd (cs := #[.int .i64 a0_0, .int .i64 a0_1, .int .i64 a0_2, .string a0_3, .slice A0_4 l0_4.length c0_4, .slice A0_5 l0_5.length c0_5]) (t := 34) ?hr ?_; (case hd => rfl); (case hg => rfl); (case hr => first | (go_simp; done) | (go_simp; rfl)); intro gb326 hg w6 hbox hb; have BK326 := zA (hbox); have GW326 := zA ((by rw [hg]; exact (zQ apA) : w.heap.size ≤ gb326)); have GE326 := zA ((by rw [hg]; exact (zQ apA) : w.heap.size ≤ gb326)); replace HB := zA (zP apA hb); clear hb hbox hg; obtain ⟨hcz7_0, hcz7_1, hcz7_2, hcz7_3, hcz7_4, hcz7_5, hfz7_0, hfz7_1, hfz7_2, hfz7_3, hfz7_4, hfz7_5⟩ := zb6 BK326.out))
  go_ret
  exact ⟨apD, apL⟩
 ·rw [if_neg c5] at H
  have c5b0 : (a0_0 == 0) = false := beq_eq_false_iff_ne.mpr c5
  have c5b1 : (a0_0 != 0) = true := bne_iff_ne.mpr c5
  by_cases c8 : a0_0 = 1
  ·rw [if_pos c8] at H
   have c8b0 : (a0_0 == 1) = true := beq_iff_eq.mpr c8
   have c8b1 : (a0_0 != 1) = false := bne_eq_false_iff_eq.mpr c8
   clear c8
   obtain rfl := yG H
   go_enter Tryd.func41, Tryd.ntmps41
   go_wp2_with (first | ((with_reducible refine zS (N := 3) rfl ?_); (try (refine gate_guard (by rfl) ?_; dsimp only)); refine zW ?hg (N := 3) ?hd (cs := #[.int .i64 a0_0, .int .i64 a0_1, .int .i64 a0_2, .string a0_3, .slice A0_4 l0_4.length c0_4, .slice A0_5 l0_5.length c0_5]) (t := 34) ?hr ?_; (case hd => rfl); (case hg => rfl); (case hr => first | (go_simp; done) | (go_simp; rfl)); intro gb326 hg w9 hbox hb; have BK326 := zA (hbox); have GW326 := zA ((by rw [hg]; exact (zQ apA) : w.heap.size ≤ gb326)); have GE326 := zA ((by rw [hg]; exact (zQ apA) : w.heap.size ≤ gb326)); replace HB := zA (zP apA hb); clear hb hbox hg; obtain ⟨hcz10_0, hcz10_1, hcz10_2, hcz10_3, hcz10_4, hcz10_5, hfz10_0, hfz10_1, hfz10_2, hfz10_3, hfz10_4, hfz10_5⟩ := zb6 BK326.out))
   go_ret
   exact ⟨apD, apL⟩
  ·rw [if_neg c8] at H
   have c8b0 : (a0_0 == 1) = false := beq_eq_false_iff_ne.mpr c8
   have c8b1 : (a0_0 != 1) = true := bne_iff_ne.mpr c8
   by_cases c11 : a0_0 = 2
   ·rw [if_pos c11] at H
    have c11b0 : (a0_0 == 2) = true := beq_iff_eq.mpr c11
    have c11b1 : (a0_0 != 2) = false := bne_eq_false_iff_eq.mpr c11
    clear c11
    obtain rfl := yG H
    go_enter Tryd.func41, Tryd.ntmps41
    go_wp2_with (first | ((with_reducible refine zS (N := 3) rfl ?_); (try (refine gate_guard (by rfl) ?_; dsimp only)); refine zW ?hg (N := 3) ?hd (cs := #[.int .i64 a0_0, .int .i64 a0_1, .int .i64 a0_2, .string a0_3, .slice A0_4 l0_4.length c0_4, .slice A0_5 l0_5.length c0_5]) (t := 34) ?hr ?_; (case hd => rfl); (case hg => rfl); (case hr => first | (go_simp; done) | (go_simp; rfl)); intro gb326 hg w12 hbox hb; have BK326 := zA (hbox); have GW326 := zA ((by rw [hg]; exact (zQ apA) : w.heap.size ≤ gb326)); have GE326 := zA ((by rw [hg]; exact (zQ apA) : w.heap.size ≤ gb326)); replace HB := zA (zP apA hb); clear hb hbox hg; obtain ⟨hcz13_0, hcz13_1, hcz13_2, hcz13_3, hcz13_4, hcz13_5, hfz13_0, hfz13_1, hfz13_2, hfz13_3, hfz13_4, hfz13_5⟩ := zb6 BK326.out))
    go_ret
    exact ⟨apD, apL⟩
   ·rw [if_neg c11] at H
    have c11b0 : (a0_0 == 2) = false := beq_eq_false_iff_ne.mpr c11
    have c11b1 : (a0_0 != 2) = true := bne_iff_ne.mpr c11
    by_cases c14 : a0_0 = 3
    ·rw [if_pos c14] at H
     have c14b0 : (a0_0 == 3) = true := beq_iff_eq.mpr c14
     have c14b1 : (a0_0 != 3) = false := bne_eq_false_iff_eq.mpr c14
     clear c14
     replace H := Option.bind_eq_some_iff.mp H
     obtain ⟨t327, A150, H⟩ := H
     have A15 := zA A150
     clear A150
     obtain rfl := yG H
     go_enter Tryd.func41, Tryd.ntmps41
     go_wp2_with (first | ((with_reducible refine zS (N := 3) rfl ?_); (try (refine gate_guard (by rfl) ?_; dsimp only)); refine zW ?hg (N := 3) ?hd (cs := #[.int .i64 a0_0, .int .i64 a0_1, .int .i64 a0_2, .string a0_3, .slice A0_4 l0_4.length c0_4, .slice A0_5 l0_5.length c0_5]) (t := 34) ?hr ?_; (case hd => rfl); (case hg => rfl); (case hr => first | (go_simp; done) | (go_simp; rfl)); intro gb326 hg w16 hbox hb; have BK326 := zA (hbox); have GW326 := zA ((by rw [hg]; exact (zQ apA) : w.heap.size ≤ gb326)); have GE326 := zA ((by rw [hg]; exact (zQ apA) : w.heap.size ≤ gb326)); replace HB := zA (zP apA hb); clear hb hbox hg; obtain ⟨hcz17_0, hcz17_1, hcz17_2, hcz17_3, hcz17_4, hcz17_5, hfz17_0, hfz17_1, hfz17_2, hfz17_3, hfz17_4, hfz17_5⟩ := zb6 BK326.out) | ((with_reducible refine zT (f := 52) rfl ?_); refine goesL_ (some 28) rfl rfl Tryd.func52 (by kernel_rfl) rfl #[.agg #[.int .i64 a0_1, .int .i64 a0_2]] rfl apE ?_; (with_reducible refine (impl_DecText.calls k a0_1 a0_2 A3 c3 l3 t327 _ ?side1 ?side2 ?side3 A15.out).mono ?_); (case side1 => exact vc (Kd.C_below HR3.out HB.out)); (case side2 => exact HC3.out); (case side3 => exact HG3.out); rintro e w18 ⟨rfl, hb⟩; refine ⟨_, rfl, ?_⟩; replace HB := zA (zP apA hb); (try clear hb); (try clear hb2); (try clear hk); (try clear hi)))
     go_ret
     exact ⟨apD, apA⟩
    ·rw [if_neg c14] at H
     have c14b0 : (a0_0 == 3) = false := beq_eq_false_iff_ne.mpr c14
     have c14b1 : (a0_0 != 3) = true := bne_iff_ne.mpr c14
     by_cases c19 : a0_0 = 4
     ·rw [if_pos c19] at H
      have c19b0 : (a0_0 == 4) = true := beq_iff_eq.mpr c19
      have c19b1 : (a0_0 != 4) = false := bne_eq_false_iff_eq.mpr c19
      clear c19
      replace H := Option.bind_eq_some_iff.mp H
      obtain ⟨t328, A200, H⟩ := H
      have A20 := zA A200
      clear A200
      obtain rfl := yG H
      go_enter Tryd.func41, Tryd.ntmps41
      go_wp2_with (first | ((with_reducible refine zS (N := 3) rfl ?_); (try (refine gate_guard (by rfl) ?_; dsimp only)); refine zW ?hg (N := 3) ?hd (cs := #[.int .i64 a0_0, .int .i64 a0_1, .int .i64 a0_2, .string a0_3, .slice A0_4 l0_4.length c0_4, .slice A0_5 l0_5.length c0_5]) (t := 34) ?hr ?_; (case hd => rfl); (case hg => rfl); (case hr => first | (go_simp; done) | (go_simp; rfl)); intro gb326 hg w21 hbox hb; have BK326 := zA (hbox); have GW326 := zA ((by rw [hg]; exact (zQ apA) : w.heap.size ≤ gb326)); have GE326 := zA ((by rw [hg]; exact (zQ apA) : w.heap.size ≤ gb326)); replace HB := zA (zP apA hb); clear hb hbox hg; obtain ⟨hcz22_0, hcz22_1, hcz22_2, hcz22_3, hcz22_4, hcz22_5, hfz22_0, hfz22_1, hfz22_2, hfz22_3, hfz22_4, hfz22_5⟩ := zb6 BK326.out) | ((with_reducible refine zT (f := 53) rfl ?_); refine goesL_ (some 33) rfl rfl Tryd.func53 (by kernel_rfl) rfl #[.string a0_3] rfl apE ?_; (with_reducible refine (impl_jsonText.calls k a0_3 t328 _ A20.out).mono ?_); rintro e w23 ⟨rfl, hb⟩; refine ⟨_, rfl, ?_⟩; replace HB := zA (zP apA hb); (try clear hb); (try clear hb2); (try clear hk); (try clear hi)))
      go_ret
      exact ⟨apD, apA⟩
     ·rw [if_neg c19] at H
      have c19b0 : (a0_0 == 4) = false := beq_eq_false_iff_ne.mpr c19
      have c19b1 : (a0_0 != 4) = true := bne_iff_ne.mpr c19
      have HC24 := zA H
      clear H
      go_enter Tryd.func41, Tryd.ntmps41
      go_upto_region 13 with (first | ((with_reducible refine zS (N := 3) rfl ?_); (try (refine gate_guard (by rfl) ?_; dsimp only)); refine zW ?hg (N := 3) ?hd (cs := #[.int .i64 a0_0, .int .i64 a0_1, .int .i64 a0_2, .string a0_3, .slice A0_4 l0_4.length c0_4, .slice A0_5 l0_5.length c0_5]) (t := 34) ?hr ?_; (case hd => rfl); (case hg => rfl); (case hr => first | (go_simp; done) | (go_simp; rfl)); intro gb326 hg w25 hbox hb; have BK326 := zA (hbox); have GW326 := zA ((by rw [hg]; exact (zQ apA) : w.heap.size ≤ gb326)); have GE326 := zA ((by rw [hg]; exact (zQ apA) : w.heap.size ≤ gb326)); replace HB := zA (zP apA hb); clear hb hbox hg; obtain ⟨hcz26_0, hcz26_1, hcz26_2, hcz26_3, hcz26_4, hcz26_5, hfz26_0, hfz26_1, hfz26_2, hfz26_3, hfz26_4, hfz26_5⟩ := zb6 BK326.out))
      (try simp only [Act.put, zK, zL, zM])
      go_cut [40] (fun v40 wc => ∃ (kq : Nat) (x40_23 : Bool), v40 = .bool x40_23 ∧ Aside0 (impl_layout.j0 kq a1 a2 (⟨#[]⟩ : ByteArray) (⟨#[]⟩ : ByteArray) (⟨#[]⟩ : ByteArray) (⟨#[]⟩ : ByteArray) x40_23 l3 a0_0 a0_1 a0_2 a0_3 l0_4 l0_5 = some r) ∧ Aside0 (kq ≤ k) ∧ Aside0 (wc.heap[gb326]? = some (.cells #[.int .i64 a0_0, .int .i64 a0_1, .int .i64 a0_2, .string a0_3, (.slice A0_4 l0_4.length c0_4), (.slice A0_5 l0_5.length c0_5)] 34 (0, 0))) ∧ Aside0 (Below w.heap.size w wc))
      case first =>
       have H := HC24.out
       clear HC24
       by_cases c27 : a1 = true
       ·subst c27
        have H1 := H; rw [if_pos rfl] at H1
        clear H
        have H := H1
        clear H1
        have H' := zA H
        clear H
        obtain ⟨hcz28_0, hcz28_1, hcz28_2, hcz28_3, hcz28_4, hcz28_5, hfz28_0, hfz28_1, hfz28_2, hfz28_3, hfz28_4, hfz28_5⟩ := zb6 BK326.out
        go_wp2
        go_meet
        case rel => exact ⟨_, (decide ((l0_4.length : Int) > 0)), apC, H', ⟨by first | omega | exact yJ _⟩, ⟨apM⟩, ⟨apL⟩⟩
       ·replace c27 := Bool.eq_false_iff.mpr c27
        subst c27
        have H1 := H; rw [if_neg (show ¬ (false = true) by decide)] at H1
        clear H
        have H := H1
        clear H1
        have H' := zA H
        clear H
        go_wp2
        go_meet
        case rel => exact ⟨_, (false), apC, H', ⟨by first | omega | exact yJ _⟩, ⟨apM⟩, ⟨apL⟩⟩
      case rest =>
       clear HC24
       try clear c1 c2 p2 c3 c4 c5 c5b0 c5b1 c8 c8b0 c8b1 c11 c11b0 c11b1 c14 c14b0 c14b1 c19 c19b0 c19b1 c27 hcz10_0 hcz10_1 hcz10_2 hcz10_3 hcz10_4 hcz10_5 hcz13_0 hcz13_1 hcz13_2 hcz13_3 hcz13_4 hcz13_5 hcz17_0 hcz17_1 hcz17_2 hcz17_3 hcz17_4 hcz17_5 hcz22_0 hcz22_1 hcz22_2 hcz22_3 hcz22_4 hcz22_5 hcz26_0 hcz26_1 hcz26_2 hcz26_3 hcz26_4 hcz26_5 hcz28_0 hcz28_1 hcz28_2 hcz28_3 hcz28_4 hcz28_5 hcz7_0 hcz7_1 hcz7_2 hcz7_3 hcz7_4 hcz7_5 hfz10_0 hfz10_1 hfz10_2 hfz10_3 hfz10_4 hfz10_5 hfz13_0 hfz13_1 hfz13_2 hfz13_3 hfz13_4 hfz13_5 hfz17_0 hfz17_1 hfz17_2 hfz17_3 hfz17_4 hfz17_5 hfz22_0 hfz22_1 hfz22_2 hfz22_3 hfz22_4 hfz22_5 hfz26_0 hfz26_1 hfz26_2 hfz26_3 hfz26_4 hfz26_5 hfz28_0 hfz28_1 hfz28_2 hfz28_3 hfz28_4 hfz28_5 hfz7_0 hfz7_1 hfz7_2 hfz7_3 hfz7_4 hfz7_5
       obtain ⟨kq, x40_23, rfl, HA, HJ23, BK326, HB⟩ := hcut
       cases kq with
       | zero => exact absurd HA.out (by simp [impl_layout.j0])
       | succ kj23 =>
        have H := HA.out
        clear HA
        simp only [impl_layout.j0] at H
        have HC29 := zA H
        clear H
        go_upto_if 40 with (fail)
        go_cut [7, 8, 9, 10] (fun v7 v8 v9 v10 wc => ∃ (kq : Nat) (x7_28 : ByteArray) (x8_28 : ByteArray) (x9_28 : ByteArray) (x10_28 : ByteArray), v7 = .string x7_28 ∧ v8 = .string x8_28 ∧ v9 = .string x9_28 ∧ v10 = .string x10_28 ∧ Aside0 (impl_layout.j1 kq a1 x7_28 x8_28 x9_28 x10_28 l3 a0_0 a0_1 a0_2 a0_3 l0_4 l0_5 = some r) ∧ Aside0 (kq ≤ kj23) ∧ Aside0 (wc.heap[gb326]? = some (.cells #[.int .i64 a0_0, .int .i64 a0_1, .int .i64 a0_2, .string a0_3, (.slice A0_4 l0_4.length c0_4), (.slice A0_5 l0_5.length c0_5)] 34 (0, 0))) ∧ Aside0 (Below w.heap.size w wc))
        case first =>
         have H := HC29.out
         clear HC29
         by_cases c30 : x40_23 = true
         ·subst c30
          have H1 := H; rw [if_pos rfl] at H1
          clear H
          have H := H1
          clear H1
          by_cases c31 : a2.size + 2 ≤ 9223372036854775807
          ·rw [if_pos c31] at H
           have c31b0 := eq_true c31
           have c31b1 : decide (a2.size + 2 ≤ 9223372036854775807) = true := yE c31
           try have c31b2 : (9223372036854775807 < a2.size + 2) = False := eq_false (Nat.not_lt.2 c31)
           by_cases c32 : 1 + (a2 ++ (⟨#[32, 32]⟩ : ByteArray)).size ≤ 9223372036854775807
           ·rw [if_pos c32] at H
            (try (have c32b9 := eq_true c32; simp only [ByteArray.size_append, Int.natCast_add, show ((⟨#[32, 32]⟩ : ByteArray)).size = 2 from rfl] at c32b9))
            (try (have c32b8 := eq_false (Nat.not_lt.2 c32); simp only [ByteArray.size_append, show ((⟨#[32, 32]⟩ : ByteArray)).size = 2 from rfl] at c32b8))
            have c32b0 := eq_true c32
            have c32b1 : decide (1 + (a2 ++ (⟨#[32, 32]⟩ : ByteArray)).size ≤ 9223372036854775807) = true := yE c32
            try have c32b2 : (9223372036854775807 < 1 + (a2 ++ (⟨#[32, 32]⟩ : ByteArray)).size) = False := eq_false (Nat.not_lt.2 c32)
            try simp only [ByteArray.size_append] at c32b2
            by_cases c33 : 1 + a2.size ≤ 9223372036854775807
            ·rw [if_pos c33] at H
             have c33b0 := eq_true c33
             have c33b1 : decide (1 + a2.size ≤ 9223372036854775807) = true := yE c33
             try have c33b2 : (9223372036854775807 < 1 + a2.size) = False := eq_false (Nat.not_lt.2 c33)
             have H' := zA H
             clear H
             go_wp2
             go_meet
             case rel => exact ⟨_, (a2 ++ (⟨#[32, 32]⟩ : ByteArray)), ((⟨#[10]⟩ : ByteArray) ++ (a2 ++ (⟨#[32, 32]⟩ : ByteArray))), ((⟨#[32]⟩ : ByteArray)), ((⟨#[10]⟩ : ByteArray) ++ a2), apC, apC, apC, apC, H', ⟨by have := HJ23.out; first | omega | exact yJ _⟩, ⟨apM⟩, ⟨apL⟩⟩
            ·rw [if_neg c33] at H
             exact absurd H (by simp)
           ·rw [if_neg c32] at H
            exact absurd H (by simp)
          ·rw [if_neg c31] at H
           exact absurd H (by simp)
         ·replace c30 := Bool.eq_false_iff.mpr c30
          subst c30
          have H1 := H; rw [if_neg (show ¬ (false = true) by decide)] at H1
          clear H
          have H := H1
          clear H1
          have H' := zA H
          clear H
          go_wp2
          go_meet
          case rel => exact ⟨_, ((⟨#[]⟩ : ByteArray)), ((⟨#[]⟩ : ByteArray)), ((⟨#[]⟩ : ByteArray)), ((⟨#[]⟩ : ByteArray)), apC, apC, apC, apC, H', ⟨by have := HJ23.out; first | omega | exact yJ _⟩, ⟨apM⟩, ⟨apL⟩⟩
        case rest =>
         clear HC29
         try clear c1 c2 p2 c3 c4 c5 c5b0 c5b1 c8 c8b0 c8b1 c11 c11b0 c11b1 c14 c14b0 c14b1 c19 c19b0 c19b1 c27 c30 c31 c31b0 c31b1 c31b2 c32 c32b0 c32b1 c32b2 c33 c33b0 c33b1 c33b2 hcz10_0 hcz10_1 hcz10_2 hcz10_3 hcz10_4 hcz10_5 hcz13_0 hcz13_1 hcz13_2 hcz13_3 hcz13_4 hcz13_5 hcz17_0 hcz17_1 hcz17_2 hcz17_3 hcz17_4 hcz17_5 hcz22_0 hcz22_1 hcz22_2 hcz22_3 hcz22_4 hcz22_5 hcz26_0 hcz26_1 hcz26_2 hcz26_3 hcz26_4 hcz26_5 hcz28_0 hcz28_1 hcz28_2 hcz28_3 hcz28_4 hcz28_5 hcz7_0 hcz7_1 hcz7_2 hcz7_3 hcz7_4 hcz7_5 hfz10_0 hfz10_1 hfz10_2 hfz10_3 hfz10_4 hfz10_5 hfz13_0 hfz13_1 hfz13_2 hfz13_3 hfz13_4 hfz13_5 hfz17_0 hfz17_1 hfz17_2 hfz17_3 hfz17_4 hfz17_5 hfz22_0 hfz22_1 hfz22_2 hfz22_3 hfz22_4 hfz22_5 hfz26_0 hfz26_1 hfz26_2 hfz26_3 hfz26_4 hfz26_5 hfz28_0 hfz28_1 hfz28_2 hfz28_3 hfz28_4 hfz28_5 hfz7_0 hfz7_1 hfz7_2 hfz7_3 hfz7_4 hfz7_5 p2
         obtain ⟨kq, x7_28, x8_28, x9_28, x10_28, rfl, rfl, rfl, rfl, HA, HJ28, BK326, HB⟩ := hcut
         cases kq with
         | zero => exact absurd HA.out (by simp [impl_layout.j1])
         | succ kj28 =>
          have H := HA.out
          clear HA
          simp only [impl_layout.j1] at H
          have HC34 := zA H
          clear H
          obtain ⟨hcz35_0, hcz35_1, hcz35_2, hcz35_3, hcz35_4, hcz35_5, hfz35_0, hfz35_1, hfz35_2, hfz35_3, hfz35_4, hfz35_5⟩ := zb6 BK326.out
          go_upto_if 49 with (fail)
          go_cut [11] (fun v11 wc => ∃ (kq : Nat) (x11_33 : ByteArray), v11 = .string x11_33 ∧ Aside0 (impl_layout.j2 kq a1 x7_28 x8_28 x9_28 x10_28 x11_33 l3 a0_0 a0_1 a0_2 a0_3 l0_4 l0_5 = some r) ∧ Aside0 (kq ≤ kj28) ∧ Aside0 (wc.heap[gb326]? = some (.cells #[.int .i64 a0_0, .int .i64 a0_1, .int .i64 a0_2, .string a0_3, (.slice A0_4 l0_4.length c0_4), (.slice A0_5 l0_5.length c0_5)] 34 (0, 0))) ∧ Aside0 (Below w.heap.size w wc))
          case first =>
           have H := HC34.out
           clear HC34
           by_cases c36 : a0_0 = 6
           ·rw [if_pos c36] at H
            have c36b0 : (a0_0 == 6) = true := beq_iff_eq.mpr c36
            have c36b1 : (a0_0 != 6) = false := bne_eq_false_iff_eq.mpr c36
            clear c36
            (first | rw [c36b0] | (simp only [i64_w, i32_w]; rw [c36b0]) | skip)
            have H' := zA H
            clear H
            go_wp2
            go_meet
            case rel => exact ⟨_, ((⟨#[123, 125]⟩ : ByteArray)), apC, H', ⟨by have := HJ23.out; have := HJ28.out; first | omega | exact yJ _⟩, ⟨apM⟩, ⟨apL⟩⟩
           ·rw [if_neg c36] at H
            have c36b0 : (a0_0 == 6) = false := beq_eq_false_iff_ne.mpr c36
            have c36b1 : (a0_0 != 6) = true := bne_iff_ne.mpr c36
            (first | rw [c36b0] | (simp only [i64_w, i32_w]; rw [c36b0]) | skip)
            have H' := zA H
            clear H
            go_wp2
            go_meet
            case rel => exact ⟨_, ((⟨#[91, 93]⟩ : ByteArray)), apC, H', ⟨by have := HJ23.out; have := HJ28.out; first | omega | exact yJ _⟩, ⟨apM⟩, ⟨apL⟩⟩
          case rest =>
           clear HC34
           try clear c1 c2 p2 c3 c4 c5 c5b0 c5b1 c8 c8b0 c8b1 c11 c11b0 c11b1 c14 c14b0 c14b1 c19 c19b0 c19b1 c27 c30 c31 c31b0 c31b1 c31b2 c32 c32b0 c32b1 c32b2 c33 c33b0 c33b1 c33b2 c36 c36b0 c36b1 hcz10_0 hcz10_1 hcz10_2 hcz10_3 hcz10_4 hcz10_5 hcz13_0 hcz13_1 hcz13_2 hcz13_3 hcz13_4 hcz13_5 hcz17_0 hcz17_1 hcz17_2 hcz17_3 hcz17_4 hcz17_5 hcz22_0 hcz22_1 hcz22_2 hcz22_3 hcz22_4 hcz22_5 hcz26_0 hcz26_1 hcz26_2 hcz26_3 hcz26_4 hcz26_5 hcz28_0 hcz28_1 hcz28_2 hcz28_3 hcz28_4 hcz28_5 hcz35_0 hcz35_1 hcz35_2 hcz35_3 hcz35_4 hcz35_5 hcz7_0 hcz7_1 hcz7_2 hcz7_3 hcz7_4 hcz7_5 hfz10_0 hfz10_1 hfz10_2 hfz10_3 hfz10_4 hfz10_5 hfz13_0 hfz13_1 hfz13_2 hfz13_3 hfz13_4 hfz13_5 hfz17_0 hfz17_1 hfz17_2 hfz17_3 hfz17_4 hfz17_5 hfz22_0 hfz22_1 hfz22_2 hfz22_3 hfz22_4 hfz22_5 hfz26_0 hfz26_1 hfz26_2 hfz26_3 hfz26_4 hfz26_5 hfz28_0 hfz28_1 hfz28_2 hfz28_3 hfz28_4 hfz28_5 hfz35_0 hfz35_1 hfz35_2 hfz35_3 hfz35_4 hfz35_5 hfz7_0 hfz7_1 hfz7_2 hfz7_3 hfz7_4 hfz7_5 p2
           obtain ⟨kq, x11_33, rfl, HA, HJ33, BK326, HB⟩ := hcut
           cases kq with
           | zero => exact absurd HA.out (by simp [impl_layout.j2])
           | succ kj33 =>
            have H := HA.out
            clear HA
            simp only [impl_layout.j2] at H
            obtain ⟨y329, hy329⟩ : ∃ y_ : List ByteArray, y_ = (([] : List ByteArray)) := ⟨_, rfl⟩
            replace H : (impl_layout.l0 kj33 a1 x7_28 x8_28 x9_28 x10_28 x11_33 y329 l0_4 (l0_4.length : Int) 0 l3 a0_0 a0_1 a0_2 a0_3 l0_4 l0_5) = some r := by first | (rw [hy329]; with_reducible exact H) | (have H2_ := (Option.bind_some _ _).symm.trans H; rw [hy329]; with_reducible exact H2_) | (have H2_ := (Option.bind_some _ _).symm.trans H; with_reducible exact H2_) | with_reducible exact H | (rw [hy329]; exact H) | exact H
            have Ny329 := zA hy329
            clear hy329
            have H' := zA H
            clear H
            go_wp2_with (first | ((with_reducible refine zS (N := 50) rfl ?_); (try (refine gate_guard (by rfl) ?_; dsimp only)); refine Kd.R_lit Kd.string _ 9 ?hg (N := 50) ?hd (xs := ([] : List ByteArray)) (inner := []) (ok := fun _ => True) (okp := fun _ => True) ?hr ?hp (fun _ hk => hk) trivial (yH _ _) (yJ _) (by simp) ?_; (case hd => rfl); (case hg => rfl); (case hr => first | (go_simp; done) | (go_simp; rfl)); (case hp => exact (Reps.none _ _)); intro v330 w37 ho38 hb hg_ hnew_; clear hg_ hnew_; (first | rw [← Ny329.out] at ho38 | (simp only [Int.reduceToNat] at ho38; rw [← Ny329.out] at ho38)); have HO331 := zA (Kd.R_lower ho38 (zQ apL)); replace BK326 := zA (zN (g := gb326) (o := .cells #[.int .i64 a0_0, .int .i64 a0_1, .int .i64 a0_2, .string a0_3, .slice A0_4 l0_4.length c0_4, .slice A0_5 l0_5.length c0_5] 34 (0, 0)) apM hb); replace HB := zA (zP apL hb); clear hb ho38; obtain ⟨hcz39_0, hcz39_1, hcz39_2, hcz39_3, hcz39_4, hcz39_5, hfz39_0, hfz39_1, hfz39_2, hfz39_3, hfz39_4, hfz39_5⟩ := zb6 BK326.out))
            go_loopg [12, 54] kj33 (fun kq v12 v54 w' => ∃ (x12_4 : List ByteArray) (x54_4 : Int), v54 = .int .i64 x54_4 ∧ Aside0 (impl_layout.l0 kq a1 x7_28 x8_28 x9_28 x10_28 x11_33 x12_4 l0_4 (l0_4.length : Int) x54_4 l3 a0_0 a0_1 a0_2 a0_3 l0_4 l0_5 = some r) ∧ Aside0 (kq ≤ kj33) ∧ Aside0 (Kd.R Kd.string 9 w' w.heap.size (fun _ => True) v12 x12_4) ∧ Aside0 (w'.heap[gb326]? = some (.cells #[.int .i64 a0_0, .int .i64 a0_1, .int .i64 a0_2, .string a0_3, (.slice A0_4 l0_4.length c0_4), (.slice A0_5 l0_5.length c0_5)] 34 (0, 0))) ∧ Aside0 (Below w.heap.size w w'))
            case atStart => exact ⟨(y329), (0), apC, H', ⟨yJ _⟩, ⟨vwR HO331.out⟩, ⟨apM⟩, ⟨apL⟩⟩
            case round =>
             clear H'
             try clear c1 c2 p2 c3 c4 c5 c5b0 c5b1 c8 c8b0 c8b1 c11 c11b0 c11b1 c14 c14b0 c14b1 c19 c19b0 c19b1 c27 c30 c31 c31b0 c31b1 c31b2 c32 c32b0 c32b1 c32b2 c33 c33b0 c33b1 c33b2 c36 c36b0 c36b1 hcz10_0 hcz10_1 hcz10_2 hcz10_3 hcz10_4 hcz10_5 hcz13_0 hcz13_1 hcz13_2 hcz13_3 hcz13_4 hcz13_5 hcz17_0 hcz17_1 hcz17_2 hcz17_3 hcz17_4 hcz17_5 hcz22_0 hcz22_1 hcz22_2 hcz22_3 hcz22_4 hcz22_5 hcz26_0 hcz26_1 hcz26_2 hcz26_3 hcz26_4 hcz26_5 hcz28_0 hcz28_1 hcz28_2 hcz28_3 hcz28_4 hcz28_5 hcz35_0 hcz35_1 hcz35_2 hcz35_3 hcz35_4 hcz35_5 hcz39_0 hcz39_1 hcz39_2 hcz39_3 hcz39_4 hcz39_5 hcz7_0 hcz7_1 hcz7_2 hcz7_3 hcz7_4 hcz7_5 hfz10_0 hfz10_1 hfz10_2 hfz10_3 hfz10_4 hfz10_5 hfz13_0 hfz13_1 hfz13_2 hfz13_3 hfz13_4 hfz13_5 hfz17_0 hfz17_1 hfz17_2 hfz17_3 hfz17_4 hfz17_5 hfz22_0 hfz22_1 hfz22_2 hfz22_3 hfz22_4 hfz22_5 hfz26_0 hfz26_1 hfz26_2 hfz26_3 hfz26_4 hfz26_5 hfz28_0 hfz28_1 hfz28_2 hfz28_3 hfz28_4 hfz28_5 hfz35_0 hfz35_1 hfz35_2 hfz35_3 hfz35_4 hfz35_5 hfz39_0 hfz39_1 hfz39_2 hfz39_3 hfz39_4 hfz39_5 hfz7_0 hfz7_1 hfz7_2 hfz7_3 hfz7_4 hfz7_5 p2
             obtain ⟨x12_4, x54_4, rfl, HA, HK4, HO_12, BK326, HB⟩ := hrel
             cases gk with
             | zero => exact absurd HA.out (by simp [impl_layout.l0])
             | succ k4 =>
              have H := HA.out
              clear HA
              simp only [impl_layout.l0] at H
              by_cases c40 : x54_4 < (l0_4.length : Int)
              ·rw [if_pos c40] at H
               have c40b0 : decide (x54_4 < (l0_4.length : Int)) = true := yE c40
               clear c40
               by_cases c41 : 0 ≤ x54_4
               ·rw [if_pos c41] at H
                have c41b0 : decide (0 ≤ x54_4) = true := yE c41
                clear c41
                by_cases c42 : x54_4 < (l0_4.length : Int)
                ·rw [if_pos c42] at H
                 have c42b0 : decide (x54_4 < (l0_4.length : Int)) = true := yE c42
                 clear c42
                 by_cases c43 : a0_0 = 6
                 ·rw [if_pos c43] at H
                  have c43b0 : (a0_0 == 6) = true := beq_iff_eq.mpr c43
                  have c43b1 : (a0_0 != 6) = false := bne_eq_false_iff_eq.mpr c43
                  clear c43
                  by_cases c44 : x54_4 < (l0_5.length : Int)
                  ·rw [if_pos c44] at H
                   have c44b0 : decide (x54_4 < (l0_5.length : Int)) = true := yE c44
                   clear c44
                   replace H := Option.bind_eq_some_iff.mp H
                   obtain ⟨t336, A450, H⟩ := H
                   have A45 := zA A450
                   clear A450
                   by_cases c46 : t336.size + 1 ≤ 9223372036854775807
                   ·rw [if_pos c46] at H
                    have c46b0 := eq_true c46
                    have c46b1 : decide (t336.size + 1 ≤ 9223372036854775807) = true := yE c46
                    try have c46b2 : (9223372036854775807 < t336.size + 1) = False := eq_false (Nat.not_lt.2 c46)
                    by_cases c47 : (t336 ++ (⟨#[58]⟩ : ByteArray)).size + x9_28.size ≤ 9223372036854775807
                    ·rw [if_pos c47] at H
                     (try (have c47b9 := eq_true c47; simp only [ByteArray.size_append, Int.natCast_add, show ((⟨#[58]⟩ : ByteArray)).size = 1 from rfl] at c47b9))
                     (try (have c47b8 := eq_false (Nat.not_lt.2 c47); simp only [ByteArray.size_append, show ((⟨#[58]⟩ : ByteArray)).size = 1 from rfl] at c47b8))
                     have c47b0 := eq_true c47
                     have c47b1 : decide ((t336 ++ (⟨#[58]⟩ : ByteArray)).size + x9_28.size ≤ 9223372036854775807) = true := yE c47
                     try have c47b2 : (9223372036854775807 < (t336 ++ (⟨#[58]⟩ : ByteArray)).size + x9_28.size) = False := eq_false (Nat.not_lt.2 c47)
                     try simp only [ByteArray.size_append] at c47b2
                     by_cases c48 : x8_28.size + ((t336 ++ (⟨#[58]⟩ : ByteArray)) ++ x9_28).size ≤ 9223372036854775807
                     ·rw [if_pos c48] at H
                      (try (have c48b9 := eq_true c48; simp only [ByteArray.size_append, Int.natCast_add, show ((⟨#[58]⟩ : ByteArray)).size = 1 from rfl] at c48b9))
                      (try (have c48b8 := eq_false (Nat.not_lt.2 c48); simp only [ByteArray.size_append, show ((⟨#[58]⟩ : ByteArray)).size = 1 from rfl] at c48b8))
                      have c48b0 := eq_true c48
                      have c48b1 : decide (x8_28.size + ((t336 ++ (⟨#[58]⟩ : ByteArray)) ++ x9_28).size ≤ 9223372036854775807) = true := yE c48
                      try have c48b2 : (9223372036854775807 < x8_28.size + ((t336 ++ (⟨#[58]⟩ : ByteArray)) ++ x9_28).size) = False := eq_false (Nat.not_lt.2 c48)
                      try simp only [ByteArray.size_append] at c48b2
                      replace H := Option.bind_eq_some_iff.mp H
                      obtain ⟨t337, A490, H⟩ := H
                      have A49 := zA A490
                      clear A490
                      by_cases c50 : (x8_28 ++ ((t336 ++ (⟨#[58]⟩ : ByteArray)) ++ x9_28)).size + t337.size ≤ 9223372036854775807
                      ·rw [if_pos c50] at H
                       (try (have c50b9 := eq_true c50; simp only [ByteArray.size_append, Int.natCast_add, show ((⟨#[58]⟩ : ByteArray)).size = 1 from rfl] at c50b9))
                       (try (have c50b8 := eq_false (Nat.not_lt.2 c50); simp only [ByteArray.size_append, show ((⟨#[58]⟩ : ByteArray)).size = 1 from rfl] at c50b8))
                       have c50b0 := eq_true c50
                       have c50b1 : decide ((x8_28 ++ ((t336 ++ (⟨#[58]⟩ : ByteArray)) ++ x9_28)).size + t337.size ≤ 9223372036854775807) = true := yE c50
                       try have c50b2 : (9223372036854775807 < (x8_28 ++ ((t336 ++ (⟨#[58]⟩ : ByteArray)) ++ x9_28)).size + t337.size) = False := eq_false (Nat.not_lt.2 c50)
                       try simp only [ByteArray.size_append] at c50b2
                       by_cases c51 : x12_4.length < 8796093022208
                       ·rw [if_pos c51] at H
                        have LMc51 := zA c51
                        clear c51
                        obtain ⟨y338, hy338⟩ : ∃ y_ : List ByteArray, y_ = (x12_4 ++ [(x8_28 ++ ((t336 ++ (⟨#[58]⟩ : ByteArray)) ++ x9_28)) ++ t337]) := ⟨_, rfl⟩
                        replace H : (impl_layout.l0 k4 a1 x7_28 x8_28 x9_28 x10_28 x11_33 y338 l0_4 (l0_4.length : Int) (wrap64 (x54_4 + 1)) l3 a0_0 a0_1 a0_2 a0_3 l0_4 l0_5) = some r := by first | (rw [hy338]; with_reducible exact H) | (have H2_ := (Option.bind_some _ _).symm.trans H; rw [hy338]; with_reducible exact H2_) | (have H2_ := (Option.bind_some _ _).symm.trans H; with_reducible exact H2_) | with_reducible exact H | (rw [hy338]; exact H) | exact H
                        have Ny338 := zA hy338
                        clear hy338
                        have H' := zA H
                        clear H
                        have p333 : 0 ≤ (x54_4 : Int) := yF apB
                        have q333 : x54_4 < (l0_4.length : Int) := yF apB
                        obtain ⟨ad333, A333_4, c333_4, A333_5, c333_5, e333, hx333_0, hx333_1, hx333_2, hx333_3, hx333_4, hx333_5, hl333_4, hi333_4, hl333_5, hi333_5⟩ := at_T34 HR0_4.out x54_4 p333 q333
                        cases e333
                        replace hx333_0 := (HB.out.cell (zR w _ hx333_0)).trans hx333_0
                        replace hx333_1 := (HB.out.cell (zR w _ hx333_1)).trans hx333_1
                        replace hx333_2 := (HB.out.cell (zR w _ hx333_2)).trans hx333_2
                        replace hx333_3 := (HB.out.cell (zR w _ hx333_3)).trans hx333_3
                        replace hx333_4 := (HB.out.cell (zR w _ hx333_4)).trans hx333_4
                        replace hx333_5 := (HB.out.cell (zR w _ hx333_5)).trans hx333_5
                        have HR333_4 := zA hi333_4
                        have HC333_4 := zA hl333_4
                        clear hi333_4 hl333_4
                        have HR333_5 := zA hi333_5
                        have HC333_5 := zA hl333_5
                        clear hi333_5 hl333_5
                        replace p333 := eq_true p333
                        replace q333 := eq_true q333
                        go_wp2_with (first | ((with_reducible refine zS (N := 14) rfl ?_); (try (refine gate_guard (by rfl) ?_; dsimp only)); refine zW ?hg (N := 14) ?hd (cs := #[.int .i64 0, .int .i64 0, .int .i64 0, .string (⟨#[]⟩ : ByteArray), .slice none 0 0, .slice none 0 0]) (t := 34) ?hr ?_; (case hd => rfl); (case hg => rfl); (case hr => first | (go_simp; done) | (go_simp; rfl)); intro gb334 hg w52 hbox hb; replace HO_12 := zA (Kd.R_below (vwR HO_12.out) hb); have BK334 := zA (hbox); have GW334 := zA ((by rw [hg]; exact (zQ apL) : w.heap.size ≤ gb334)); have GE334 := zA ((by rw [hg]; exact (zQ apL) : w.heap.size ≤ gb334)); replace HB := zA (zP apL hb); have NB326_334 := zA ((by rw [hg]; exact Nat.ne_of_lt (blk_lt (g := gb326) (o := .cells #[.int .i64 a0_0, .int .i64 a0_1, .int .i64 a0_2, .string a0_3, .slice (some ad333) l0_4.length c0_4, .slice A0_5 l0_5.length c0_5] 34 (0, 0)) apM) : gb326 ≠ gb334)); have NB334_326 := zA ((by rw [hg]; exact Nat.ne_of_gt (blk_lt (g := gb326) (o := .cells #[.int .i64 a0_0, .int .i64 a0_1, .int .i64 a0_2, .string a0_3, .slice (some ad333) l0_4.length c0_4, .slice A0_5 l0_5.length c0_5] 34 (0, 0)) apM) : gb334 ≠ gb326)); replace BK326 := zA (zN (g := gb326) (o := .cells #[.int .i64 a0_0, .int .i64 a0_1, .int .i64 a0_2, .string a0_3, .slice (some ad333) l0_4.length c0_4, .slice A0_5 l0_5.length c0_5] 34 (0, 0)) apM hb); clear hb hbox hg; have hnb53 := NB334_326.out; have hnc53 := NB326_334.out; obtain ⟨hcz54_0, hcz54_1, hcz54_2, hcz54_3, hcz54_4, hcz54_5, hfz54_0, hfz54_1, hfz54_2, hfz54_3, hfz54_4, hfz54_5⟩ := zb6 BK334.out; obtain ⟨hcz55_0, hcz55_1, hcz55_2, hcz55_3, hcz55_4, hcz55_5, hfz55_0, hfz55_1, hfz55_2, hfz55_3, hfz55_4, hfz55_5⟩ := zb6 BK326.out; have p335 : 0 ≤ (x54_4 : Int) := yF apB; have q335 : x54_4 < (l0_5.length : Int) := yF apB; obtain ⟨ad335, e335, hx335_0⟩ := Kd.at_string HR0_5.out x54_4 p335 q335; cases e335; have hn335_0 : ad335.block ≠ gb334 := Nat.ne_of_lt (Nat.lt_of_lt_of_le (by have := zR _ _ hx335_0; first | rwa [add_block] at this | exact this) GW334.out); have hn335_1 : ad335.block ≠ gb334 := Nat.ne_of_lt (Nat.lt_of_lt_of_le (by have := zR _ _ hx335_0; first | rwa [add_block] at this | exact this) GW334.out); have hn335_2 : ad335.block ≠ gb334 := Nat.ne_of_lt (Nat.lt_of_lt_of_le (by have := zR _ _ hx335_0; first | rwa [add_block] at this | exact this) GW334.out); have hn335_3 : ad335.block ≠ gb334 := Nat.ne_of_lt (Nat.lt_of_lt_of_le (by have := zR _ _ hx335_0; first | rwa [add_block] at this | exact this) GW334.out); have hn335_4 : ad335.block ≠ gb334 := Nat.ne_of_lt (Nat.lt_of_lt_of_le (by have := zR _ _ hx335_0; first | rwa [add_block] at this | exact this) GW334.out); have hn335_5 : ad335.block ≠ gb334 := Nat.ne_of_lt (Nat.lt_of_lt_of_le (by have := zR _ _ hx335_0; first | rwa [add_block] at this | exact this) GW334.out); replace hx335_0 := (HB.out.cell (zR w _ hx335_0)).trans hx335_0; replace hx335_0 := (cell_far (p := ⟨gb334, 0, none⟩) (by first | (rw [add_block]; exact hn335_0) | (show (Addr.add _ _).block ≠ _; rw [add_block]; exact hn335_0) | exact hn335_0) (.int .i64 ((rd_T34 l0_4 x54_4).f0))).trans hx335_0; replace hx335_0 := (cell_far (p := ⟨gb334, 1, none⟩) (by first | (rw [add_block]; exact hn335_1) | (show (Addr.add _ _).block ≠ _; rw [add_block]; exact hn335_1) | exact hn335_1) (.int .i64 ((rd_T34 l0_4 x54_4).f1.f0))).trans hx335_0; replace hx335_0 := (cell_far (p := ⟨gb334, 2, none⟩) (by first | (rw [add_block]; exact hn335_2) | (show (Addr.add _ _).block ≠ _; rw [add_block]; exact hn335_2) | exact hn335_2) (.int .i64 ((rd_T34 l0_4 x54_4).f1.f1))).trans hx335_0; replace hx335_0 := (cell_far (p := ⟨gb334, 3, none⟩) (by first | (rw [add_block]; exact hn335_3) | (show (Addr.add _ _).block ≠ _; rw [add_block]; exact hn335_3) | exact hn335_3) (.string ((rd_T34 l0_4 x54_4).f2))).trans hx335_0; replace hx335_0 := (cell_far (p := ⟨gb334, 4, none⟩) (by first | (rw [add_block]; exact hn335_4) | (show (Addr.add _ _).block ≠ _; rw [add_block]; exact hn335_4) | exact hn335_4) (.slice A333_4 ((rd_T34 l0_4 x54_4).f3).length c333_4)).trans hx335_0; replace hx335_0 := (cell_far (p := ⟨gb334, 5, none⟩) (by first | (rw [add_block]; exact hn335_5) | (show (Addr.add _ _).block ≠ _; rw [add_block]; exact hn335_5) | exact hn335_5) (.slice A333_5 ((rd_T34 l0_4 x54_4).f4).length c333_5)).trans hx335_0; clear hn335_0; clear hn335_1; clear hn335_2; clear hn335_3; clear hn335_4; clear hn335_5; replace p335 := eq_true p335; replace q335 := eq_true q335) | ((with_reducible refine zT (f := 53) rfl ?_); refine goesL_ (some 69) rfl rfl Tryd.func53 (by kernel_rfl) rfl #[.string (rdOf ByteArray.empty l0_5 x54_4)] rfl apE ?_; (with_reducible refine (impl_jsonText.calls k4 (rdOf ByteArray.empty l0_5 x54_4) t336 _ A45.out).mono ?_); rintro e w56 ⟨rfl, hb⟩; refine ⟨_, rfl, ?_⟩; replace HO_12 := zA (Kd.R_below (by (with_reducible repeat (first | apply Kd.R_alloc | apply Kd.R_drewN | apply Kd.R_drew)); exact (Kd.R_mono (Kd.R_far (p := ⟨gb334, 5, none⟩) (Kd.R_far (p := ⟨gb334, 4, none⟩) (Kd.R_far (p := ⟨gb334, 3, none⟩) (Kd.R_far (p := ⟨gb334, 2, none⟩) (Kd.R_far (p := ⟨gb334, 1, none⟩) (Kd.R_far (p := ⟨gb334, 0, none⟩) (Kd.R_types HO_12.out BK334.out (by decide)) (fun _ hk => hk.2) (.int .i64 ((rd_T34 l0_4 x54_4).f0))) (fun _ hk => hk.2) (.int .i64 ((rd_T34 l0_4 x54_4).f1.f0))) (fun _ hk => hk.2) (.int .i64 ((rd_T34 l0_4 x54_4).f1.f1))) (fun _ hk => hk.2) (.string ((rd_T34 l0_4 x54_4).f2))) (fun _ hk => hk.2) (.slice A333_4 ((rd_T34 l0_4 x54_4).f3).length c333_4)) (fun _ hk => hk.2) (.slice A333_5 ((rd_T34 l0_4 x54_4).f4).length c333_5)) (fun _ h_ => h_.1))) hb); replace BK326 := zA (zN (g := gb326) (o := .cells #[.int .i64 a0_0, .int .i64 a0_1, .int .i64 a0_2, .string a0_3, .slice (some ad333) l0_4.length c0_4, .slice (some ad335) l0_5.length c0_5] 34 (0, 0)) (by (with_reducible repeat (first | refine zB ?_ _ | refine zD ?_ | refine zC ?_ _)); refine blk_far ?_ NB326_334.out _; (with_reducible repeat (first | refine zB ?_ _ | refine zD ?_ | refine zC ?_ _)); refine blk_far ?_ NB326_334.out _; (with_reducible repeat (first | refine zB ?_ _ | refine zD ?_ | refine zC ?_ _)); refine blk_far ?_ NB326_334.out _; (with_reducible repeat (first | refine zB ?_ _ | refine zD ?_ | refine zC ?_ _)); refine blk_far ?_ NB326_334.out _; (with_reducible repeat (first | refine zB ?_ _ | refine zD ?_ | refine zC ?_ _)); refine blk_far ?_ NB326_334.out _; (with_reducible repeat (first | refine zB ?_ _ | refine zD ?_ | refine zC ?_ _)); refine blk_far ?_ NB326_334.out _; (with_reducible repeat (first | refine zB ?_ _ | refine zD ?_ | refine zC ?_ _)); exact BK326.out) hb); replace BK334 := zA (zN (g := gb334) (o := .cells #[.int .i64 ((rd_T34 l0_4 x54_4).f0), .int .i64 ((rd_T34 l0_4 x54_4).f1.f0), .int .i64 ((rd_T34 l0_4 x54_4).f1.f1), .string ((rd_T34 l0_4 x54_4).f2), .slice A333_4 ((rd_T34 l0_4 x54_4).f3).length c333_4, .slice A333_5 ((rd_T34 l0_4 x54_4).f4).length c333_5] 34 (0, 0)) (by (with_reducible repeat (first | refine zB ?_ _ | refine zD ?_ | refine zC ?_ _)); refine blk_put (cs := #[.int .i64 ((rd_T34 l0_4 x54_4).f0), .int .i64 ((rd_T34 l0_4 x54_4).f1.f0), .int .i64 ((rd_T34 l0_4 x54_4).f1.f1), .string ((rd_T34 l0_4 x54_4).f2), .slice A333_4 ((rd_T34 l0_4 x54_4).f3).length c333_4, .slice none 0 0]) ?_ 5 _ rfl; (with_reducible repeat (first | refine zB ?_ _ | refine zD ?_ | refine zC ?_ _)); refine blk_put (cs := #[.int .i64 ((rd_T34 l0_4 x54_4).f0), .int .i64 ((rd_T34 l0_4 x54_4).f1.f0), .int .i64 ((rd_T34 l0_4 x54_4).f1.f1), .string ((rd_T34 l0_4 x54_4).f2), .slice none 0 0, .slice none 0 0]) ?_ 4 _ rfl; (with_reducible repeat (first | refine zB ?_ _ | refine zD ?_ | refine zC ?_ _)); refine blk_put (cs := #[.int .i64 ((rd_T34 l0_4 x54_4).f0), .int .i64 ((rd_T34 l0_4 x54_4).f1.f0), .int .i64 ((rd_T34 l0_4 x54_4).f1.f1), .string (⟨#[]⟩ : ByteArray), .slice none 0 0, .slice none 0 0]) ?_ 3 _ rfl; (with_reducible repeat (first | refine zB ?_ _ | refine zD ?_ | refine zC ?_ _)); refine blk_put (cs := #[.int .i64 ((rd_T34 l0_4 x54_4).f0), .int .i64 ((rd_T34 l0_4 x54_4).f1.f0), .int .i64 0, .string (⟨#[]⟩ : ByteArray), .slice none 0 0, .slice none 0 0]) ?_ 2 _ rfl; (with_reducible repeat (first | refine zB ?_ _ | refine zD ?_ | refine zC ?_ _)); refine blk_put (cs := #[.int .i64 ((rd_T34 l0_4 x54_4).f0), .int .i64 0, .int .i64 0, .string (⟨#[]⟩ : ByteArray), .slice none 0 0, .slice none 0 0]) ?_ 1 _ rfl; (with_reducible repeat (first | refine zB ?_ _ | refine zD ?_ | refine zC ?_ _)); refine blk_put (cs := #[.int .i64 0, .int .i64 0, .int .i64 0, .string (⟨#[]⟩ : ByteArray), .slice none 0 0, .slice none 0 0]) ?_ 0 _ rfl; (with_reducible repeat (first | refine zB ?_ _ | refine zD ?_ | refine zC ?_ _)); exact BK334.out) hb); replace HB := zA (zP apT hb); (try clear hb); (try clear hb2); (try clear hk); (try clear hi); obtain ⟨hcz57_0, hcz57_1, hcz57_2, hcz57_3, hcz57_4, hcz57_5, hfz57_0, hfz57_1, hfz57_2, hfz57_3, hfz57_4, hfz57_5⟩ := zb6 BK334.out) | ((with_reducible refine zT (f := 41) rfl ?_); refine goesL_ (some 79) rfl rfl Tryd.func41 (by kernel_rfl) rfl #[.agg #[.int .i64 ((rd_T34 l0_4 x54_4).f0), .int .i64 ((rd_T34 l0_4 x54_4).f1.f0), .int .i64 ((rd_T34 l0_4 x54_4).f1.f1), .string ((rd_T34 l0_4 x54_4).f2), .slice A333_4 ((rd_T34 l0_4 x54_4).f3).length c333_4, .slice A333_5 ((rd_T34 l0_4 x54_4).f4).length c333_5], .bool a1, .string x7_28] rfl apE ?_; (with_reducible refine (ih k4 (by have := HJ23.out; have := HJ28.out; have := HJ33.out; have := HK4.out; omega) ((rd_T34 l0_4 x54_4).f0) ((rd_T34 l0_4 x54_4).f1.f0) ((rd_T34 l0_4 x54_4).f1.f1) ((rd_T34 l0_4 x54_4).f2) _ _ ((rd_T34 l0_4 x54_4).f3) _ _ ((rd_T34 l0_4 x54_4).f4) a1 x7_28 A3 c3 l3 t337 _ ?side1 ?side2 ?side3 ?side4 ?side5 ?side6 ?side7 A49.out).mono ?_); (case side1 => exact vc (Kd.C_below HR333_4.out HB.out)); (case side2 => exact HC333_4.out); (case side3 => exact vc (Kd.C_below HR333_5.out HB.out)); (case side4 => exact HC333_5.out); (case side5 => exact vc (Kd.C_below HR3.out HB.out)); (case side6 => exact HC3.out); (case side7 => exact HG3.out); rintro e w58 ⟨rfl, hb⟩; refine ⟨_, rfl, ?_⟩; replace HO_12 := zA (Kd.R_below (vwR HO_12.out) hb); replace BK326 := zA (zN (g := gb326) (o := .cells #[.int .i64 a0_0, .int .i64 a0_1, .int .i64 a0_2, .string a0_3, .slice (some ad333) l0_4.length c0_4, .slice (some ad335) l0_5.length c0_5] 34 (0, 0)) apM hb); replace BK334 := zA (zN (g := gb334) (o := .cells #[.int .i64 ((rd_T34 l0_4 x54_4).f0), .int .i64 ((rd_T34 l0_4 x54_4).f1.f0), .int .i64 ((rd_T34 l0_4 x54_4).f1.f1), .string ((rd_T34 l0_4 x54_4).f2), .slice A333_4 ((rd_T34 l0_4 x54_4).f3).length c333_4, .slice A333_5 ((rd_T34 l0_4 x54_4).f4).length c333_5] 34 (0, 0)) (by (with_reducible repeat (first | refine zB ?_ _ | refine zD ?_ | refine zC ?_ _)); exact BK334.out) hb); replace HB := zA (zP apT hb); (try clear hb); (try clear hb2); (try clear hk); (try clear hi)) | ((with_reducible refine gate_builtin (b := .append) (xs := #[.tmp 74, .tmp 81]) rfl ?_); (try (refine gate_guard (by rfl) ?_; dsimp only)); at_builtin; refine Kd.R_append Kd.string (w0 := w) w.heap.size rfl (.tmp 74) (.tmp 81) 25 9 (.string ⟨#[]⟩) 16 rfl Tryd.underlying25 info9 rfl (by decide) (by omega) u12 x12_4 ((x8_28 ++ ((t336 ++ (⟨#[58]⟩ : ByteArray)) ++ x9_28)) ++ t337) [.string ((x8_28 ++ ((t336 ++ (⟨#[58]⟩ : ByteArray)) ++ x9_28)) ++ t337)] (fun _ => True) (fun _ => False) rfl rfl ?aP (fun _ hk => hk.elim) ?aF ?aO ?aB ?aS ?aL ?_; (case aP => exact rfl); (case aB => exact apT); (case aF => exact (fun _ _ => trivial)); (case aO => exact (vwR HO_12.out)); (case aS => exact (zQ apT)); (case aL => have := LMc51.out; (first | omega | (simp only [ByteArray.size, List.size_toArray, List.length_cons, List.length_nil] at *; omega))); intro v339 w59 ho hb hg hat; rw [← Ny338.out] at ho; replace BK326 := zA (blk_grown (g := gb326) (o := .cells #[.int .i64 a0_0, .int .i64 a0_1, .int .i64 a0_2, .string a0_3, .slice (some ad333) l0_4.length c0_4, .slice (some ad335) l0_5.length c0_5] 34 (0, 0)) apM hg (Kd.R_ne HO_12.out BK326.out (by decide))); replace BK334 := zA (blk_grown (g := gb334) (o := .cells #[.int .i64 ((rd_T34 l0_4 x54_4).f0), .int .i64 ((rd_T34 l0_4 x54_4).f1.f0), .int .i64 ((rd_T34 l0_4 x54_4).f1.f1), .string ((rd_T34 l0_4 x54_4).f2), .slice A333_4 ((rd_T34 l0_4 x54_4).f3).length c333_4, .slice A333_5 ((rd_T34 l0_4 x54_4).f4).length c333_5] 34 (0, 0)) (by (with_reducible repeat (first | refine zB ?_ _ | refine zD ?_ | refine zC ?_ _)); exact BK334.out) hg (Kd.R_ne HO_12.out BK334.out (by decide))); replace HB := zA (hb); have HO340 := zA (ho); clear HO_12; clear ho hb hg hat))
                        go_roundg k4
                        case measure => have := HJ23.out; have := HJ28.out; have := HJ33.out; have := HK4.out; omega
                        case rel => exact ⟨(y338), (wrap64 (x54_4 + 1)), apC, H', ⟨by have := HJ23.out; have := HJ28.out; have := HJ33.out; have := HK4.out; omega⟩, ⟨vwR HO340.out⟩, ⟨apM⟩, ⟨apT⟩⟩
                       ·rw [if_neg c51] at H
                        exact absurd H (by simp)
                      ·rw [if_neg c50] at H
                       exact absurd H (by simp)
                     ·rw [if_neg c48] at H
                      exact absurd H (by simp)
                    ·rw [if_neg c47] at H
                     exact absurd H (by simp)
                   ·rw [if_neg c46] at H
                    exact absurd H (by simp)
                  ·rw [if_neg c44] at H
                   exact absurd H (by simp)
                 ·rw [if_neg c43] at H
                  have c43b0 : (a0_0 == 6) = false := beq_eq_false_iff_ne.mpr c43
                  have c43b1 : (a0_0 != 6) = true := bne_iff_ne.mpr c43
                  replace H := Option.bind_eq_some_iff.mp H
                  obtain ⟨t341, A600, H⟩ := H
                  have A60 := zA A600
                  clear A600
                  by_cases c61 : x8_28.size + t341.size ≤ 9223372036854775807
                  ·rw [if_pos c61] at H
                   have c61b0 := eq_true c61
                   have c61b1 : decide (x8_28.size + t341.size ≤ 9223372036854775807) = true := yE c61
                   try have c61b2 : (9223372036854775807 < x8_28.size + t341.size) = False := eq_false (Nat.not_lt.2 c61)
                   by_cases c62 : x12_4.length < 8796093022208
                   ·rw [if_pos c62] at H
                    have LMc62 := zA c62
                    clear c62
                    obtain ⟨y342, hy342⟩ : ∃ y_ : List ByteArray, y_ = (x12_4 ++ [x8_28 ++ t341]) := ⟨_, rfl⟩
                    replace H : (impl_layout.l0 k4 a1 x7_28 x8_28 x9_28 x10_28 x11_33 y342 l0_4 (l0_4.length : Int) (wrap64 (x54_4 + 1)) l3 a0_0 a0_1 a0_2 a0_3 l0_4 l0_5) = some r := by first | (rw [hy342]; with_reducible exact H) | (have H2_ := (Option.bind_some _ _).symm.trans H; rw [hy342]; with_reducible exact H2_) | (have H2_ := (Option.bind_some _ _).symm.trans H; with_reducible exact H2_) | with_reducible exact H | (rw [hy342]; exact H) | exact H
                    have Ny342 := zA hy342
                    clear hy342
                    have H' := zA H
                    clear H
                    have p333 : 0 ≤ (x54_4 : Int) := yF apB
                    have q333 : x54_4 < (l0_4.length : Int) := yF apB
                    obtain ⟨ad333, A333_4, c333_4, A333_5, c333_5, e333, hx333_0, hx333_1, hx333_2, hx333_3, hx333_4, hx333_5, hl333_4, hi333_4, hl333_5, hi333_5⟩ := at_T34 HR0_4.out x54_4 p333 q333
                    cases e333
                    replace hx333_0 := (HB.out.cell (zR w _ hx333_0)).trans hx333_0
                    replace hx333_1 := (HB.out.cell (zR w _ hx333_1)).trans hx333_1
                    replace hx333_2 := (HB.out.cell (zR w _ hx333_2)).trans hx333_2
                    replace hx333_3 := (HB.out.cell (zR w _ hx333_3)).trans hx333_3
                    replace hx333_4 := (HB.out.cell (zR w _ hx333_4)).trans hx333_4
                    replace hx333_5 := (HB.out.cell (zR w _ hx333_5)).trans hx333_5
                    have HR333_4 := zA hi333_4
                    have HC333_4 := zA hl333_4
                    clear hi333_4 hl333_4
                    have HR333_5 := zA hi333_5
                    have HC333_5 := zA hl333_5
                    clear hi333_5 hl333_5
                    replace p333 := eq_true p333
                    replace q333 := eq_true q333
                    go_wp2_with (first | ((with_reducible refine zS (N := 14) rfl ?_); (try (refine gate_guard (by rfl) ?_; dsimp only)); refine zW ?hg (N := 14) ?hd (cs := #[.int .i64 0, .int .i64 0, .int .i64 0, .string (⟨#[]⟩ : ByteArray), .slice none 0 0, .slice none 0 0]) (t := 34) ?hr ?_; (case hd => rfl); (case hg => rfl); (case hr => first | (go_simp; done) | (go_simp; rfl)); intro gb334 hg w63 hbox hb; replace HO_12 := zA (Kd.R_below (vwR HO_12.out) hb); have BK334 := zA (hbox); have GW334 := zA ((by rw [hg]; exact (zQ apL) : w.heap.size ≤ gb334)); have GE334 := zA ((by rw [hg]; exact (zQ apL) : w.heap.size ≤ gb334)); replace HB := zA (zP apL hb); have NB326_334 := zA ((by rw [hg]; exact Nat.ne_of_lt (blk_lt (g := gb326) (o := .cells #[.int .i64 a0_0, .int .i64 a0_1, .int .i64 a0_2, .string a0_3, .slice (some ad333) l0_4.length c0_4, .slice A0_5 l0_5.length c0_5] 34 (0, 0)) apM) : gb326 ≠ gb334)); have NB334_326 := zA ((by rw [hg]; exact Nat.ne_of_gt (blk_lt (g := gb326) (o := .cells #[.int .i64 a0_0, .int .i64 a0_1, .int .i64 a0_2, .string a0_3, .slice (some ad333) l0_4.length c0_4, .slice A0_5 l0_5.length c0_5] 34 (0, 0)) apM) : gb334 ≠ gb326)); replace BK326 := zA (zN (g := gb326) (o := .cells #[.int .i64 a0_0, .int .i64 a0_1, .int .i64 a0_2, .string a0_3, .slice (some ad333) l0_4.length c0_4, .slice A0_5 l0_5.length c0_5] 34 (0, 0)) apM hb); clear hb hbox hg; have hnb64 := NB334_326.out; have hnc64 := NB326_334.out; obtain ⟨hcz65_0, hcz65_1, hcz65_2, hcz65_3, hcz65_4, hcz65_5, hfz65_0, hfz65_1, hfz65_2, hfz65_3, hfz65_4, hfz65_5⟩ := zb6 BK334.out; obtain ⟨hcz66_0, hcz66_1, hcz66_2, hcz66_3, hcz66_4, hcz66_5, hfz66_0, hfz66_1, hfz66_2, hfz66_3, hfz66_4, hfz66_5⟩ := zb6 BK326.out) | ((with_reducible refine zT (f := 41) rfl ?_); refine goesL_ (some 79) rfl rfl Tryd.func41 (by kernel_rfl) rfl #[.agg #[.int .i64 ((rd_T34 l0_4 x54_4).f0), .int .i64 ((rd_T34 l0_4 x54_4).f1.f0), .int .i64 ((rd_T34 l0_4 x54_4).f1.f1), .string ((rd_T34 l0_4 x54_4).f2), .slice A333_4 ((rd_T34 l0_4 x54_4).f3).length c333_4, .slice A333_5 ((rd_T34 l0_4 x54_4).f4).length c333_5], .bool a1, .string x7_28] rfl apE ?_; (with_reducible refine (ih k4 (by have := HJ23.out; have := HJ28.out; have := HJ33.out; have := HK4.out; omega) ((rd_T34 l0_4 x54_4).f0) ((rd_T34 l0_4 x54_4).f1.f0) ((rd_T34 l0_4 x54_4).f1.f1) ((rd_T34 l0_4 x54_4).f2) _ _ ((rd_T34 l0_4 x54_4).f3) _ _ ((rd_T34 l0_4 x54_4).f4) a1 x7_28 A3 c3 l3 t341 _ ?side1 ?side2 ?side3 ?side4 ?side5 ?side6 ?side7 A60.out).mono ?_); (case side1 => exact Kd.C_below HR333_4.out apT); (case side2 => exact HC333_4.out); (case side3 => exact Kd.C_below HR333_5.out apT); (case side4 => exact HC333_5.out); (case side5 => exact Kd.C_below HR3.out apT); (case side6 => exact HC3.out); (case side7 => exact HG3.out); rintro e w67 ⟨rfl, hb⟩; refine ⟨_, rfl, ?_⟩; replace HO_12 := zA (Kd.R_below (by (with_reducible repeat (first | apply Kd.R_alloc | apply Kd.R_drewN | apply Kd.R_drew)); exact (Kd.R_mono (Kd.R_far (p := ⟨gb334, 5, none⟩) (Kd.R_far (p := ⟨gb334, 4, none⟩) (Kd.R_far (p := ⟨gb334, 3, none⟩) (Kd.R_far (p := ⟨gb334, 2, none⟩) (Kd.R_far (p := ⟨gb334, 1, none⟩) (Kd.R_far (p := ⟨gb334, 0, none⟩) (Kd.R_types HO_12.out BK334.out (by decide)) (fun _ hk => hk.2) (.int .i64 ((rd_T34 l0_4 x54_4).f0))) (fun _ hk => hk.2) (.int .i64 ((rd_T34 l0_4 x54_4).f1.f0))) (fun _ hk => hk.2) (.int .i64 ((rd_T34 l0_4 x54_4).f1.f1))) (fun _ hk => hk.2) (.string ((rd_T34 l0_4 x54_4).f2))) (fun _ hk => hk.2) (.slice A333_4 ((rd_T34 l0_4 x54_4).f3).length c333_4)) (fun _ hk => hk.2) (.slice A333_5 ((rd_T34 l0_4 x54_4).f4).length c333_5)) (fun _ h_ => h_.1))) hb); replace BK326 := zA (zN (g := gb326) (o := .cells #[.int .i64 a0_0, .int .i64 a0_1, .int .i64 a0_2, .string a0_3, .slice (some ad333) l0_4.length c0_4, .slice A0_5 l0_5.length c0_5] 34 (0, 0)) (by (with_reducible repeat (first | refine zB ?_ _ | refine zD ?_ | refine zC ?_ _)); refine blk_far ?_ NB326_334.out _; (with_reducible repeat (first | refine zB ?_ _ | refine zD ?_ | refine zC ?_ _)); refine blk_far ?_ NB326_334.out _; (with_reducible repeat (first | refine zB ?_ _ | refine zD ?_ | refine zC ?_ _)); refine blk_far ?_ NB326_334.out _; (with_reducible repeat (first | refine zB ?_ _ | refine zD ?_ | refine zC ?_ _)); refine blk_far ?_ NB326_334.out _; (with_reducible repeat (first | refine zB ?_ _ | refine zD ?_ | refine zC ?_ _)); refine blk_far ?_ NB326_334.out _; (with_reducible repeat (first | refine zB ?_ _ | refine zD ?_ | refine zC ?_ _)); refine blk_far ?_ NB326_334.out _; (with_reducible repeat (first | refine zB ?_ _ | refine zD ?_ | refine zC ?_ _)); exact BK326.out) hb); replace BK334 := zA (zN (g := gb334) (o := .cells #[.int .i64 ((rd_T34 l0_4 x54_4).f0), .int .i64 ((rd_T34 l0_4 x54_4).f1.f0), .int .i64 ((rd_T34 l0_4 x54_4).f1.f1), .string ((rd_T34 l0_4 x54_4).f2), .slice A333_4 ((rd_T34 l0_4 x54_4).f3).length c333_4, .slice A333_5 ((rd_T34 l0_4 x54_4).f4).length c333_5] 34 (0, 0)) (by (with_reducible repeat (first | refine zB ?_ _ | refine zD ?_ | refine zC ?_ _)); refine blk_put (cs := #[.int .i64 ((rd_T34 l0_4 x54_4).f0), .int .i64 ((rd_T34 l0_4 x54_4).f1.f0), .int .i64 ((rd_T34 l0_4 x54_4).f1.f1), .string ((rd_T34 l0_4 x54_4).f2), .slice A333_4 ((rd_T34 l0_4 x54_4).f3).length c333_4, .slice none 0 0]) ?_ 5 _ rfl; (with_reducible repeat (first | refine zB ?_ _ | refine zD ?_ | refine zC ?_ _)); refine blk_put (cs := #[.int .i64 ((rd_T34 l0_4 x54_4).f0), .int .i64 ((rd_T34 l0_4 x54_4).f1.f0), .int .i64 ((rd_T34 l0_4 x54_4).f1.f1), .string ((rd_T34 l0_4 x54_4).f2), .slice none 0 0, .slice none 0 0]) ?_ 4 _ rfl; (with_reducible repeat (first | refine zB ?_ _ | refine zD ?_ | refine zC ?_ _)); refine blk_put (cs := #[.int .i64 ((rd_T34 l0_4 x54_4).f0), .int .i64 ((rd_T34 l0_4 x54_4).f1.f0), .int .i64 ((rd_T34 l0_4 x54_4).f1.f1), .string (⟨#[]⟩ : ByteArray), .slice none 0 0, .slice none 0 0]) ?_ 3 _ rfl; (with_reducible repeat (first | refine zB ?_ _ | refine zD ?_ | refine zC ?_ _)); refine blk_put (cs := #[.int .i64 ((rd_T34 l0_4 x54_4).f0), .int .i64 ((rd_T34 l0_4 x54_4).f1.f0), .int .i64 0, .string (⟨#[]⟩ : ByteArray), .slice none 0 0, .slice none 0 0]) ?_ 2 _ rfl; (with_reducible repeat (first | refine zB ?_ _ | refine zD ?_ | refine zC ?_ _)); refine blk_put (cs := #[.int .i64 ((rd_T34 l0_4 x54_4).f0), .int .i64 0, .int .i64 0, .string (⟨#[]⟩ : ByteArray), .slice none 0 0, .slice none 0 0]) ?_ 1 _ rfl; (with_reducible repeat (first | refine zB ?_ _ | refine zD ?_ | refine zC ?_ _)); refine blk_put (cs := #[.int .i64 0, .int .i64 0, .int .i64 0, .string (⟨#[]⟩ : ByteArray), .slice none 0 0, .slice none 0 0]) ?_ 0 _ rfl; (with_reducible repeat (first | refine zB ?_ _ | refine zD ?_ | refine zC ?_ _)); exact BK334.out) hb); replace HB := zA (zP apT hb); (try clear hb); (try clear hb2); (try clear hk); (try clear hi)) | ((with_reducible refine gate_builtin (b := .append) (xs := #[.tmp 74, .tmp 81]) rfl ?_); (try (refine gate_guard (by rfl) ?_; dsimp only)); at_builtin; refine Kd.R_append Kd.string (w0 := w) w.heap.size rfl (.tmp 74) (.tmp 81) 25 9 (.string ⟨#[]⟩) 16 rfl Tryd.underlying25 info9 rfl (by decide) (by omega) u12 x12_4 (x8_28 ++ t341) [.string (x8_28 ++ t341)] (fun _ => True) (fun _ => False) rfl rfl ?aP (fun _ hk => hk.elim) ?aF ?aO ?aB ?aS ?aL ?_; (case aP => exact rfl); (case aB => exact apT); (case aF => exact (fun _ _ => trivial)); (case aO => exact (vwR HO_12.out)); (case aS => exact (zQ apT)); (case aL => have := LMc62.out; (first | omega | (simp only [ByteArray.size, List.size_toArray, List.length_cons, List.length_nil] at *; omega))); intro v343 w68 ho hb hg hat; rw [← Ny342.out] at ho; replace BK326 := zA (blk_grown (g := gb326) (o := .cells #[.int .i64 a0_0, .int .i64 a0_1, .int .i64 a0_2, .string a0_3, .slice (some ad333) l0_4.length c0_4, .slice A0_5 l0_5.length c0_5] 34 (0, 0)) apM hg (Kd.R_ne HO_12.out BK326.out (by decide))); replace BK334 := zA (blk_grown (g := gb334) (o := .cells #[.int .i64 ((rd_T34 l0_4 x54_4).f0), .int .i64 ((rd_T34 l0_4 x54_4).f1.f0), .int .i64 ((rd_T34 l0_4 x54_4).f1.f1), .string ((rd_T34 l0_4 x54_4).f2), .slice A333_4 ((rd_T34 l0_4 x54_4).f3).length c333_4, .slice A333_5 ((rd_T34 l0_4 x54_4).f4).length c333_5] 34 (0, 0)) (by (with_reducible repeat (first | refine zB ?_ _ | refine zD ?_ | refine zC ?_ _)); exact BK334.out) hg (Kd.R_ne HO_12.out BK334.out (by decide))); replace HB := zA (hb); have HO344 := zA (ho); clear HO_12; clear ho hb hg hat))
                    go_roundg k4
                    case measure => have := HJ23.out; have := HJ28.out; have := HJ33.out; have := HK4.out; omega
                    case rel => exact ⟨(y342), (wrap64 (x54_4 + 1)), apC, H', ⟨by have := HJ23.out; have := HJ28.out; have := HJ33.out; have := HK4.out; omega⟩, ⟨vwR HO344.out⟩, ⟨apM⟩, ⟨apT⟩⟩
                   ·rw [if_neg c62] at H
                    exact absurd H (by simp)
                  ·rw [if_neg c61] at H
                   exact absurd H (by simp)
                ·rw [if_neg c42] at H
                 exact absurd H (by simp)
               ·rw [if_neg c41] at H
                exact absurd H (by simp)
              ·rw [if_neg c40] at H
               have c40b0 : decide (x54_4 < (l0_4.length : Int)) = false := decide_eq_false c40
               clear c40
               by_cases c69 : 0 ≤ 1
               ·rw [if_pos c69] at H
                have c69b0 := eq_true c69
                have c69b1 : decide (0 ≤ 1) = true := yE c69
                clear c69
                by_cases c70 : 1 ≤ (x11_33.size : Int)
                ·rw [if_pos c70] at H
                 have c70b0 := eq_true c70
                 have c70b1 : decide (1 ≤ (x11_33.size : Int)) = true := yE c70
                 clear c70
                 replace H := Option.bind_eq_some_iff.mp H
                 obtain ⟨t332, A710, H⟩ := H
                 have A71 := zA A710
                 clear A710
                 by_cases c72 : (x11_33.extract 0 1).size + t332.size ≤ 9223372036854775807
                 ·rw [if_pos c72] at H
                  have c72b0 := eq_true c72
                  have c72b1 : decide ((x11_33.extract 0 1).size + t332.size ≤ 9223372036854775807) = true := yE c72
                  try have c72b2 : (9223372036854775807 < (x11_33.extract 0 1).size + t332.size) = False := eq_false (Nat.not_lt.2 c72)
                  by_cases c73 : ((x11_33.extract 0 1) ++ t332).size + x10_28.size ≤ 9223372036854775807
                  ·rw [if_pos c73] at H
                   have c73b0 := eq_true c73
                   have c73b1 : decide (((x11_33.extract 0 1) ++ t332).size + x10_28.size ≤ 9223372036854775807) = true := yE c73
                   try have c73b2 : (9223372036854775807 < ((x11_33.extract 0 1) ++ t332).size + x10_28.size) = False := eq_false (Nat.not_lt.2 c73)
                   try simp only [ByteArray.size_append] at c73b2
                   have c74b0 := eq_true (yF apB : 1 ≤ (x11_33.size : Int))
                   by_cases c75 : (((x11_33.extract 0 1) ++ t332) ++ x10_28).size + (x11_33.extract 1 x11_33.size).size ≤ 9223372036854775807
                   ·rw [if_pos c75] at H
                    have c75b0 := eq_true c75
                    have c75b1 : decide ((((x11_33.extract 0 1) ++ t332) ++ x10_28).size + (x11_33.extract 1 x11_33.size).size ≤ 9223372036854775807) = true := yE c75
                    try have c75b2 : (9223372036854775807 < (((x11_33.extract 0 1) ++ t332) ++ x10_28).size + (x11_33.extract 1 x11_33.size).size) = False := eq_false (Nat.not_lt.2 c75)
                    try simp only [ByteArray.size_append] at c75b2
                    obtain rfl := yG H
                    try go_wp2
                    replace HO_12 := zA (Kd.R_drew HO_12.out)
                    replace BK326 := zA (zD BK326.out)
                    replace HB := zA (zF HB.out)
                    obtain ⟨Ao77, co77, eo77⟩ := Kd.R_slice HO_12.out
                    (first | subst eo77 | (injection eo77 with f1_ f2_ f3_; have f4_ := f1_.symm; have f5_ := f3_.symm; clear f1_ f2_ f3_; subst f4_; subst f5_))
                    refine start_ (n := 11) (S := fun w' => True) (ds := []) #[false, false, false, false, false, false, false, false, false, false, false] (by kernel_rfl) rfl rfl trivial (fun hHeld => ?_); refine with_tabW impl_layout.tab28 impl_layout.bits28 (fun HT_ HW_ => ?_)
                    generalize wr.drew = w76 at HO_12 BK326 HB hHeld ⊢
                    refine pure_ (i := 0) (N := some 84) (v := ?_) (a' := ?_) #[true, false, false, false, false, false, false, false, false, false, false] rfl rfl (any_of HT_.out (by kernel_rfl)) (fun _ _ _ h => h) (Or.inl ⟨by rfl, ?_⟩) ?_ ?_
                    rotate_left
                    ·intro w'
                     go_simp
                     with_reducible rfl
                    rotate_left
                    ·simp only [Act.put, zK, zL, zM, i64_w, i32_w]
                     rfl
                    refine pure_ (i := 1) (N := some 85) (v := ?_) (a' := ?_) #[true, true, false, false, false, false, false, false, false, false, false] rfl rfl (any_of HT_.out (by kernel_rfl)) (fun _ _ _ h => h) (Or.inl ⟨by rfl, ?_⟩) ?_ ?_
                    rotate_left
                    ·intro w'
                     go_simp
                     with_reducible rfl
                    rotate_left
                    ·simp only [Act.put, zK, zL, zM, i64_w, i32_w]
                     rfl
                    refine pure_ (i := 2) (N := some 86) (v := ?_) (a' := ?_) #[true, true, true, false, false, false, false, false, false, false, false] rfl rfl (any_of HT_.out (by kernel_rfl)) (fun _ _ _ h => h) (Or.inl ⟨by rfl, ?_⟩) ?_ ?_
                    rotate_left
                    ·intro w'
                     go_simp
                     with_reducible rfl
                    rotate_left
                    ·simp only [Act.put, zK, zL, zM, i64_w, i32_w]
                     rfl
                    refine pure_ (i := 5) (N := some 89) (v := ?_) (a' := ?_) #[true, true, true, false, false, true, false, false, false, false, false] rfl rfl (any_of HT_.out (by kernel_rfl)) (fun _ _ _ h => h) (Or.inl ⟨by rfl, ?_⟩) ?_ ?_
                    rotate_left
                    ·intro w'
                     go_simp
                     with_reducible rfl
                    rotate_left
                    ·simp only [Act.put, zK, zL, zM, i64_w, i32_w]
                     rfl
                    refine pure_ (i := 7) (N := some 91) (v := ?_) (a' := ?_) #[true, true, true, false, false, true, false, true, false, false, false] rfl rfl (any_of HT_.out (by kernel_rfl)) (fun _ _ _ h => h) (Or.inl ⟨by rfl, ?_⟩) ?_ ?_
                    rotate_left
                    ·intro w'
                     go_simp
                     with_reducible rfl
                    rotate_left
                    ·simp only [Act.put, zK, zL, zM, i64_w, i32_w]
                     rfl
                    refine pure_ (i := 8) (N := some 92) (v := ?_) (a' := ?_) #[true, true, true, false, false, true, false, true, true, false, false] rfl rfl (any_of HT_.out (by kernel_rfl)) (fun _ _ _ h => h) (Or.inl ⟨by rfl, ?_⟩) ?_ ?_
                    rotate_left
                    ·intro w'
                     go_simp
                     with_reducible rfl
                    rotate_left
                    ·simp only [Act.put, zK, zL, zM, i64_w, i32_w]
                     rfl
                    refine one_ (i := 3) (N := some 87) #[true, true, true, true, false, true, false, true, true, false, false] rfl rfl (one_of HT_.out (by kernel_rfl)) (by decide) (fun K hK => ?_)
                    refine goes_ Tryd.func54 (by kernel_rfl) rfl #[.slice Ao77 x12_4.length co77, .string (⟨#[44]⟩ : ByteArray)] (by rfl) rfl rfl apE ?_
                    with_reducible refine (strings_Join.calls _ _ x12_4 (⟨#[44]⟩ : ByteArray) t332 _ ?side1 ?side2 A71.out).mono ?_
                    (case side1 => exact vc (Kd.R_reads' HO_12.out).2.2)
                    (case side2 => exact (Kd.R_reads' HO_12.out).2.1)
                    rintro e w78 ⟨rfl, hb⟩
                    refine ⟨_, rfl, ?_⟩
                    replace HO_12 := zA (Kd.R_below (vwR HO_12.out) hb)
                    replace BK326 := zA (zN (g := gb326) (o := .cells #[.int .i64 a0_0, .int .i64 a0_1, .int .i64 a0_2, .string a0_3, .slice A0_4 l0_4.length c0_4, .slice A0_5 l0_5.length c0_5] 34 (0, 0)) apM hb)
                    replace HB := zA (zP apL hb)
                    (try clear hb)
                    (try clear hb2)
                    (try clear hk)
                    (try clear hi)
                    refine hK.out _ _ trivial (fun hHeld => ?_)
                    clear hK K
                    refine norm_ (a' := ?_) ?_ ?_
                    rotate_left
                    ·show Act.put _ (some 87) _ = _
                     simp only [Act.put, zK, zL, zM, i64_w, i32_w]
                     rfl
                    refine pure_ (i := 4) (N := some 88) (v := ?_) (a' := ?_) #[true, true, true, true, true, true, false, true, true, false, false] rfl rfl (any_of HT_.out (by kernel_rfl)) (fun _ _ _ h => h) (Or.inl ⟨by rfl, ?_⟩) ?_ ?_
                    rotate_left
                    ·intro w'
                     go_simp
                     with_reducible rfl
                    rotate_left
                    ·simp only [Act.put, zK, zL, zM, i64_w, i32_w]
                     rfl
                    refine pure_ (i := 6) (N := some 90) (v := ?_) (a' := ?_) #[true, true, true, true, true, true, true, true, true, false, false] rfl rfl (any_of HT_.out (by kernel_rfl)) (fun _ _ _ h => h) (Or.inl ⟨by rfl, ?_⟩) ?_ ?_
                    rotate_left
                    ·intro w'
                     go_simp
                     with_reducible rfl
                    rotate_left
                    ·simp only [Act.put, zK, zL, zM, i64_w, i32_w]
                     rfl
                    refine pure_ (i := 9) (N := some 93) (v := ?_) (a' := ?_) #[true, true, true, true, true, true, true, true, true, true, false] rfl rfl (any_of HT_.out (by kernel_rfl)) (fun _ _ _ h => h) (Or.inl ⟨by rfl, ?_⟩) ?_ ?_
                    rotate_left
                    ·intro w'
                     go_simp
                     with_reducible rfl
                    rotate_left
                    ·simp only [Act.put, zK, zL, zM, i64_w, i32_w]
                     rfl
                    refine pure_ (i := 10) (N := some 6) (v := ?_) (a' := ?_) #[true, true, true, true, true, true, true, true, true, true, true] rfl rfl (any_of HT_.out (by kernel_rfl)) (fun _ _ _ h => h) (Or.inl ⟨by rfl, ?_⟩) ?_ ?_
                    rotate_left
                    ·intro w'
                     go_simp
                     with_reducible rfl
                    rotate_left
                    ·simp only [Act.put, zK, zL, zM, i64_w, i32_w]
                     rfl
                    refine done_ (done_of HT_.out (by kernel_rfl)) ?_
                    try go_wp2
                    go_ret
                    exact ⟨apD, apL⟩
                   ·rw [if_neg c75] at H
                    exact absurd H (by simp)
                  ·rw [if_neg c73] at H
                   exact absurd H (by simp)
                 ·rw [if_neg c72] at H
                  exact absurd H (by simp)
                ·rw [if_neg c70] at H
                 exact absurd H (by simp)
               ·rw [if_neg c69] at H
                exact absurd H (by simp)

end Go.Proofs.YthaceblepbkjjaaDoor.Q
