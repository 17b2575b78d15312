-- laid by a program of this session (wip/tools) out of the translation; Lean checks it
import Derived.Test.YtoajejdicfabmaaDoorBFnValueCmpq0
namespace Go.Proofs.YtoajejdicfabmaaDoor.Q
open Go.RowKit Go.Proofs.YtoajejdicfabmaaDoorW.PrintWords Go.Proofs.YtoajejdicfabmaaDoorW.PrintLast Go.Proofs.YtoajejdicfabmaaDoorW.PrintMore Go.Proofs.YtoajejdicfabmaaDoorX
attribute [local go_sem] max2_int min2_int max_two min_two max_three min_three max_four min_four   -- for this text's walks alone
set_option linter.unusedVariables false
set_option linter.unusedSimpArgs false

attribute [local go_sem high] eqA30
mutual
def impl_valueOk.j0 : Nat → Bool → List (List ByteArray) → Int → Int → Int → ByteArray → List (S33) → List ByteArray → Int → Option (Bool)
 | 0, _, _, _, _, _, _, _, _, _ => none
 | k + 1, x51, i3, dX, jg, jh, ji, gv, fz, iu => if x51 = true then (some false) else (if dX = 0 then (impl_valueOk.j1 k dX (dX == 0) i3 dX jg jh ji gv fz iu) else (if dX = 1 then (impl_valueOk.j1 k dX (dX == 1) i3 dX jg jh ji gv fz iu) else (if dX = 2 then (impl_valueOk.j1 k dX (dX == 2) i3 dX jg jh ji gv fz iu) else (impl_valueOk.j1 k dX (dX == 5) i3 dX jg jh ji gv fz iu))))
def impl_valueOk.j1 : Nat → Int → Bool → List (List ByteArray) → Int → Int → Int → ByteArray → List (S33) → List ByteArray → Int → Option (Bool)
 | 0, _, _, _, _, _, _, _, _, _, _ => none
 | k + 1, x53, x54, i3, dX, jg, jh, ji, gv, fz, iu => if x54 = true then ((impl_Value_37_at_valueOk_1.f k gv i3 [iu]).bind fun U9 => (some (!U9))) else (if x53 = 3 then ((impl_DecOk.f jg jh).bind fun Ua => (some Ua)) else (if x53 = 4 then (some (decide ((ji.size : Int) ≤ 1500))) else (if x53 = 6 then (impl_valueOk.l0 k fz (fz.length : Int) 0 i3 dX jg jh ji gv fz iu) else (some false))))
def impl_valueOk.l0 : Nat → List ByteArray → Int → Int → List (List ByteArray) → Int → Int → Int → ByteArray → List (S33) → List ByteArray → Int → Option (Bool)
 | 0, _, _, _, _, _, _, _, _, _, _, _ => none
 | k + 1, x73, x74, x75, i3, dX, jg, jh, ji, gv, fz, iu => if x75 < x74 then (if 0 ≤ x75 then (if x75 < (x73.length : Int) then ((impl_NameOk.f k (rdOf ByteArray.empty x73 x75) i3).bind fun Ub => (if Ub = true then (if x75 > 0 then (if 0 ≤ (wrap64 (x75 - 1)) then (if (wrap64 (x75 - 1)) < (fz.length : Int) then (if ((Op.bytesLess ((rdOf ByteArray.empty fz (wrap64 (x75 - 1))).toList) ((rdOf ByteArray.empty x73 x75).toList)) = true) then (impl_valueOk.l0 k x73 x74 (wrap64 (x75 + 1)) i3 dX jg jh ji gv fz iu) else (some false)) else (none)) else (none)) else (impl_valueOk.l0 k x73 x74 (wrap64 (x75 + 1)) i3 dX jg jh ji gv fz iu)) else (some false))) else (none)) else (none)) else (if (fz.length : Int) = (gv.length : Int) then ((impl_Value_37_at_valueOk_1.f k gv i3 [iu]).bind fun Uc => (some (!Uc))) else (some false))
def impl_valueOk.f : Nat → Int → Int → Int → ByteArray → List (S33) → List ByteArray → Int → List (List ByteArray) → Option (Bool)
 | 0, _, _, _, _, _, _, _, _ => none
 | k + 1, aa, ae, ah, ai, ac, ab, a1, l2 => if a1 = 0 then (impl_valueOk.j0 k true l2 aa ae ah ai ac ab a1) else (if aa = 3 then (if aa = 4 then (if aa < 5 then (if (ac.length : Int) > 0 then (impl_valueOk.j0 k true l2 aa ae ah ai ac ab a1) else (if aa = 6 then (impl_valueOk.j0 k false l2 aa ae ah ai ac ab a1) else (impl_valueOk.j0 k (decide ((ab.length : Int) > 0)) l2 aa ae ah ai ac ab a1))) else (if aa = 6 then (impl_valueOk.j0 k false l2 aa ae ah ai ac ab a1) else (impl_valueOk.j0 k (decide ((ab.length : Int) > 0)) l2 aa ae ah ai ac ab a1))) else (if ai.toList = ([] : List UInt8) then (if aa < 5 then (if (ac.length : Int) > 0 then (impl_valueOk.j0 k true l2 aa ae ah ai ac ab a1) else (if aa = 6 then (impl_valueOk.j0 k false l2 aa ae ah ai ac ab a1) else (impl_valueOk.j0 k (decide ((ab.length : Int) > 0)) l2 aa ae ah ai ac ab a1))) else (if aa = 6 then (impl_valueOk.j0 k false l2 aa ae ah ai ac ab a1) else (impl_valueOk.j0 k (decide ((ab.length : Int) > 0)) l2 aa ae ah ai ac ab a1))) else (impl_valueOk.j0 k true l2 aa ae ah ai ac ab a1))) else (if (!(ae == 0) || (!(ah == 0))) = true then (impl_valueOk.j0 k true l2 aa ae ah ai ac ab a1) else (if aa = 4 then (if aa < 5 then (if (ac.length : Int) > 0 then (impl_valueOk.j0 k true l2 aa ae ah ai ac ab a1) else (if aa = 6 then (impl_valueOk.j0 k false l2 aa ae ah ai ac ab a1) else (impl_valueOk.j0 k (decide ((ab.length : Int) > 0)) l2 aa ae ah ai ac ab a1))) else (if aa = 6 then (impl_valueOk.j0 k false l2 aa ae ah ai ac ab a1) else (impl_valueOk.j0 k (decide ((ab.length : Int) > 0)) l2 aa ae ah ai ac ab a1))) else (if ai.toList = ([] : List UInt8) then (if aa < 5 then (if (ac.length : Int) > 0 then (impl_valueOk.j0 k true l2 aa ae ah ai ac ab a1) else (if aa = 6 then (impl_valueOk.j0 k false l2 aa ae ah ai ac ab a1) else (impl_valueOk.j0 k (decide ((ab.length : Int) > 0)) l2 aa ae ah ai ac ab a1))) else (if aa = 6 then (impl_valueOk.j0 k false l2 aa ae ah ai ac ab a1) else (impl_valueOk.j0 k (decide ((ab.length : Int) > 0)) l2 aa ae ah ai ac ab a1))) else (impl_valueOk.j0 k true l2 aa ae ah ai ac ab a1)))))
def impl_Value_37_at_valueOk_1.f : Nat → List (S33) → List (List ByteArray) → List Int → Option (Bool)
 | 0, _, _, _ => none
 | k + 1, l0, l2, l3 => (impl_Value_55_at_valueOk_1.f k l0 l2 l3).bind fun KA => (some (decide (KA ≥ 0)))
def impl_valueOk_1.f : Nat → Int → Int → Int → ByteArray → List (S33) → List ByteArray → List (List ByteArray) → List Int → Option (Bool)
 | 0, _, _, _, _, _, _, _, _ => none
 | k + 1, aa, ae, ah, ai, ac, ab, l1, l2 => if 0 < (l2.length : Int) then ((impl_valueOk.f k aa ae ah ai ac ab (wrap64 ((rd l2 0) - 1)) l1).bind fun KB => (some (!KB))) else (none)
def impl_Value_55_at_valueOk_1.l0 : Nat → List (S33) → Int → Int → List Int → List (List ByteArray) → Option (Int)
 | 0, _, _, _, _, _ => none
 | k + 1, x0, x7, x8, Xh, i3 => if x8 < x7 then (if 0 ≤ x8 then (if x8 < (x0.length : Int) then ((impl_valueOk_1.f k ((rd_T33 x0 x8).f0) ((rd_T33 x0 x8).f1.f0) ((rd_T33 x0 x8).f1.f1) ((rd_T33 x0 x8).f2) ((rd_T33 x0 x8).f3) ((rd_T33 x0 x8).f4) i3 Xh).bind fun O8 => (if O8 = true then (some x8) else (impl_Value_55_at_valueOk_1.l0 k x0 x7 (wrap64 (x8 + 1)) Xh i3))) else (none)) else (none)) else (some (-1))
def impl_Value_55_at_valueOk_1.f : Nat → List (S33) → List (List ByteArray) → List Int → Option (Int)
 | 0, _, _, _ => none
 | k + 1, l0, l2, l3 => impl_Value_55_at_valueOk_1.l0 k l0 (l0.length : Int) 0 l3 l2
end
theorem impl_valueOk.G.mono_l : ∀ k, (∀ y0 y1 y2 y3 y4 y5 y6 y7, LeO (impl_valueOk.f k y0 y1 y2 y3 y4 y5 y6 y7) (impl_valueOk.f (k + 1) y0 y1 y2 y3 y4 y5 y6 y7)) ∧ (∀ y0 y1 y2 y3 y4 y5 y6 y7 y8, LeO (impl_valueOk.j0 k y0 y1 y2 y3 y4 y5 y6 y7 y8) (impl_valueOk.j0 (k + 1) y0 y1 y2 y3 y4 y5 y6 y7 y8)) ∧ (∀ y0 y1 y2 y3 y4 y5 y6 y7 y8 y9, LeO (impl_valueOk.j1 k y0 y1 y2 y3 y4 y5 y6 y7 y8 y9) (impl_valueOk.j1 (k + 1) y0 y1 y2 y3 y4 y5 y6 y7 y8 y9)) ∧ (∀ y0 y1 y2 y3 y4 y5 y6 y7 y8 y9 y10, LeO (impl_valueOk.l0 k y0 y1 y2 y3 y4 y5 y6 y7 y8 y9 y10) (impl_valueOk.l0 (k + 1) y0 y1 y2 y3 y4 y5 y6 y7 y8 y9 y10)) ∧ (∀ y0 y1 y2, LeO (impl_Value_37_at_valueOk_1.f k y0 y1 y2) (impl_Value_37_at_valueOk_1.f (k + 1) y0 y1 y2)) ∧ (∀ y0 y1 y2 y3 y4 y5 y6 y7, LeO (impl_valueOk_1.f k y0 y1 y2 y3 y4 y5 y6 y7) (impl_valueOk_1.f (k + 1) y0 y1 y2 y3 y4 y5 y6 y7)) ∧ (∀ y0 y1 y2, LeO (impl_Value_55_at_valueOk_1.f k y0 y1 y2) (impl_Value_55_at_valueOk_1.f (k + 1) y0 y1 y2)) ∧ (∀ y0 y1 y2 y3 y4, LeO (impl_Value_55_at_valueOk_1.l0 k y0 y1 y2 y3 y4) (impl_Value_55_at_valueOk_1.l0 (k + 1) y0 y1 y2 y3 y4))
 | 0 => ⟨fun _ _ _ _ _ _ _ _ r h => by simp [impl_valueOk.f] at h, fun _ _ _ _ _ _ _ _ _ r h => by simp [impl_valueOk.j0] at h, fun _ _ _ _ _ _ _ _ _ _ r h => by simp [impl_valueOk.j1] at h, fun _ _ _ _ _ _ _ _ _ _ _ r h => by simp [impl_valueOk.l0] at h, fun _ _ _ r h => by simp [impl_Value_37_at_valueOk_1.f] at h, fun _ _ _ _ _ _ _ _ r h => by simp [impl_valueOk_1.f] at h, fun _ _ _ r h => by simp [impl_Value_55_at_valueOk_1.f] at h, fun _ _ _ _ _ r h => by simp [impl_Value_55_at_valueOk_1.l0] at h⟩
 | k + 1 => by
  obtain ⟨ih0, ih1, ih2, ih3, ih4, ih5, ih6, ih7⟩ := impl_valueOk.G.mono_l k; refine ⟨?_, ?_, ?_, ?_, ?_, ?_, ?_, ?_⟩
  ·intro y0 y1 y2 y3 y4 y5 y6 y7; unfold impl_valueOk.f
   repeat' first
   | (with_reducible exact ih0 _ _ _ _ _ _ _ _)
   | (with_reducible exact ih1 _ _ _ _ _ _ _ _ _)
   | (with_reducible exact ih2 _ _ _ _ _ _ _ _ _ _)
   | (with_reducible exact ih3 _ _ _ _ _ _ _ _ _ _ _)
   | (with_reducible exact ih4 _ _ _)
   | (with_reducible exact ih5 _ _ _ _ _ _ _ _)
   | (with_reducible exact ih6 _ _ _)
   | (with_reducible exact ih7 _ _ _ _ _)
   | (with_reducible exact impl_NameOk.mono _ _ _)
   | exact lm
   | (with_reducible refine LeO.ite ?_ ?_)
   | (with_reducible refine LeO.bind ?_ (fun _ => ?_))
   | exact LeO.none _
  ·intro y0 y1 y2 y3 y4 y5 y6 y7 y8; unfold impl_valueOk.j0
   repeat' first
   | (with_reducible exact ih0 _ _ _ _ _ _ _ _)
   | (with_reducible exact ih1 _ _ _ _ _ _ _ _ _)
   | (with_reducible exact ih2 _ _ _ _ _ _ _ _ _ _)
   | (with_reducible exact ih3 _ _ _ _ _ _ _ _ _ _ _)
   | (with_reducible exact ih4 _ _ _)
   | (with_reducible exact ih5 _ _ _ _ _ _ _ _)
   | (with_reducible exact ih6 _ _ _)
   | (with_reducible exact ih7 _ _ _ _ _)
   | (with_reducible exact impl_NameOk.mono _ _ _)
   | exact lm
   | (with_reducible refine LeO.ite ?_ ?_)
   | (with_reducible refine LeO.bind ?_ (fun _ => ?_))
   | exact LeO.none _
  ·intro y0 y1 y2 y3 y4 y5 y6 y7 y8 y9; unfold impl_valueOk.j1
   repeat' first
   | (with_reducible exact ih0 _ _ _ _ _ _ _ _)
   | (with_reducible exact ih1 _ _ _ _ _ _ _ _ _)
   | (with_reducible exact ih2 _ _ _ _ _ _ _ _ _ _)
   | (with_reducible exact ih3 _ _ _ _ _ _ _ _ _ _ _)
   | (with_reducible exact ih4 _ _ _)
   | (with_reducible exact ih5 _ _ _ _ _ _ _ _)
   | (with_reducible exact ih6 _ _ _)
   | (with_reducible exact ih7 _ _ _ _ _)
   | (with_reducible exact impl_NameOk.mono _ _ _)
   | exact lm
   | (with_reducible refine LeO.ite ?_ ?_)
   | (with_reducible refine LeO.bind ?_ (fun _ => ?_))
   | exact LeO.none _
  ·intro y0 y1 y2 y3 y4 y5 y6 y7 y8 y9 y10; unfold impl_valueOk.l0
   repeat' first
   | (with_reducible exact ih0 _ _ _ _ _ _ _ _)
   | (with_reducible exact ih1 _ _ _ _ _ _ _ _ _)
   | (with_reducible exact ih2 _ _ _ _ _ _ _ _ _ _)
   | (with_reducible exact ih3 _ _ _ _ _ _ _ _ _ _ _)
   | (with_reducible exact ih4 _ _ _)
   | (with_reducible exact ih5 _ _ _ _ _ _ _ _)
   | (with_reducible exact ih6 _ _ _)
   | (with_reducible exact ih7 _ _ _ _ _)
   | (with_reducible exact impl_NameOk.mono _ _ _)
   | exact lm
   | (with_reducible refine LeO.ite ?_ ?_)
   | (with_reducible refine LeO.bind ?_ (fun _ => ?_))
   | exact LeO.none _
  ·intro y0 y1 y2; unfold impl_Value_37_at_valueOk_1.f
   repeat' first
   | (with_reducible exact ih0 _ _ _ _ _ _ _ _)
   | (with_reducible exact ih1 _ _ _ _ _ _ _ _ _)
   | (with_reducible exact ih2 _ _ _ _ _ _ _ _ _ _)
   | (with_reducible exact ih3 _ _ _ _ _ _ _ _ _ _ _)
   | (with_reducible exact ih4 _ _ _)
   | (with_reducible exact ih5 _ _ _ _ _ _ _ _)
   | (with_reducible exact ih6 _ _ _)
   | (with_reducible exact ih7 _ _ _ _ _)
   | (with_reducible exact impl_NameOk.mono _ _ _)
   | exact lm
   | (with_reducible refine LeO.ite ?_ ?_)
   | (with_reducible refine LeO.bind ?_ (fun _ => ?_))
   | exact LeO.none _
  ·intro y0 y1 y2 y3 y4 y5 y6 y7; unfold impl_valueOk_1.f
   repeat' first
   | (with_reducible exact ih0 _ _ _ _ _ _ _ _)
   | (with_reducible exact ih1 _ _ _ _ _ _ _ _ _)
   | (with_reducible exact ih2 _ _ _ _ _ _ _ _ _ _)
   | (with_reducible exact ih3 _ _ _ _ _ _ _ _ _ _ _)
   | (with_reducible exact ih4 _ _ _)
   | (with_reducible exact ih5 _ _ _ _ _ _ _ _)
   | (with_reducible exact ih6 _ _ _)
   | (with_reducible exact ih7 _ _ _ _ _)
   | (with_reducible exact impl_NameOk.mono _ _ _)
   | exact lm
   | (with_reducible refine LeO.ite ?_ ?_)
   | (with_reducible refine LeO.bind ?_ (fun _ => ?_))
   | exact LeO.none _
  ·intro y0 y1 y2; unfold impl_Value_55_at_valueOk_1.f
   repeat' first
   | (with_reducible exact ih0 _ _ _ _ _ _ _ _)
   | (with_reducible exact ih1 _ _ _ _ _ _ _ _ _)
   | (with_reducible exact ih2 _ _ _ _ _ _ _ _ _ _)
   | (with_reducible exact ih3 _ _ _ _ _ _ _ _ _ _ _)
   | (with_reducible exact ih4 _ _ _)
   | (with_reducible exact ih5 _ _ _ _ _ _ _ _)
   | (with_reducible exact ih6 _ _ _)
   | (with_reducible exact ih7 _ _ _ _ _)
   | (with_reducible exact impl_NameOk.mono _ _ _)
   | exact lm
   | (with_reducible refine LeO.ite ?_ ?_)
   | (with_reducible refine LeO.bind ?_ (fun _ => ?_))
   | exact LeO.none _
  ·intro y0 y1 y2 y3 y4; unfold impl_Value_55_at_valueOk_1.l0
   repeat' first
   | (with_reducible exact ih0 _ _ _ _ _ _ _ _)
   | (with_reducible exact ih1 _ _ _ _ _ _ _ _ _)
   | (with_reducible exact ih2 _ _ _ _ _ _ _ _ _ _)
   | (with_reducible exact ih3 _ _ _ _ _ _ _ _ _ _ _)
   | (with_reducible exact ih4 _ _ _)
   | (with_reducible exact ih5 _ _ _ _ _ _ _ _)
   | (with_reducible exact ih6 _ _ _)
   | (with_reducible exact ih7 _ _ _ _ _)
   | (with_reducible exact impl_NameOk.mono _ _ _)
   | exact lm
   | (with_reducible refine LeO.ite ?_ ?_)
   | (with_reducible refine LeO.bind ?_ (fun _ => ?_))
   | exact LeO.none _
theorem impl_valueOk.mono : ∀ a0 a1 a2 a3 a4 a5 a6 a7 k, LeO (impl_valueOk.f k a0 a1 a2 a3 a4 a5 a6 a7) (impl_valueOk.f (k + 1) a0 a1 a2 a3 a4 a5 a6 a7) := fun a0 a1 a2 a3 a4 a5 a6 a7 k => (impl_valueOk.G.mono_l k).1 a0 a1 a2 a3 a4 a5 a6 a7
theorem impl_Value_37_at_valueOk_1.mono : ∀ a0 a1 a2 k, LeO (impl_Value_37_at_valueOk_1.f k a0 a1 a2) (impl_Value_37_at_valueOk_1.f (k + 1) a0 a1 a2) := fun a0 a1 a2 k => (impl_valueOk.G.mono_l k).2.2.2.2.1 a0 a1 a2
theorem impl_valueOk_1.mono : ∀ a0 a1 a2 a3 a4 a5 a6 a7 k, LeO (impl_valueOk_1.f k a0 a1 a2 a3 a4 a5 a6 a7) (impl_valueOk_1.f (k + 1) a0 a1 a2 a3 a4 a5 a6 a7) := fun a0 a1 a2 a3 a4 a5 a6 a7 k => (impl_valueOk.G.mono_l k).2.2.2.2.2.1 a0 a1 a2 a3 a4 a5 a6 a7
theorem impl_Value_55_at_valueOk_1.mono : ∀ a0 a1 a2 k, LeO (impl_Value_55_at_valueOk_1.f k a0 a1 a2) (impl_Value_55_at_valueOk_1.f (k + 1) a0 a1 a2) := fun a0 a1 a2 k => (impl_valueOk.G.mono_l k).2.2.2.2.2.2.1 a0 a1 a2
abbrev impl_valueOk.Spec (k : Nat) : Prop := ∀ (aa : Int) (ae : Int) (ah : Int) (ai : ByteArray) (bc : Option Addr) (aZ : Nat) (ac : List (S33)) (bO : Option Addr) (bI : Nat) (ab : List ByteArray) (a1 : Int) (A2 : Option Addr) (c2 : Nat) (l2 : List (List ByteArray)) (r : Bool) (w : World) (cK : Kd.C k33 w bc ac.length ac) (cM : ac.length ≤ aZ) (cN : Kd.C Kd.string w bO ab.length ab) (cO : ab.length ≤ bI) (hr2 : Kd.C (Kd.slice 9 Kd.string) w A2 l2.length l2) (hc2 : l2.length ≤ c2) (hg2 : A2 = some ⟨0, 0, none⟩) (h : impl_valueOk.f k aa ae ah ai ac ab a1 l2 = some r),
  Calls Tryd.prog 24 #[.agg #[.int .i64 aa, .int .i64 ae, .int .i64 ah, .string ai, .slice bc ac.length aZ, .slice bO ab.length bI], .int .i64 a1] w fun e w' => e = .returned (.bool r) ∧ Below w.heap.size w w'
abbrev impl_Value_37_at_valueOk_1.Spec (k : Nat) : Prop := ∀ (A0 : Option Addr) (c0 : Nat) (l0 : List (S33))  (A2 : Option Addr) (c2 : Nat) (l2 : List (List ByteArray)) (A3 : Option Addr) (c3 : Nat) (l3 : List Int) (r : Bool) (w : World) (hr0 : Kd.C k33 w A0 l0.length l0) (hc0 : l0.length ≤ c0) (hr2 : Kd.C (Kd.slice 9 Kd.string) w A2 l2.length l2) (hc2 : l2.length ≤ c2) (hr3 : Kd.C (Kd.int .i64) w A3 l3.length l3) (hc3 : l3.length ≤ c3) (hg2 : A2 = some ⟨0, 0, none⟩) (h : impl_Value_37_at_valueOk_1.f k l0 l2 l3 = some r),
  Calls Tryd.prog 37 #[.slice A0 l0.length c0, .func (.func 38) #[] #[.pointer A3]] w fun e w' => e = .returned (.bool r) ∧ Below w.heap.size w w'
abbrev impl_valueOk_1.Spec (k : Nat) : Prop := ∀ (aa : Int) (ae : Int) (ah : Int) (ai : ByteArray) (bc : Option Addr) (aZ : Nat) (ac : List (S33)) (bO : Option Addr) (bI : Nat) (ab : List ByteArray) (A1 : Option Addr) (c1 : Nat) (l1 : List (List ByteArray)) (A2 : Option Addr) (c2 : Nat) (l2 : List Int) (r : Bool) (w : World) (cK : Kd.C k33 w bc ac.length ac) (cM : ac.length ≤ aZ) (cN : Kd.C Kd.string w bO ab.length ab) (cO : ab.length ≤ bI) (hr1 : Kd.C (Kd.slice 9 Kd.string) w A1 l1.length l1) (hc1 : l1.length ≤ c1) (hr2 : Kd.C (Kd.int .i64) w A2 l2.length l2) (hc2 : l2.length ≤ c2) (hg1 : A1 = some ⟨0, 0, none⟩) (h : impl_valueOk_1.f k aa ae ah ai ac ab l1 l2 = some r),
  Calls Tryd.prog 38 #[.agg #[.int .i64 aa, .int .i64 ae, .int .i64 ah, .string ai, .slice bc ac.length aZ, .slice bO ab.length bI], .pointer A2] w fun e w' => e = .returned (.bool r) ∧ Below w.heap.size w w'
abbrev impl_Value_55_at_valueOk_1.Spec (k : Nat) : Prop := ∀ (A0 : Option Addr) (c0 : Nat) (l0 : List (S33))  (A2 : Option Addr) (c2 : Nat) (l2 : List (List ByteArray)) (A3 : Option Addr) (c3 : Nat) (l3 : List Int) (r : Int) (w : World) (hr0 : Kd.C k33 w A0 l0.length l0) (hc0 : l0.length ≤ c0) (hr2 : Kd.C (Kd.slice 9 Kd.string) w A2 l2.length l2) (hc2 : l2.length ≤ c2) (hr3 : Kd.C (Kd.int .i64) w A3 l3.length l3) (hc3 : l3.length ≤ c3) (hg2 : A2 = some ⟨0, 0, none⟩) (h : impl_Value_55_at_valueOk_1.f k l0 l2 l3 = some r),
  Calls Tryd.prog 55 #[.slice A0 l0.length c0, .func (.func 38) #[] #[.pointer A3]] w fun e w' => e = .returned (.int .i64 r) ∧ Below w.heap.size w w'
set_option maxHeartbeats 8000000 in
set_option maxRecDepth 100000 in
theorem impl_valueOk.step (k : Nat) (ih_impl_valueOk : ∀ m, m < k → impl_valueOk.Spec m) (ih_impl_Value_37_at_valueOk_1 : ∀ m, m < k → impl_Value_37_at_valueOk_1.Spec m) (ih_impl_valueOk_1 : ∀ m, m < k → impl_valueOk_1.Spec m) (ih_impl_Value_55_at_valueOk_1 : ∀ m, m < k → impl_Value_55_at_valueOk_1.Spec m) : impl_valueOk.Spec k := by
 intro aa ae ah ai bc aZ ac bO bI ab a1 A2 c2 l2 r w cK cM cN cO hr2 hc2 hg2 h
 cases k with
 | zero => exact absurd h (by simp [impl_valueOk.f])
 | succ k =>
 simp only [impl_valueOk.f] at h; have m0 := Tryd.underlying33; have sn := Tryd.underlying30; have dx := zA cK; have eg := zA cM; clear cK cM; have di := zA cN; have em := zA cO; clear cN cO; have HG2 := zA hg2; clear hg2; have HR2 := zA hr2; have HC2 := zA hc2; clear hr2 hc2; have HB := zA (yG w.heap.size w); have H : (if a1 = 0 then (impl_valueOk.j0 k true l2 aa ae ah ai ac ab a1) else (if aa = 3 then (if aa = 4 then (if aa < 5 then (if (ac.length : Int) > 0 then (impl_valueOk.j0 k true l2 aa ae ah ai ac ab a1) else (if aa = 6 then (impl_valueOk.j0 k false l2 aa ae ah ai ac ab a1) else (impl_valueOk.j0 k (decide ((ab.length : Int) > 0)) l2 aa ae ah ai ac ab a1))) else (if aa = 6 then (impl_valueOk.j0 k false l2 aa ae ah ai ac ab a1) else (impl_valueOk.j0 k (decide ((ab.length : Int) > 0)) l2 aa ae ah ai ac ab a1))) else (if ai.toList = ([] : List UInt8) then (if aa < 5 then (if (ac.length : Int) > 0 then (impl_valueOk.j0 k true l2 aa ae ah ai ac ab a1) else (if aa = 6 then (impl_valueOk.j0 k false l2 aa ae ah ai ac ab a1) else (impl_valueOk.j0 k (decide ((ab.length : Int) > 0)) l2 aa ae ah ai ac ab a1))) else (if aa = 6 then (impl_valueOk.j0 k false l2 aa ae ah ai ac ab a1) else (impl_valueOk.j0 k (decide ((ab.length : Int) > 0)) l2 aa ae ah ai ac ab a1))) else (impl_valueOk.j0 k true l2 aa ae ah ai ac ab a1))) else (if (!(ae == 0) || (!(ah == 0))) = true then (impl_valueOk.j0 k true l2 aa ae ah ai ac ab a1) else (if aa = 4 then (if aa < 5 then (if (ac.length : Int) > 0 then (impl_valueOk.j0 k true l2 aa ae ah ai ac ab a1) else (if aa = 6 then (impl_valueOk.j0 k false l2 aa ae ah ai ac ab a1) else (impl_valueOk.j0 k (decide ((ab.length : Int) > 0)) l2 aa ae ah ai ac ab a1))) else (if aa = 6 then (impl_valueOk.j0 k false l2 aa ae ah ai ac ab a1) else (impl_valueOk.j0 k (decide ((ab.length : Int) > 0)) l2 aa ae ah ai ac ab a1))) else (if ai.toList = ([] : List UInt8) then (if aa < 5 then (if (ac.length : Int) > 0 then (impl_valueOk.j0 k true l2 aa ae ah ai ac ab a1) else (if aa = 6 then (impl_valueOk.j0 k false l2 aa ae ah ai ac ab a1) else (impl_valueOk.j0 k (decide ((ab.length : Int) > 0)) l2 aa ae ah ai ac ab a1))) else (if aa = 6 then (impl_valueOk.j0 k false l2 aa ae ah ai ac ab a1) else (impl_valueOk.j0 k (decide ((ab.length : Int) > 0)) l2 aa ae ah ai ac ab a1))) else (impl_valueOk.j0 k true l2 aa ae ah ai ac ab a1)))))) = some r := h; clear h; have HC4 := zA H; clear H; go_enter Tryd.func24, Tryd.ntmps24; go_upto_region 1 with (first | ((with_reducible refine zT (N := 2) rfl ?_); (try (refine gate_guard (by rfl) ?_; dsimp only)); refine zW (by rfl) (N := 2) (by rfl) (cs := #[.int .i64 aa, .int .i64 ae, .int .i64 ah, .string ai, .slice bc ac.length aZ, .slice bO ab.length bI]) (t := 33) apF ?_; intro KC hg w5 hbox hb; have bV := zA (hbox); have GW463 := zA (gwl hg (zR apA)); have dz := zA (gwl hg (zR apA)); replace HB := zA (zQ apA hb); clear hb hbox hg) | ((with_reducible refine zT (N := 3) rfl ?_); (try (refine gate_guard (by rfl) ?_; dsimp only)); refine zW (by rfl) (N := 3) (by rfl) (cs := #[.int .i64 a1]) (t := 3) apF ?_; intro uk hg w6 hbox hb; have ck := zA (hbox); have GW464 := zA (gwl hg (zR apBK)); have dy := zA (gwl hg (zR apBK)); replace HB := zA (zQ apBK hb); have bF := zA (nbl hg (vwB bV.out)); have bG := zA bF.out.symm; replace bV := zA (zP (vwB bV.out) hb); clear hb hbox hg))
 (try simp only [Act.put, zL, zM, zN])
 go_cut [51] (fun v51 wc => ∃ (kq : Nat) (DI : Bool), v51 = .bool DI ∧ Aside0 (impl_valueOk.j0 kq DI l2 aa ae ah ai ac ab a1 = some r) ∧ Aside0 (kq ≤ k) ∧ Aside0 (wc.heap[KC]? = some (.cells #[.int .i64 aa, .int .i64 ae, .int .i64 ah, .string ai, (.slice bc ac.length aZ), (.slice bO ab.length bI)] 33 (0, 0))) ∧ Aside0 (wc.heap[uk]? = some (.cells #[.int .i64 a1] 3 (0, 0))) ∧ Aside0 (Below w.heap.size w wc))
 case first =>
  have H := HC4.out; clear HC4; by_cases c7 : a1 = 0
  ·rw [if_pos c7] at H; have kb : (a1 == 0) = true := beq_iff_eq.mpr c7; have lZ : (a1 != 0) = false := bne_eq_false_iff_eq.mpr c7; clear c7
   (first | rw [kb] | rw [lZ] | (simp only [i64_w, i32_w]; rw [kb]) | (simp only [i64_w, i32_w]; rw [lZ]) | skip)
   have H' := zA H; clear H; have hnb8 := bG.out; have hnc8 := bF.out; obtain ⟨_, _⟩ := zb1 ck.out; go_wp2
   go_meet
   case rel => exact ⟨_, (true), apB, H', ⟨apL⟩, ⟨vwB bV.out⟩, ⟨vwB ck.out⟩, ⟨apK⟩⟩
  ·rw [if_neg c7] at H; have kb : (a1 == 0) = false := beq_eq_false_iff_ne.mpr c7; have lZ : (a1 != 0) = true := bne_iff_ne.mpr c7
   (first | rw [kb] | rw [lZ] | (simp only [i64_w, i32_w]; rw [kb]) | (simp only [i64_w, i32_w]; rw [lZ]) | skip)
   by_cases c10 : aa = 3
   ·rw [if_pos c10] at H; have ki : (aa == 3) = true := beq_iff_eq.mpr c10; have rT : (aa != 3) = false := bne_eq_false_iff_eq.mpr c10; clear c10; by_cases c11 : aa = 4
    ·rw [if_pos c11] at H; have wV : (aa == 4) = true := beq_iff_eq.mpr c11; have wW : (aa != 4) = false := bne_eq_false_iff_eq.mpr c11; clear c11; by_cases c12 : aa < 5
     ·rw [if_pos c12] at H; have BP : decide (aa < 5) = true := yD c12; clear c12; by_cases c13 : (ac.length : Int) > 0
      ·rw [if_pos c13] at H; have rV : decide (0 < (ac.length : Int)) = true := yD c13; have wX : decide (0 < ac.length) = true := yD (by omega); clear c13; have H' := zA H; clear H; have Ru := bG.out; have Rv := bF.out; obtain ⟨_, _⟩ := zb1 ck.out; obtain ⟨_, _, _, _, _, _, _, _, _, _, _, _⟩ := zb6 bV.out; go_wp2
       go_meet
       case rel => exact ⟨_, (true), apB, H', ⟨apL⟩, ⟨vwB bV.out⟩, ⟨vwB ck.out⟩, ⟨apK⟩⟩
      ·rw [if_neg c13] at H; have rV : decide (0 < (ac.length : Int)) = false := decide_eq_false c13; have wX : decide (0 < ac.length) = false := decide_eq_false (by omega); clear c13; by_cases c17 : aa = 6
       ·rw [if_pos c17] at H; have DJ : (aa == 6) = true := beq_iff_eq.mpr c17; have DK : (aa != 6) = false := bne_eq_false_iff_eq.mpr c17; clear c17; have H' := zA H; clear H; have KD := bG.out; have KE := bF.out; obtain ⟨_, _⟩ := zb1 ck.out; obtain ⟨_, _, _, _, _, _, _, _, _, _, _, _⟩ := zb6 bV.out; go_wp2
        go_meet
        case rel => exact ⟨_, (false), apB, H', ⟨apL⟩, ⟨vwB bV.out⟩, ⟨vwB ck.out⟩, ⟨apK⟩⟩
       ·rw [if_neg c17] at H; have DJ : (aa == 6) = false := beq_eq_false_iff_ne.mpr c17; have DK : (aa != 6) = true := bne_iff_ne.mpr c17; have H' := zA H; clear H; have Xi := bG.out; have Xj := bF.out; obtain ⟨_, _⟩ := zb1 ck.out; obtain ⟨_, _, _, _, _, _, _, _, _, _, _, _⟩ := zb6 bV.out; go_wp2
        go_meet
        case rel => exact ⟨_, (decide ((ab.length : Int) > 0)), apB, H', ⟨apL⟩, ⟨vwB bV.out⟩, ⟨vwB ck.out⟩, ⟨apK⟩⟩
     ·rw [if_neg c12] at H; have BP : decide (aa < 5) = false := decide_eq_false c12; clear c12; by_cases c24 : aa = 6
      ·rw [if_pos c24] at H; have lF : (aa == 6) = true := beq_iff_eq.mpr c24; have lG : (aa != 6) = false := bne_eq_false_iff_eq.mpr c24; clear c24; have H' := zA H; clear H; have BQ := bG.out; have BR := bF.out; obtain ⟨_, _⟩ := zb1 ck.out; obtain ⟨_, _, _, _, _, _, _, _, _, _, _, _⟩ := zb6 bV.out; go_wp2
       go_meet
       case rel => exact ⟨_, (false), apB, H', ⟨apL⟩, ⟨vwB bV.out⟩, ⟨vwB ck.out⟩, ⟨apK⟩⟩
      ·rw [if_neg c24] at H; have lF : (aa == 6) = false := beq_eq_false_iff_ne.mpr c24; have lG : (aa != 6) = true := bne_iff_ne.mpr c24; have H' := zA H; clear H; have Xk := bG.out; have Xl := bF.out; obtain ⟨_, _⟩ := zb1 ck.out; obtain ⟨_, _, _, _, _, _, _, _, _, _, _, _⟩ := zb6 bV.out; go_wp2
       go_meet
       case rel => exact ⟨_, (decide ((ab.length : Int) > 0)), apB, H', ⟨apL⟩, ⟨vwB bV.out⟩, ⟨vwB ck.out⟩, ⟨apK⟩⟩
    ·rw [if_neg c11] at H; have wV : (aa == 4) = false := beq_eq_false_iff_ne.mpr c11; have wW : (aa != 4) = true := bne_iff_ne.mpr c11; by_cases c31 : ai.toList = ([] : List UInt8)
     ·rw [if_pos c31] at H; have lC : (ai.toList == ([] : List UInt8)) = true := beq_iff_eq.mpr c31; have oG : (ai.toList != ([] : List UInt8)) = false := bne_eq_false_iff_eq.mpr c31; clear c31; by_cases c32 : aa < 5
      ·rw [if_pos c32] at H; have rX : decide (aa < 5) = true := yD c32; clear c32; by_cases c33 : (ac.length : Int) > 0
       ·rw [if_pos c33] at H; have rY : decide (0 < (ac.length : Int)) = true := yD c33; have uf : decide (0 < ac.length) = true := yD (by omega); clear c33; have H' := zA H; clear H; have KF := bG.out; have KG := bF.out; obtain ⟨_, _⟩ := zb1 ck.out; obtain ⟨_, _, _, _, _, _, _, _, _, _, _, _⟩ := zb6 bV.out; go_wp2
        go_meet
        case rel => exact ⟨_, (true), apB, H', ⟨apL⟩, ⟨vwB bV.out⟩, ⟨vwB ck.out⟩, ⟨apK⟩⟩
       ·rw [if_neg c33] at H; have rY : decide (0 < (ac.length : Int)) = false := decide_eq_false c33; have uf : decide (0 < ac.length) = false := decide_eq_false (by omega); clear c33; by_cases c37 : aa = 6
        ·rw [if_pos c37] at H; have m2 : (aa == 6) = true := beq_iff_eq.mpr c37; have pf : (aa != 6) = false := bne_eq_false_iff_eq.mpr c37; clear c37; have H' := zA H; clear H; have Xm := bG.out; have Xn := bF.out; obtain ⟨_, _⟩ := zb1 ck.out; obtain ⟨_, _, _, _, _, _, _, _, _, _, _, _⟩ := zb6 bV.out; go_wp2
         go_meet
         case rel => exact ⟨_, (false), apB, H', ⟨apL⟩, ⟨vwB bV.out⟩, ⟨vwB ck.out⟩, ⟨apK⟩⟩
        ·rw [if_neg c37] at H; have m2 : (aa == 6) = false := beq_eq_false_iff_ne.mpr c37; have pf : (aa != 6) = true := bne_iff_ne.mpr c37; have H' := zA H; clear H; have Rw := bG.out; have Rx := bF.out; obtain ⟨_, _⟩ := zb1 ck.out; obtain ⟨_, _, _, _, _, _, _, _, _, _, _, _⟩ := zb6 bV.out; go_wp2
         go_meet
         case rel => exact ⟨_, (decide ((ab.length : Int) > 0)), apB, H', ⟨apL⟩, ⟨vwB bV.out⟩, ⟨vwB ck.out⟩, ⟨apK⟩⟩
      ·rw [if_neg c32] at H; have rX : decide (aa < 5) = false := decide_eq_false c32; clear c32; by_cases c44 : aa = 6
       ·rw [if_pos c44] at H; have BS : (aa == 6) = true := beq_iff_eq.mpr c44; have DL : (aa != 6) = false := bne_eq_false_iff_eq.mpr c44; clear c44; have H' := zA H; clear H; have Ry := bG.out; have Rz := bF.out; obtain ⟨_, _⟩ := zb1 ck.out; obtain ⟨_, _, _, _, _, _, _, _, _, _, _, _⟩ := zb6 bV.out; go_wp2
        go_meet
        case rel => exact ⟨_, (false), apB, H', ⟨apL⟩, ⟨vwB bV.out⟩, ⟨vwB ck.out⟩, ⟨apK⟩⟩
       ·rw [if_neg c44] at H; have BS : (aa == 6) = false := beq_eq_false_iff_ne.mpr c44; have DL : (aa != 6) = true := bne_iff_ne.mpr c44; have H' := zA H; clear H; have RA := bG.out; have RB := bF.out; obtain ⟨_, _⟩ := zb1 ck.out; obtain ⟨_, _, _, _, _, _, _, _, _, _, _, _⟩ := zb6 bV.out; go_wp2
        go_meet
        case rel => exact ⟨_, (decide ((ab.length : Int) > 0)), apB, H', ⟨apL⟩, ⟨vwB bV.out⟩, ⟨vwB ck.out⟩, ⟨apK⟩⟩
     ·rw [if_neg c31] at H; have lC : (ai.toList == ([] : List UInt8)) = false := beq_eq_false_iff_ne.mpr c31; have oG : (ai.toList != ([] : List UInt8)) = true := bne_iff_ne.mpr c31; have H' := zA H; clear H; have Xo := bG.out; have Xp := bF.out; obtain ⟨_, _⟩ := zb1 ck.out; obtain ⟨_, _, _, _, _, _, _, _, _, _, _, _⟩ := zb6 bV.out; go_wp2
      go_meet
      case rel => exact ⟨_, (true), apB, H', ⟨apL⟩, ⟨vwB bV.out⟩, ⟨vwB ck.out⟩, ⟨apK⟩⟩
   ·rw [if_neg c10] at H; have ki : (aa == 3) = false := beq_eq_false_iff_ne.mpr c10; have rT : (aa != 3) = true := bne_iff_ne.mpr c10; by_cases c54 : (!(ae == 0) || (!(ah == 0))) = true
    ·rw [if_pos c54] at H; have DM : (!(ae == 0) || (!(ah == 0))) = true := c54; clear c54; have H' := zA H; clear H; have hnb55 := bG.out; have hnc55 := bF.out; obtain ⟨_, _⟩ := zb1 ck.out; obtain ⟨_, _, _, _, _, _, _, _, _, _, _, _⟩ := zb6 bV.out; go_wp2
     go_meet
     case rel => exact ⟨_, (true), apB, H', ⟨apL⟩, ⟨vwB bV.out⟩, ⟨vwB ck.out⟩, ⟨apK⟩⟩
    ·rw [if_neg c54] at H
     have DM : (!(ae == 0) || (!(ah == 0))) = false := by simpa using c54
     clear c54; by_cases c58 : aa = 4
     ·rw [if_pos c58] at H; have DN : (aa == 4) = true := beq_iff_eq.mpr c58; have DO : (aa != 4) = false := bne_eq_false_iff_eq.mpr c58; clear c58; by_cases c59 : aa < 5
      ·rw [if_pos c59] at H; have DP : decide (aa < 5) = true := yD c59; clear c59; by_cases c60 : (ac.length : Int) > 0
       ·rw [if_pos c60] at H; have DQ : decide (0 < (ac.length : Int)) = true := yD c60; have DR : decide (0 < ac.length) = true := yD (by omega); clear c60; have H' := zA H; clear H; have RC := bG.out; have RD := bF.out; obtain ⟨_, _⟩ := zb1 ck.out; obtain ⟨_, _, _, _, _, _, _, _, _, _, _, _⟩ := zb6 bV.out; go_wp2
        go_meet
        case rel => exact ⟨_, (true), apB, H', ⟨apL⟩, ⟨vwB bV.out⟩, ⟨vwB ck.out⟩, ⟨apK⟩⟩
       ·rw [if_neg c60] at H; have DQ : decide (0 < (ac.length : Int)) = false := decide_eq_false c60; have DR : decide (0 < ac.length) = false := decide_eq_false (by omega); clear c60; by_cases c64 : aa = 6
        ·rw [if_pos c64] at H; have wZ : (aa == 6) = true := beq_iff_eq.mpr c64; have x2 : (aa != 6) = false := bne_eq_false_iff_eq.mpr c64; clear c64; have H' := zA H; clear H; have hnb65 := bG.out; have hnc65 := bF.out; obtain ⟨_, _⟩ := zb1 ck.out; obtain ⟨_, _, _, _, _, _, _, _, _, _, _, _⟩ := zb6 bV.out; go_wp2
         go_meet
         case rel => exact ⟨_, (false), apB, H', ⟨apL⟩, ⟨vwB bV.out⟩, ⟨vwB ck.out⟩, ⟨apK⟩⟩
        ·rw [if_neg c64] at H; have wZ : (aa == 6) = false := beq_eq_false_iff_ne.mpr c64; have x2 : (aa != 6) = true := bne_iff_ne.mpr c64; have H' := zA H; clear H; have Xq := bG.out; have Xr := bF.out; obtain ⟨_, _⟩ := zb1 ck.out; obtain ⟨_, _, _, _, _, _, _, _, _, _, _, _⟩ := zb6 bV.out; go_wp2
         go_meet
         case rel => exact ⟨_, (decide ((ab.length : Int) > 0)), apB, H', ⟨apL⟩, ⟨vwB bV.out⟩, ⟨vwB ck.out⟩, ⟨apK⟩⟩
      ·rw [if_neg c59] at H; have DP : decide (aa < 5) = false := decide_eq_false c59; clear c59; by_cases c71 : aa = 6
       ·rw [if_pos c71] at H; have DS : (aa == 6) = true := beq_iff_eq.mpr c71; have DT : (aa != 6) = false := bne_eq_false_iff_eq.mpr c71; clear c71; have H' := zA H; clear H; have hnb72 := bG.out; have hnc72 := bF.out; obtain ⟨_, _⟩ := zb1 ck.out; obtain ⟨_, _, _, _, _, _, _, _, _, _, _, _⟩ := zb6 bV.out; go_wp2
        go_meet
        case rel => exact ⟨_, (false), apB, H', ⟨apL⟩, ⟨vwB bV.out⟩, ⟨vwB ck.out⟩, ⟨apK⟩⟩
       ·rw [if_neg c71] at H; have DS : (aa == 6) = false := beq_eq_false_iff_ne.mpr c71; have DT : (aa != 6) = true := bne_iff_ne.mpr c71; have H' := zA H; clear H; have Xs := bG.out; have Xt := bF.out; obtain ⟨_, _⟩ := zb1 ck.out; obtain ⟨_, _, _, _, _, _, _, _, _, _, _, _⟩ := zb6 bV.out; go_wp2
        go_meet
        case rel => exact ⟨_, (decide ((ab.length : Int) > 0)), apB, H', ⟨apL⟩, ⟨vwB bV.out⟩, ⟨vwB ck.out⟩, ⟨apK⟩⟩
     ·rw [if_neg c58] at H; have DN : (aa == 4) = false := beq_eq_false_iff_ne.mpr c58; have DO : (aa != 4) = true := bne_iff_ne.mpr c58; by_cases c78 : ai.toList = ([] : List UInt8)
      ·rw [if_pos c78] at H; have DU : (ai.toList == ([] : List UInt8)) = true := beq_iff_eq.mpr c78; have DV : (ai.toList != ([] : List UInt8)) = false := bne_eq_false_iff_eq.mpr c78; clear c78; by_cases c79 : aa < 5
       ·rw [if_pos c79] at H; have DW : decide (aa < 5) = true := yD c79; clear c79; by_cases c80 : (ac.length : Int) > 0
        ·rw [if_pos c80] at H; have DX : decide (0 < (ac.length : Int)) = true := yD c80; have DY : decide (0 < ac.length) = true := yD (by omega); clear c80; have H' := zA H; clear H; have Xu := bG.out; have Xv := bF.out; obtain ⟨_, _⟩ := zb1 ck.out; obtain ⟨_, _, _, _, _, _, _, _, _, _, _, _⟩ := zb6 bV.out; go_wp2
         go_meet
         case rel => exact ⟨_, (true), apB, H', ⟨apL⟩, ⟨vwB bV.out⟩, ⟨vwB ck.out⟩, ⟨apK⟩⟩
        ·rw [if_neg c80] at H; have DX : decide (0 < (ac.length : Int)) = false := decide_eq_false c80; have DY : decide (0 < ac.length) = false := decide_eq_false (by omega); clear c80; by_cases c84 : aa = 6
         ·rw [if_pos c84] at H; have DZ : (aa == 6) = true := beq_iff_eq.mpr c84; have E0 : (aa != 6) = false := bne_eq_false_iff_eq.mpr c84; clear c84; have H' := zA H; clear H; have hnb85 := bG.out; have hnc85 := bF.out; obtain ⟨_, _⟩ := zb1 ck.out; obtain ⟨_, _, _, _, _, _, _, _, _, _, _, _⟩ := zb6 bV.out; go_wp2
          go_meet
          case rel => exact ⟨_, (false), apB, H', ⟨apL⟩, ⟨vwB bV.out⟩, ⟨vwB ck.out⟩, ⟨apK⟩⟩
         ·rw [if_neg c84] at H; have DZ : (aa == 6) = false := beq_eq_false_iff_ne.mpr c84; have E0 : (aa != 6) = true := bne_iff_ne.mpr c84; have H' := zA H; clear H; have Xw := bG.out; have Xx := bF.out; obtain ⟨_, _⟩ := zb1 ck.out; obtain ⟨_, _, _, _, _, _, _, _, _, _, _, _⟩ := zb6 bV.out; go_wp2
          go_meet
          case rel => exact ⟨_, (decide ((ab.length : Int) > 0)), apB, H', ⟨apL⟩, ⟨vwB bV.out⟩, ⟨vwB ck.out⟩, ⟨apK⟩⟩
       ·rw [if_neg c79] at H; have DW : decide (aa < 5) = false := decide_eq_false c79; clear c79; by_cases c91 : aa = 6
        ·rw [if_pos c91] at H; have BT : (aa == 6) = true := beq_iff_eq.mpr c91; have BU : (aa != 6) = false := bne_eq_false_iff_eq.mpr c91; clear c91; have H' := zA H; clear H; have hnb92 := bG.out; have hnc92 := bF.out; obtain ⟨_, _⟩ := zb1 ck.out; obtain ⟨_, _, _, _, _, _, _, _, _, _, _, _⟩ := zb6 bV.out; go_wp2
         go_meet
         case rel => exact ⟨_, (false), apB, H', ⟨apL⟩, ⟨vwB bV.out⟩, ⟨vwB ck.out⟩, ⟨apK⟩⟩
        ·rw [if_neg c91] at H; have BT : (aa == 6) = false := beq_eq_false_iff_ne.mpr c91; have BU : (aa != 6) = true := bne_iff_ne.mpr c91; have H' := zA H; clear H; have hnb95 := bG.out; have hnc95 := bF.out; obtain ⟨_, _⟩ := zb1 ck.out; obtain ⟨_, _, _, _, _, _, _, _, _, _, _, _⟩ := zb6 bV.out; go_wp2
         go_meet
         case rel => exact ⟨_, (decide ((ab.length : Int) > 0)), apB, H', ⟨apL⟩, ⟨vwB bV.out⟩, ⟨vwB ck.out⟩, ⟨apK⟩⟩
      ·rw [if_neg c78] at H; have DU : (ai.toList == ([] : List UInt8)) = false := beq_eq_false_iff_ne.mpr c78; have DV : (ai.toList != ([] : List UInt8)) = true := bne_iff_ne.mpr c78; have H' := zA H; clear H; have hnb98 := bG.out; have hnc98 := bF.out; obtain ⟨_, _⟩ := zb1 ck.out; obtain ⟨_, _, _, _, _, _, _, _, _, _, _, _⟩ := zb6 bV.out; go_wp2
       go_meet
       case rel => exact ⟨_, (true), apB, H', ⟨apL⟩, ⟨vwB bV.out⟩, ⟨vwB ck.out⟩, ⟨apK⟩⟩
 case rest =>
  clear HC4; (try clear c1 c2 p2 c3 c4 c5 c6 c7 c8 c9 c10 ki rT c11 wV wW c12 BP c17 DJ DK c21 c24 lF lG c25 c28 c31 lC oG c32 rX c33 rY uf c34 c37 m2 pf c38 c41 c44 BS DL c45 c48 c51 c54 DM c55 c58 DN DO c59 DP c60 DQ DR c61 c64 wZ x2 c65 c68 c71 DS DT c72 c75 c78 DU DV c79 DW c80 DX DY c81 c84 DZ E0 c85 c88 c91 BT BU c92 c95 c98 ul um un uo uq ur nc sw sx sy sA sB sC sD nf sE sF sG sH sI sJ pg ng nh ni nj nl nm sK yl ym yn yo yp yq E1 yr yt yu yv yw yx ph E2 E3 E4 E5 E6 E7 sL E8 E9 Ea Eb Ec Ed sM Ee Ef Eg Eh Ei Ej Ek El Em En Eo Ep Eq Er Es Et Eu Ew Ex Ey Ez EA EB EC ED EE EF EG EH EI EJ EK EL EM EN EO EP EQ ER ES ET EU EV EW EX EY EZ F0 F1 F2 F3 F4 F5 F6 F7 yy F8 F9 Fa Fb Fc Fd Fe Ff Fg Fh Fi Fj Fk Fl Fm Fo Fp Fq Fr Fs Ft Fu Fv Fw Fx Fy Fz FA FB FC FD FE FF FG FH us ut uu uv uw ux nn np nq nt nu nv sN sO sP sQ sR sT sU nw sV sW sX sY sZ t0 pi nx ny nz nA nB nC t1 yz z1 z2 z3 z4 z5 FI z6 z7 z8 z9 za zb pj FJ FL FM FN FO FP t2 FQ FR FS FT FU FV t3 FW FX FY FZ G0 G1 G2 G3 G4 G5 G6 G7 G8 G9 Ga Gb Gc Gd Ge Gf Gg Gh Gi Gj Gk Gl Gm Gn Gp Gq Gr Gs Gt Gu Gv Gw Gx Gy Gz GA GB GC GD GE GF GG GH GI GJ GK GL GM GN GO GP zc GQ GR GS GT GU GV GW GX GY GZ H0 H2 H3 H4 H5 H6 H7 H8 H9 Ha Hb Hc Hd He Hf Hg Hh Hi Hj Hk Hl Hm Hn Ho Hp); obtain ⟨kq, DI, rfl, HA, HJ3, bV, ck, HB⟩ := hcut
  cases kq with
  | zero => exact absurd HA.out (by simp [impl_valueOk.j0])
  | succ kj3 =>
   have H := HA.out; clear HA; simp only [impl_valueOk.j0] at H; by_cases JI : DI = true
   ·subst JI; have H1 := H; rw [if_pos rfl] at H1; clear H; have H := H1; clear H1; obtain rfl := yF H; go_wp2
    go_ret
    exact ⟨apE, apK⟩
   ·replace JI := Bool.eq_false_iff.mpr JI; subst JI; have H1 := H; rw [if_neg (show ¬ (false = true) by decide)] at H1; clear H; have H := H1; clear H1; have KH := zA H; clear H; have KI := bF.out; have KJ := bG.out; obtain ⟨_, _, _, _, _, _, _, _, _, _, _, _⟩ := zb6 bV.out; go_upto_if 54 with (fail)
    go_cut [54] (fun v54 wc => ∃ (kq : Nat) (t4 : Bool), v54 = .bool t4 ∧ Aside0 (impl_valueOk.j1 kq aa t4 l2 aa ae ah ai ac ab a1 = some r) ∧ Aside0 (kq ≤ kj3) ∧ Aside0 (wc.heap[KC]? = some (.cells #[.int .i64 aa, .int .i64 ae, .int .i64 ah, .string ai, (.slice bc ac.length aZ), (.slice bO ab.length bI)] 33 (0, 0))) ∧ Aside0 (wc.heap[uk]? = some (.cells #[.int .i64 a1] 3 (0, 0))) ∧ Aside0 (Below w.heap.size w wc))
    case first =>
     have H := KH.out; clear KH; by_cases wG : aa = 0
     ·rw [if_pos wG] at H; have oO : (aa == 0) = true := beq_iff_eq.mpr wG; have oP : (aa != 0) = false := bne_eq_false_iff_eq.mpr wG; clear wG
      (first | rw [oO] | rw [oP] | (simp only [i64_w, i32_w]; rw [oO]) | (simp only [i64_w, i32_w]; rw [oP]) | skip)
      have H' := zA H; clear H; go_wp2
      go_meet
      case rel => exact ⟨_, ((aa == 0)), apB, H', ⟨by have := HJ3.out; first | omega | exact yH _⟩, ⟨vwB bV.out⟩, ⟨vwB ck.out⟩, ⟨apK⟩⟩
     ·rw [if_neg wG] at H; have oO : (aa == 0) = false := beq_eq_false_iff_ne.mpr wG; have oP : (aa != 0) = true := bne_iff_ne.mpr wG
      (first | rw [oO] | rw [oP] | (simp only [i64_w, i32_w]; rw [oO]) | (simp only [i64_w, i32_w]; rw [oP]) | skip)
      by_cases zd : aa = 1
      ·rw [if_pos zd] at H; have CO : (aa == 1) = true := beq_iff_eq.mpr zd; have CP : (aa != 1) = false := bne_eq_false_iff_eq.mpr zd; clear zd; have H' := zA H; clear H; go_wp2
       go_meet
       case rel => exact ⟨_, ((aa == 1)), apB, H', ⟨by have := HJ3.out; first | omega | exact yH _⟩, ⟨vwB bV.out⟩, ⟨vwB ck.out⟩, ⟨apK⟩⟩
      ·rw [if_neg zd] at H; have CO : (aa == 1) = false := beq_eq_false_iff_ne.mpr zd; have CP : (aa != 1) = true := bne_iff_ne.mpr zd; by_cases ze : aa = 2
       ·rw [if_pos ze] at H; have CQ : (aa == 2) = true := beq_iff_eq.mpr ze; have CR : (aa != 2) = false := bne_eq_false_iff_eq.mpr ze; clear ze; have H' := zA H; clear H; go_wp2
        go_meet
        case rel => exact ⟨_, ((aa == 2)), apB, H', ⟨by have := HJ3.out; first | omega | exact yH _⟩, ⟨vwB bV.out⟩, ⟨vwB ck.out⟩, ⟨apK⟩⟩
       ·rw [if_neg ze] at H; have CQ : (aa == 2) = false := beq_eq_false_iff_ne.mpr ze; have CR : (aa != 2) = true := bne_iff_ne.mpr ze; have H' := zA H; clear H; go_wp2
        go_meet
        case rel => exact ⟨_, ((aa == 5)), apB, H', ⟨by have := HJ3.out; first | omega | exact yH _⟩, ⟨vwB bV.out⟩, ⟨vwB ck.out⟩, ⟨apK⟩⟩
    case rest =>
     clear KH; (try clear c1 c2 p2 c3 c4 c5 c6 c7 c8 c9 c10 ki rT c11 wV wW c12 BP c17 DJ DK c21 c24 lF lG c25 c28 c31 lC oG c32 rX c33 rY uf c34 c37 m2 pf c38 c41 c44 BS DL c45 c48 c51 c54 DM c55 c58 DN DO c59 DP c60 DQ DR c61 c64 wZ x2 c65 c68 c71 DS DT c72 c75 c78 DU DV c79 DW c80 DX DY c81 c84 DZ E0 c85 c88 c91 BT BU c92 c95 c98 JI Xy wG oO oP zd CO CP ze CQ CR ul um un uo uq ur KK KL KM KN KO KP nc sw sx sy sA sB sC sD nf sE sF sG sH sI sJ pg ng nh ni nj nl nm sK yl ym yn yo yp yq E1 yr yt yu yv yw yx ph E2 E3 E4 E5 E6 E7 sL E8 E9 Ea Eb Ec Ed sM Ee Ef Eg Eh Ei Ej Ek El Em En Eo Ep Eq Er Es Et Eu Ew Ex Ey Ez EA EB EC ED EE EF EG EH EI EJ EK EL EM EN EO EP EQ ER ES ET EU EV EW EX EY EZ F0 F1 F2 F3 F4 F5 F6 F7 yy F8 F9 Fa Fb Fc Fd Fe Ff Fg Fh Fi Fj Fk Fl Fm Fo Fp Fq Fr Fs Ft Fu Fv Fw Fx Fy Fz FA FB FC FD FE FF FG FH us ut uu uv uw ux KQ KR KS KT KU KV nn np nq nt nu nv sN sO sP sQ sR sT sU nw sV sW sX sY sZ t0 pi nx ny nz nA nB nC t1 yz z1 z2 z3 z4 z5 FI z6 z7 z8 z9 za zb pj FJ FL FM FN FO FP t2 FQ FR FS FT FU FV t3 FW FX FY FZ G0 G1 G2 G3 G4 G5 G6 G7 G8 G9 Ga Gb Gc Gd Ge Gf Gg Gh Gi Gj Gk Gl Gm Gn Gp Gq Gr Gs Gt Gu Gv Gw Gx Gy Gz GA GB GC GD GE GF GG GH GI GJ GK GL GM GN GO GP zc GQ GR GS GT GU GV GW GX GY GZ H0 H2 H3 H4 H5 H6 H7 H8 H9 Ha Hb Hc Hd He Hf Hg Hh Hi Hj Hk Hl Hm Hn Ho Hp p2); obtain ⟨kq, t4, rfl, HA, xa, bV, ck, HB⟩ := hcut
     cases kq with
     | zero => exact absurd HA.out (by simp [impl_valueOk.j1])
     | succ KW =>
      have H := HA.out; clear HA; simp only [impl_valueOk.j1] at H; by_cases JJ : t4 = true
      ·subst JJ; have H1 := H; rw [if_pos rfl] at H1; clear H; have H := H1; clear H1; replace H := Option.bind_eq_some_iff.mp H; obtain ⟨U9, RE, H⟩ := H; have A109 := zA RE; clear RE; obtain rfl := yF H; have Ud := bF.out; have Ue := bG.out; obtain ⟨_, _, _, _, _, _, _, _, _, _, _, _⟩ := zb6 bV.out; go_wp2_with (first | ((with_reducible refine zV (f := 37) rfl ?_); refine goesL_ (some 108) rfl rfl Tryd.func37 (by kernel_rfl) rfl #[.slice bc ac.length aZ, .func (.func 38) #[] #[.pointer (some ⟨uk, 0, none⟩)]] rfl apC ?_; (with_reducible refine (ih_impl_Value_37_at_valueOk_1 KW (by have := HJ3.out; have := xa.out; omega) _ _ ac A2 c2 l2 (some ⟨uk, 0, none⟩) 1 [a1] U9 _ ?side1 ?side2 ?side3 ?side4 ?side5 ?side6 ?side7 A109.out).mono ?_); (case side1 => exact vc (Kd.C_below dx.out HB.out)); (case side2 => exact eg.out); (case side3 => exact vc (Kd.C_below HR2.out HB.out)); (case side4 => exact HC2.out); (case side5 => exact cap_mk (vwB ck.out)); (case side6 => exact yH _); (case side7 => exact HG2.out); rintro e w112 ⟨rfl, hb⟩; refine ⟨_, rfl, ?_⟩; replace ck := zA (zP (vwB ck.out) hb); replace HB := zA (zQ apBD hb); (try clear hb hk hi)))
       go_ret
       exact ⟨apE, apBD⟩
      ·replace JJ := Bool.eq_false_iff.mpr JJ; subst JJ; have H1 := H; rw [if_neg (show ¬ (false = true) by decide)] at H1; clear H; have H := H1; clear H1; by_cases BV : aa = 3
       ·rw [if_pos BV] at H; have KX : (aa == 3) = true := beq_iff_eq.mpr BV; have KY : (aa != 3) = false := bne_eq_false_iff_eq.mpr BV; clear BV; replace H := Option.bind_eq_some_iff.mp H; obtain ⟨Ua, RF, H⟩ := H; have A114 := zA RF; clear RF; obtain rfl := yF H; have KZ := bF.out; have L0 := bG.out; obtain ⟨_, _, _, _, _, _, _, _, _, _, _, _⟩ := zb6 bV.out; go_wp2_with (first | ((with_reducible refine zV (f := 35) rfl ?_); refine goesL_ (some 63) rfl rfl Tryd.func35 (by kernel_rfl) rfl #[.agg #[.int .i64 ae, .int .i64 ah]] rfl apC ?_; (with_reducible refine (impl_DecOk.calls ae ah Ua _ A114.out).mono ?_); rintro e w117 ⟨rfl, hb⟩; refine ⟨_, rfl, ?_⟩; replace HB := zA (zQ apA hb); (try clear hb hk hi)))
        go_ret
        exact ⟨apE, apA⟩
       ·rw [if_neg BV] at H; have KX : (aa == 3) = false := beq_eq_false_iff_ne.mpr BV; have KY : (aa != 3) = true := bne_iff_ne.mpr BV; by_cases rG : aa = 4
        ·rw [if_pos rG] at H; have CS : (aa == 4) = true := beq_iff_eq.mpr rG; have L3 : (aa != 4) = false := bne_eq_false_iff_eq.mpr rG; clear rG; obtain rfl := yF H; have hnb119 := bF.out; have hnc119 := bG.out; obtain ⟨_, _, _, _, _, _, _, _, _, _, _, _⟩ := zb6 bV.out; go_wp2
         go_ret
         exact ⟨apE, apK⟩
        ·rw [if_neg rG] at H; have CS : (aa == 4) = false := beq_eq_false_iff_ne.mpr rG; have L3 : (aa != 4) = true := bne_iff_ne.mpr rG; by_cases zf : aa = 6
         ·rw [if_pos zf] at H; have L4 : (aa == 6) = true := beq_iff_eq.mpr zf; have L5 : (aa != 6) = false := bne_eq_false_iff_eq.mpr zf; clear zf; have H' := zA H; clear H; have hnb122 := bF.out; have hnc122 := bG.out; obtain ⟨_, _, _, _, _, _, _, _, _, _, _, _⟩ := zb6 bV.out; go_wp2
          go_loopg [75] KW (fun kq v75 w' => ∃ (dJ : Int), v75 = .int .i64 dJ ∧ Aside0 (impl_valueOk.l0 kq ab (ab.length : Int) dJ l2 aa ae ah ai ac ab a1 = some r) ∧ Aside0 (kq ≤ KW) ∧ Aside0 (w'.heap[KC]? = some (.cells #[.int .i64 aa, .int .i64 ae, .int .i64 ah, .string ai, (.slice bc ac.length aZ), (.slice bO ab.length bI)] 33 (0, 0))) ∧ Aside0 (w'.heap[uk]? = some (.cells #[.int .i64 a1] 3 (0, 0))) ∧ Aside0 (Below w.heap.size w w'))
          case atStart => exact ⟨(0), apB, H', ⟨yH _⟩, ⟨vwB bV.out⟩, ⟨vwB ck.out⟩, ⟨apK⟩⟩
          case round =>
           clear H'; (try clear c1 c2 p2 c3 c4 c5 c6 c7 c8 c9 c10 ki rT c11 wV wW c12 BP c17 DJ DK c21 c24 lF lG c25 c28 c31 lC oG c32 rX c33 rY uf c34 c35 c37 m2 pf c38 c41 c44 BS DL c45 c48 c51 c54 DM c55 c58 DN DO c59 DP c60 DQ DR c61 c64 wZ x2 c65 c68 c71 DS DT c72 c75 c78 DU DV c79 DW c80 DX DY c81 c84 DZ E0 c85 c88 c91 BT BU c92 c95 c98 JI Xy wG oO oP zd CO CP ze CQ CR JJ c110 BV KX KY c115 rG CS L3 c119 zf L4 L5 c122 ul um un uo uq ur KK KL KM KN KO KP Xz XA XB XC XD XE XF XG XH XI XJ XK XL XM XN XO XP XQ XR XS XT XU XV XW nc sw sx sy sA sB sC sD nf sE sF sG sH sI sJ pg ng nh ni nj nl nm sK yl ym yn yo yp yq E1 yr yt yu yv yw yx ph E2 E3 E4 E5 E6 E7 sL E8 E9 Ea Eb Ec Ed sM Ee Ef Eg Eh Ei Ej Ek El Em En Eo Ep Eq Er Es Et Eu Ew Ex Ey Ez EA EB EC ED EE EF EG EH EI EJ EK EL EM EN EO EP EQ ER ES ET EU EV EW EX EY EZ F0 F1 F2 F3 F4 F5 F6 F7 yy F8 F9 Fa Fb Fc Fd Fe Ff Fg Fh Fi Fj Fk Fl Fm Fo Fp Fq Fr Fs Ft Fu Fv Fw Fx Fy Fz FA FB FC FD FE FF FG FH us ut uu uv uw ux KQ KR KS KT KU KV XX XY XZ Y0 Y1 Y2 Y3 Y4 Y5 Y6 Y7 Y8 Y9 Ya Yb Yc Yd Ye Yf Yg Yh Yi Yj Yk nn np nq nt nu nv sN sO sP sQ sR sT sU nw sV sW sX sY sZ t0 pi nx ny nz nA nB nC t1 yz z1 z2 z3 z4 z5 FI z6 z7 z8 z9 za zb pj FJ FL FM FN FO FP t2 FQ FR FS FT FU FV t3 FW FX FY FZ G0 G1 G2 G3 G4 G5 G6 G7 G8 G9 Ga Gb Gc Gd Ge Gf Gg Gh Gi Gj Gk Gl Gm Gn Gp Gq Gr Gs Gt Gu Gv Gw Gx Gy Gz GA GB GC GD GE GF GG GH GI GJ GK GL GM GN GO GP zc GQ GR GS GT GU GV GW GX GY GZ H0 H2 H3 H4 H5 H6 H7 H8 H9 Ha Hb Hc Hd He Hf Hg Hh Hi Hj Hk Hl Hm Hn Ho Hp p2); obtain ⟨dJ, rfl, HA, HK3, bV, ck, HB⟩ := hrel
           cases gk with
           | zero => exact absurd HA.out (by simp [impl_valueOk.l0])
           | succ k3 =>
            have H := HA.out; clear HA; simp only [impl_valueOk.l0] at H; by_cases CT : dJ < (ab.length : Int)
            ·rw [if_pos CT] at H; have Uf : decide (dJ < (ab.length : Int)) = true := yD CT; clear CT; by_cases L6 : 0 ≤ dJ
             ·rw [if_pos L6] at H; have c125b0 : decide (0 ≤ dJ) = true := yD L6; clear L6; by_cases L7 : dJ < (ab.length : Int)
              ·rw [if_pos L7] at H; have c126b0 : decide (dJ < (ab.length : Int)) = true := yD L7; clear L7; replace H := Option.bind_eq_some_iff.mp H; obtain ⟨Ub, RG, H⟩ := H; have O9 := zA RG; clear RG; by_cases Oa : Ub = true
               ·subst Oa; have H1 := H; rw [if_pos rfl] at H1; clear H; have H := H1; clear H1; by_cases uy : dJ > 0
                ·rw [if_pos uy] at H; have Ug : decide (0 < dJ) = true := yD uy; clear uy; obtain ⟨lH, uz⟩ : ∃ j_ : Int, (wrap64 (dJ - 1)) = j_ := ⟨_, rfl⟩
                 replace H : (if 0 ≤ (lH) then (if (lH) < (ab.length : Int) then (if ((Op.bytesLess ((rdOf ByteArray.empty ab (lH)).toList) ((rdOf ByteArray.empty ab dJ).toList)) = true) then (impl_valueOk.l0 k3 ab (ab.length : Int) (wrap64 (dJ + 1)) l2 aa ae ah ai ac ab a1) else (some false)) else (none)) else (none)) = some r := by first | (rw [uz] at H; exact H) | (simp only [uz] at H ⊢; exact H)
                 (try rw [uz] at O9)
                 have hji130w : (IntKind.i64.wrap (dJ - 1)) = lH := (i64_w _).trans uz; by_cases Ob : 0 ≤ (lH)
                 ·rw [if_pos Ob] at H; have c131b0 : decide (0 ≤ (lH)) = true := yD Ob; clear Ob; by_cases Oc : (lH) < (ab.length : Int)
                  ·rw [if_pos Oc] at H; have c132b0 : decide ((lH) < (ab.length : Int)) = true := yD Oc; clear Oc; have RH := zA H; clear H; have v6 : 0 ≤ (dJ : Int) := yE apD; have vl : dJ < (ab.length : Int) := yE apD; obtain ⟨L8, L9, iv⟩ := Kd.at_string di.out dJ v6 vl; cases L9; replace iv := (HB.out.cell (zS w _ iv)).trans iv; replace v6 := eq_true v6; replace vl := eq_true vl; go_upto_if 96 with (first | ((with_reducible refine zV (f := 36) rfl ?_); refine goesL_ (some 81) rfl rfl Tryd.func36 (by kernel_rfl) rfl #[.string (rdOf ByteArray.empty ab dJ)] rfl apC ?_; (with_reducible refine (impl_NameOk.calls k3 (rdOf ByteArray.empty ab dJ) A2 c2 l2 true _ ?side1 ?side2 ?side3 O9.out).mono ?_); (case side1 => exact vc (Kd.C_below HR2.out HB.out)); (case side2 => exact HC2.out); (case side3 => exact HG2.out); rintro e w' ⟨rfl, ⟨nd, rfl⟩⟩; refine ⟨_, rfl, ?_⟩; have hnb134 := bF.out; have hnc134 := bG.out; obtain ⟨_, _, _, _, _, _, _, _, _, _, _, _⟩ := zb6 bV.out; have Uh : 0 ≤ ((lH) : Int) := yE apD; have Ui : (lH) < (ab.length : Int) := yE apD; obtain ⟨Yl, e469, zg⟩ := Kd.at_string di.out (lH) Uh Ui; obtain rfl : L8 = Yl := (by injection e469); replace zg := (HB.out.cell (zS w _ zg)).trans zg; replace Uh := eq_true Uh; replace Ui := eq_true Ui))
                   (try simp only [Act.put, zL, zM, zN])
                   have H := RH.out; clear RH; by_cases JK : ((Op.bytesLess ((rdOf ByteArray.empty ab (lH)).toList) ((rdOf ByteArray.empty ab dJ).toList)) = true)
                   ·rw [if_pos JK] at H; have vm : (Op.bytesLess ((rdOf ByteArray.empty ab (lH)).toList) ((rdOf ByteArray.empty ab dJ).toList)) = true := JK; clear JK
                    (first | rw [vm] | rw [CU] | (simp only [i64_w, i32_w]; rw [vm]) | (simp only [i64_w, i32_w]; rw [CU]) | skip)
                    have H' := zA H; clear H; go_wp2
                    go_roundg k3
                    case measure => have := HJ3.out; have := xa.out; have := HK3.out; omega
                    case rel => exact ⟨(wrap64 (dJ + 1)), apB, H', ⟨by have := HJ3.out; have := xa.out; have := HK3.out; omega⟩, ⟨vwB bV.out⟩, ⟨vwB ck.out⟩, ⟨apK⟩⟩
                   ·rw [if_neg JK] at H
                    have vm : (Op.bytesLess ((rdOf ByteArray.empty ab (lH)).toList) ((rdOf ByteArray.empty ab dJ).toList)) = false := by simpa using JK
                    clear JK
                    (first | rw [vm] | rw [CU] | (simp only [i64_w, i32_w]; rw [vm]) | (simp only [i64_w, i32_w]; rw [CU]) | skip)
                    obtain rfl := yF H; go_wp2
                    go_ret
                    exact ⟨by first | rfl | (simp [errW_none, errW_some] <;> rfl) | (simp only [← uz]; first | rfl | (simp [errW_none, errW_some] <;> rfl)) | (simp [*, errW_none, errW_some] <;> rfl), apK⟩
                  ·rw [if_neg Oc] at H; exact absurd H (by simp)
                 ·rw [if_neg Ob] at H; exact absurd H (by simp)
                ·rw [if_neg uy] at H; have Ug : decide (0 < dJ) = false := decide_eq_false uy; clear uy; have H' := zA H; clear H; have v6 : 0 ≤ (dJ : Int) := yE apD; have vl : dJ < (ab.length : Int) := yE apD; obtain ⟨L8, L9, iv⟩ := Kd.at_string di.out dJ v6 vl; cases L9; replace iv := (HB.out.cell (zS w _ iv)).trans iv; replace v6 := eq_true v6; replace vl := eq_true vl; go_wp2_with (first | ((with_reducible refine zV (f := 36) rfl ?_); refine goesL_ (some 81) rfl rfl Tryd.func36 (by kernel_rfl) rfl #[.string (rdOf ByteArray.empty ab dJ)] rfl apC ?_; (with_reducible refine (impl_NameOk.calls k3 (rdOf ByteArray.empty ab dJ) A2 c2 l2 true _ ?side1 ?side2 ?side3 O9.out).mono ?_); (case side1 => exact vc (Kd.C_below HR2.out HB.out)); (case side2 => exact HC2.out); (case side3 => exact HG2.out); rintro e w' ⟨rfl, ⟨nd, rfl⟩⟩; refine ⟨_, rfl, ?_⟩))
                 go_roundg k3
                 case measure => have := HJ3.out; have := xa.out; have := HK3.out; omega
                 case rel => exact ⟨(wrap64 (dJ + 1)), apB, H', ⟨by have := HJ3.out; have := xa.out; have := HK3.out; omega⟩, ⟨vwB bV.out⟩, ⟨vwB ck.out⟩, ⟨apK⟩⟩
               ·replace Oa := Bool.eq_false_iff.mpr Oa; subst Oa; have H1 := H; rw [if_neg (show ¬ (false = true) by decide)] at H1; clear H; have H := H1; clear H1; obtain rfl := yF H; have v6 : 0 ≤ (dJ : Int) := yE apD; have vl : dJ < (ab.length : Int) := yE apD; obtain ⟨L8, L9, iv⟩ := Kd.at_string di.out dJ v6 vl; cases L9; replace iv := (HB.out.cell (zS w _ iv)).trans iv; replace v6 := eq_true v6; replace vl := eq_true vl; go_wp2_with (first | ((with_reducible refine zV (f := 36) rfl ?_); refine goesL_ (some 81) rfl rfl Tryd.func36 (by kernel_rfl) rfl #[.string (rdOf ByteArray.empty ab dJ)] rfl apC ?_; (with_reducible refine (impl_NameOk.calls k3 (rdOf ByteArray.empty ab dJ) A2 c2 l2 false _ ?side1 ?side2 ?side3 O9.out).mono ?_); (case side1 => exact vc (Kd.C_below HR2.out HB.out)); (case side2 => exact HC2.out); (case side3 => exact HG2.out); rintro e w' ⟨rfl, ⟨nd, rfl⟩⟩; refine ⟨_, rfl, ?_⟩))
                go_ret
                exact ⟨apE, apA⟩
              ·rw [if_neg L7] at H; exact absurd H (by simp)
             ·rw [if_neg L6] at H; exact absurd H (by simp)
            ·rw [if_neg CT] at H; have Uf : decide (dJ < (ab.length : Int)) = false := decide_eq_false CT; clear CT; by_cases vn : (ab.length : Int) = (ac.length : Int)
             ·rw [if_pos vn] at H; have Uj : ((ab.length : Int) == (ac.length : Int)) = true := beq_iff_eq.mpr vn; have Uk : ((ab.length : Int) != (ac.length : Int)) = false := bne_eq_false_iff_eq.mpr vn
              have Ul : (ab.length == ac.length) = true := by first | simpa using vn | (simp at vn ⊢; omega)
              clear vn; replace H := Option.bind_eq_some_iff.mp H; obtain ⟨Uc, RI, H⟩ := H; have A138 := zA RI; clear RI; obtain rfl := yF H; have hnb139 := bF.out; have hnc139 := bG.out; obtain ⟨_, _, _, _, _, _, _, _, _, _, _, _⟩ := zb6 bV.out; go_wp2_with (first | ((with_reducible refine zV (f := 37) rfl ?_); refine goesL_ (some 108) rfl rfl Tryd.func37 (by kernel_rfl) rfl #[.slice bc ac.length aZ, .func (.func 38) #[] #[.pointer (some ⟨uk, 0, none⟩)]] rfl apC ?_; (with_reducible refine (ih_impl_Value_37_at_valueOk_1 k3 (by have := HJ3.out; have := xa.out; have := HK3.out; omega) _ _ ac A2 c2 l2 (some ⟨uk, 0, none⟩) 1 [a1] Uc _ ?side1 ?side2 ?side3 ?side4 ?side5 ?side6 ?side7 A138.out).mono ?_); (case side1 => exact vc (Kd.C_below dx.out HB.out)); (case side2 => exact eg.out); (case side3 => exact vc (Kd.C_below HR2.out HB.out)); (case side4 => exact HC2.out); (case side5 => exact cap_mk (vwB ck.out)); (case side6 => exact yH _); (case side7 => exact HG2.out); rintro e w141 ⟨rfl, hb⟩; refine ⟨_, rfl, ?_⟩; replace ck := zA (zP (vwB ck.out) hb); replace HB := zA (zQ apBD hb); (try clear hb hk hi)))
              go_ret
              exact ⟨apE, apBD⟩
             ·rw [if_neg vn] at H; have Uj : ((ab.length : Int) == (ac.length : Int)) = false := beq_eq_false_iff_ne.mpr vn; have Uk : ((ab.length : Int) != (ac.length : Int)) = true := bne_iff_ne.mpr vn
              have Ul : (ab.length == ac.length) = false := by first | simpa using vn | (simp at vn ⊢; omega)
              obtain rfl := yF H; have hnb142 := bF.out; have hnc142 := bG.out; obtain ⟨_, _, _, _, _, _, _, _, _, _, _, _⟩ := zb6 bV.out; go_wp2
              go_ret
              exact ⟨apE, apK⟩
         ·rw [if_neg zf] at H; have L4 : (aa == 6) = false := beq_eq_false_iff_ne.mpr zf; have L5 : (aa != 6) = true := bne_iff_ne.mpr zf; obtain rfl := yF H; go_wp2
          go_ret
          exact ⟨apE, apK⟩

set_option maxHeartbeats 8000000 in
set_option maxRecDepth 100000 in
theorem impl_Value_37_at_valueOk_1.step (k : Nat) (ih_impl_valueOk : ∀ m, m < k → impl_valueOk.Spec m) (ih_impl_Value_37_at_valueOk_1 : ∀ m, m < k → impl_Value_37_at_valueOk_1.Spec m) (ih_impl_valueOk_1 : ∀ m, m < k → impl_valueOk_1.Spec m) (ih_impl_Value_55_at_valueOk_1 : ∀ m, m < k → impl_Value_55_at_valueOk_1.Spec m) : impl_Value_37_at_valueOk_1.Spec k := by
 intro A0 c0 l0 A2 c2 l2 A3 c3 l3 r w hr0 hc0 hr2 hc2 hr3 hc3 hg2 h
 cases k with
 | zero => exact absurd h (by simp [impl_Value_37_at_valueOk_1.f])
 | succ k =>
 simp only [impl_Value_37_at_valueOk_1.f] at h; have HR0 := zA hr0; have HC0 := zA hc0; clear hr0 hc0; have HG2 := zA hg2; clear hg2; have HR2 := zA hr2; have HC2 := zA hc2; clear hr2 hc2; have HR3 := zA hr3; have HC3 := zA hc3; clear hr3 hc3; have HB := zA (yG w.heap.size w); have H : ((impl_Value_55_at_valueOk_1.f k l0 l2 l3).bind fun KA => (some (decide (KA ≥ 0)))) = some r := h; clear h; replace H := Option.bind_eq_some_iff.mp H; obtain ⟨KA, A50, H⟩ := H; have A5 := zA A50; clear A50; obtain rfl := yF H; go_enter Tryd.func37, Tryd.ntmps37; go_wp2_with (first | ((with_reducible refine zV (f := 55) rfl ?_); refine goesL_ (some 7) rfl rfl Tryd.func55 (by kernel_rfl) rfl #[.slice A0 l0.length c0, .func (.func 38) #[] #[.pointer A3]] rfl apC ?_; (with_reducible refine (ih_impl_Value_55_at_valueOk_1 k (by omega) _ _ l0 A2 c2 l2 A3 c3 l3 KA _ ?side1 ?side2 ?side3 ?side4 ?side5 ?side6 ?side7 A5.out).mono ?_); (case side1 => repeat (first | exact HR0.out | (with_reducible refine Kd.C_alloc ?_ _) | (with_reducible refine Kd.C_drewN ?_ _) | (with_reducible refine Kd.C_drew ?_))); (case side2 => exact HC0.out); (case side3 => repeat (first | exact HR2.out | (with_reducible refine Kd.C_alloc ?_ _) | (with_reducible refine Kd.C_drewN ?_ _) | (with_reducible refine Kd.C_drew ?_))); (case side4 => exact HC2.out); (case side5 => repeat (first | exact HR3.out | (with_reducible refine Kd.C_alloc ?_ _) | (with_reducible refine Kd.C_drewN ?_ _) | (with_reducible refine Kd.C_drew ?_))); (case side6 => exact HC3.out); (case side7 => exact HG2.out); rintro e w6 ⟨rfl, hb⟩; refine ⟨_, rfl, ?_⟩; replace HB := zA (zQ apA hb); (try clear hb hk hi)))
 go_ret
 exact ⟨apE, apA⟩

set_option maxHeartbeats 8000000 in
set_option maxRecDepth 100000 in
theorem impl_valueOk_1.step (k : Nat) (ih_impl_valueOk : ∀ m, m < k → impl_valueOk.Spec m) (ih_impl_Value_37_at_valueOk_1 : ∀ m, m < k → impl_Value_37_at_valueOk_1.Spec m) (ih_impl_valueOk_1 : ∀ m, m < k → impl_valueOk_1.Spec m) (ih_impl_Value_55_at_valueOk_1 : ∀ m, m < k → impl_Value_55_at_valueOk_1.Spec m) : impl_valueOk_1.Spec k := by
 intro aa ae ah ai bc aZ ac bO bI ab A1 c1 l1 A2 c2 l2 r w cK cM cN cO hr1 hc1 hr2 hc2 hg1 h
 cases k with
 | zero => exact absurd h (by simp [impl_valueOk_1.f])
 | succ k =>
 simp only [impl_valueOk_1.f] at h; have m0 := Tryd.underlying33; have dx := zA cK; have eg := zA cM; clear cK cM; have di := zA cN; have em := zA cO; clear cN cO; have HG1 := zA hg1; clear hg1; have HR1 := zA hr1; have HC1 := zA hc1; clear hr1 hc1; have HR2 := zA hr2; have HC2 := zA hc2; clear hr2 hc2; have HB := zA (yG w.heap.size w); have H : (if 0 < (l2.length : Int) then ((impl_valueOk.f k aa ae ah ai ac ab (wrap64 ((rd l2 0) - 1)) l1).bind fun KB => (some (!KB))) else (none)) = some r := h; clear h; by_cases c4 : 0 < (l2.length : Int)
 ·rw [if_pos c4] at H; have me : decide (0 < (l2.length : Int)) = true := yD c4; have WR : decide (0 < l2.length) = true := yD (by omega); clear c4; replace H := Option.bind_eq_some_iff.mp H; obtain ⟨KB, A50, H⟩ := H; have A5 := zA A50; clear A50; obtain rfl := yF H; go_enter Tryd.func38, Tryd.ntmps38; go_wp2_with (first | ((with_reducible refine zT (N := 2) rfl ?_); refine zW (by rfl) (N := 2) (by rfl) (cs := #[.int .i64 aa, .int .i64 ae, .int .i64 ah, .string ai, .slice bc ac.length aZ, .slice bO ab.length bI]) (t := 33) apF ?_; intro gb472 hg w6 hbox hb; have Ym := zA (hbox); have GW472 := zA (gwl hg (zR apA)); have GE472 := zA (gwl hg (zR apA)); replace HB := zA (zQ apA hb); clear hb hbox hg; obtain ⟨_, _, _, _, _, _, _, _, _, _, _, _⟩ := zb6 Ym.out; have Um : 0 ≤ (0 : Int) := (by omega); have Un : 0 < (l2.length : Int) := yE apD; obtain ⟨ad473, e473, pk⟩ := Kd.at_int HR2.out 0 Um Un; cases e473; have qi473 : (0 < l2.length) = True := eq_true (by omega); (try rw [show ((0 : Int)).toNat = 0 from rfl] at pk); (try rw [Addr.add_zero'] at pk); replace pk := (HB.out.cell (zS w _ pk)).trans pk; replace Um := eq_true Um; replace Un := eq_true Un) | ((with_reducible refine zV (f := 24) rfl ?_); refine goesL_ (some 7) rfl rfl Tryd.func24 (by kernel_rfl) rfl #[.agg #[.int .i64 aa, .int .i64 ae, .int .i64 ah, .string ai, .slice bc ac.length aZ, .slice bO ab.length bI], .int .i64 (wrap64 ((rd l2 0) - 1))] rfl apC ?_; (with_reducible refine (ih_impl_valueOk k (by omega) aa ae ah ai _ _ ac _ _ ab (wrap64 ((rd l2 0) - 1)) A1 c1 l1 KB _ ?side1 ?side2 ?side3 ?side4 ?side5 ?side6 ?side7 A5.out).mono ?_); (case side1 => exact vc (Kd.C_below dx.out HB.out)); (case side2 => exact eg.out); (case side3 => exact vc (Kd.C_below di.out HB.out)); (case side4 => exact em.out); (case side5 => exact vc (Kd.C_below HR1.out HB.out)); (case side6 => exact HC1.out); (case side7 => exact HG1.out); rintro e w8 ⟨rfl, hb⟩; refine ⟨_, rfl, ?_⟩; replace HB := zA (zQ apA hb); (try clear hb hk hi)))
  go_ret
  exact ⟨apE, apA⟩
 ·rw [if_neg c4] at H; exact absurd H (by simp)

set_option maxHeartbeats 8000000 in
set_option maxRecDepth 100000 in
theorem impl_Value_55_at_valueOk_1.step (k : Nat) (ih_impl_valueOk : ∀ m, m < k → impl_valueOk.Spec m) (ih_impl_Value_37_at_valueOk_1 : ∀ m, m < k → impl_Value_37_at_valueOk_1.Spec m) (ih_impl_valueOk_1 : ∀ m, m < k → impl_valueOk_1.Spec m) (ih_impl_Value_55_at_valueOk_1 : ∀ m, m < k → impl_Value_55_at_valueOk_1.Spec m) : impl_Value_55_at_valueOk_1.Spec k := by
 intro A0 c0 l0 A2 c2 l2 A3 c3 l3 r w hr0 hc0 hr2 hc2 hr3 hc3 hg2 h
 cases k with
 | zero => exact absurd h (by simp [impl_Value_55_at_valueOk_1.f])
 | succ k =>
 simp only [impl_Value_55_at_valueOk_1.f] at h; have m0 := Tryd.underlying33; have HR0 := zA hr0; have HC0 := zA hc0; clear hr0 hc0; have HG2 := zA hg2; clear hg2; have HR2 := zA hr2; have HC2 := zA hc2; clear hr2 hc2; have HR3 := zA hr3; have HC3 := zA hc3; clear hr3 hc3; have HB := zA (yG w.heap.size w); have H : (impl_Value_55_at_valueOk_1.l0 k l0 (l0.length : Int) 0 l3 l2) = some r := h; clear h; have H' := zA H; clear H; go_enter Tryd.func55, Tryd.ntmps55; go_wp2
 go_loopg [8] k (fun kq v8 w' => ∃ (cW : Int), v8 = .int .i64 cW ∧ Aside0 (impl_Value_55_at_valueOk_1.l0 kq l0 (l0.length : Int) cW l3 l2 = some r) ∧ Aside0 (kq ≤ k) ∧ Aside0 (Below w.heap.size w w'))
 case atStart => exact ⟨(0), apB, H', ⟨yH _⟩, ⟨apA⟩⟩
 case round =>
  clear H'; (try clear c2 p2 c3); obtain ⟨cW, rfl, HA, HK1, HB⟩ := hrel
  cases gk with
  | zero => exact absurd HA.out (by simp [impl_Value_55_at_valueOk_1.l0])
  | succ k1 =>
   have H := HA.out; clear HA; simp only [impl_Value_55_at_valueOk_1.l0] at H; by_cases c5 : cW < (l0.length : Int)
   ·rw [if_pos c5] at H; have dI : decide (cW < (l0.length : Int)) = true := yD c5; clear c5; by_cases c6 : 0 ≤ cW
    ·rw [if_pos c6] at H; have oC : decide (0 ≤ cW) = true := yD c6; clear c6; by_cases c7 : cW < (l0.length : Int)
     ·rw [if_pos c7] at H; have kb : decide (cW < (l0.length : Int)) = true := yD c7; clear c7; replace H := Option.bind_eq_some_iff.mp H; obtain ⟨O8, A80, H⟩ := H; have A8 := zA A80; clear A80; have HC9 := zA H; clear H; have Uo : 0 ≤ (cW : Int) := yE apD; have Up : cW < (l0.length : Int) := yE apD; obtain ⟨ad475, Uq, Ur, Us, Ut, e475, zh, zi, zj, zk, zl, zm, Hq, Hr, Hs, Ht⟩ := at_T33 HR0.out cW Uo Up; cases e475; replace zh := (HB.out.cell (zS w _ zh)).trans zh; replace zi := (HB.out.cell (zS w _ zi)).trans zi; replace zj := (HB.out.cell (zS w _ zj)).trans zj; replace zk := (HB.out.cell (zS w _ zk)).trans zk; replace zl := (HB.out.cell (zS w _ zl)).trans zl; replace zm := (HB.out.cell (zS w _ zm)).trans zm; have Od := zA Hr; have Oe := zA Hq; clear Hr Hq; have Of := zA Ht; have Og := zA Hs; clear Ht Hs; replace Uo := eq_true Uo; replace Up := eq_true Up; go_upto_if 16 with (first | ((refine gate_calleevc (f := 38) rfl rfl ?_); refine goesvcL_ (some 16) rfl rfl Tryd.func38 (by kernel_rfl) rfl #[.agg #[.int .i64 ((rd_T33 l0 cW).f0), .int .i64 ((rd_T33 l0 cW).f1.f0), .int .i64 ((rd_T33 l0 cW).f1.f1), .string ((rd_T33 l0 cW).f2), .slice Uq ((rd_T33 l0 cW).f3).length Ur, .slice Us ((rd_T33 l0 cW).f4).length Ut], .pointer A3] rfl rfl apC ?_; (with_reducible refine (ih_impl_valueOk_1 k1 apR ((rd_T33 l0 cW).f0) ((rd_T33 l0 cW).f1.f0) ((rd_T33 l0 cW).f1.f1) ((rd_T33 l0 cW).f2) _ _ ((rd_T33 l0 cW).f3) _ _ ((rd_T33 l0 cW).f4) A2 c2 l2 A3 c3 l3 O8 _ ?side1 ?side2 ?side3 ?side4 ?side5 ?side6 ?side7 ?side8 ?side9 A8.out).mono ?_); (case side1 => exact vc (Kd.C_below Od.out HB.out)); (case side2 => exact Oe.out); (case side3 => exact vc (Kd.C_below Of.out HB.out)); (case side4 => exact Og.out); (case side5 => exact vc (Kd.C_below HR2.out HB.out)); (case side6 => exact HC2.out); (case side7 => exact vc (Kd.C_below HR3.out HB.out)); (case side8 => exact HC3.out); (case side9 => exact HG2.out); rintro e w10 ⟨rfl, hb⟩; refine ⟨_, rfl, ?_⟩; replace HB := zA (zQ apA hb); (try clear hb hk hi)))
      (try simp only [Act.put, zL, zM, zN])
      have H := HC9.out; clear HC9; by_cases c11 : O8 = true
      ·subst c11; have H1 := H; rw [if_pos rfl] at H1; clear H; have H := H1; clear H1; obtain rfl := yF H; go_wp2
       go_ret
       exact ⟨apE, apA⟩
      ·replace c11 := Bool.eq_false_iff.mpr c11; subst c11; have H1 := H; rw [if_neg (show ¬ (false = true) by decide)] at H1; clear H; have H := H1; clear H1; have H' := zA H; clear H; go_wp2
       go_roundg k1
       case measure => have := HK1.out; omega
       case rel => exact ⟨(wrap64 (cW + 1)), apB, H', ⟨apR⟩, ⟨apA⟩⟩
     ·rw [if_neg c7] at H; exact absurd H (by simp)
    ·rw [if_neg c6] at H; exact absurd H (by simp)
   ·rw [if_neg c5] at H; have dI : decide (cW < (l0.length : Int)) = false := decide_eq_false c5; clear c5; obtain rfl := yF H; go_wp2
    go_ret
    exact ⟨apE, apA⟩

theorem impl_valueOk.G.all (k : Nat) : impl_valueOk.Spec k ∧ impl_Value_37_at_valueOk_1.Spec k ∧ impl_valueOk_1.Spec k ∧ impl_Value_55_at_valueOk_1.Spec k := by
 induction k using Nat.strongRecOn with
 | _ k ih =>
  exact ⟨impl_valueOk.step k (fun m hm => (ih m hm).1) (fun m hm => (ih m hm).2.1) (fun m hm => (ih m hm).2.2.1) (fun m hm => (ih m hm).2.2.2), impl_Value_37_at_valueOk_1.step k (fun m hm => (ih m hm).1) (fun m hm => (ih m hm).2.1) (fun m hm => (ih m hm).2.2.1) (fun m hm => (ih m hm).2.2.2), impl_valueOk_1.step k (fun m hm => (ih m hm).1) (fun m hm => (ih m hm).2.1) (fun m hm => (ih m hm).2.2.1) (fun m hm => (ih m hm).2.2.2), impl_Value_55_at_valueOk_1.step k (fun m hm => (ih m hm).1) (fun m hm => (ih m hm).2.1) (fun m hm => (ih m hm).2.2.1) (fun m hm => (ih m hm).2.2.2)⟩
theorem impl_valueOk.calls (k : Nat) : impl_valueOk.Spec k := (impl_valueOk.G.all k).1
theorem impl_Value_37_at_valueOk_1.calls (k : Nat) : impl_Value_37_at_valueOk_1.Spec k := (impl_valueOk.G.all k).2.1
theorem impl_valueOk_1.calls (k : Nat) : impl_valueOk_1.Spec k := (impl_valueOk.G.all k).2.2.1
theorem impl_Value_55_at_valueOk_1.calls (k : Nat) : impl_Value_55_at_valueOk_1.Spec k := (impl_valueOk.G.all k).2.2.2

end Go.Proofs.YtoajejdicfabmaaDoor.Q

namespace Go.Proofs.YtoajejdicfabmaaDoor.Q
open Go.RowKit Go.Proofs.YtoajejdicfabmaaDoorW.PrintWords Go.Proofs.YtoajejdicfabmaaDoorW.PrintLast Go.Proofs.YtoajejdicfabmaaDoorW.PrintMore Go.Proofs.YtoajejdicfabmaaDoorX
attribute [local go_sem] max2_int min2_int max_two min_two max_three min_three max_four min_four   -- for this text's walks alone
set_option linter.unusedVariables false
set_option linter.unusedSimpArgs false

def impl_ValueOk.f (k : Nat) (aa : Int) (ae : Int) (ah : Int) (ai : ByteArray) (ac : List (S33)) (ab : List ByteArray) (l1 : List (List ByteArray)) : Option (Bool) := (impl_valueOk.f k aa ae ah ai ac ab 20 l1).bind fun La => (if La = true then ((impl_ValueSize.f k aa ae ah ai ac ab).bind fun Lb => (some (decide (Lb ≤ 200)))) else (some false))
theorem impl_ValueOk.mono : ∀ a0 a1 a2 a3 a4 a5 a6 k, LeO (impl_ValueOk.f k a0 a1 a2 a3 a4 a5 a6) (impl_ValueOk.f (k + 1) a0 a1 a2 a3 a4 a5 a6) := by
 intro a0 a1 a2 a3 a4 a5 a6 k; unfold impl_ValueOk.f
 repeat' first
   | (with_reducible exact impl_ValueSize.mono _ _ _ _ _ _ _)
   | (with_reducible exact impl_valueOk.mono _ _ _ _ _ _ _ _ _)
   | exact lm
   | (with_reducible refine LeO.ite ?_ ?_)
   | (with_reducible refine LeO.bind ?_ (fun _ => ?_))
   | exact LeO.none _
set_option maxHeartbeats 8000000 in
set_option maxRecDepth 100000 in
theorem impl_ValueOk.calls (k : Nat) (aa : Int) (ae : Int) (ah : Int) (ai : ByteArray) (bc : Option Addr) (aZ : Nat) (ac : List (S33)) (bO : Option Addr) (bI : Nat) (ab : List ByteArray) (A1 : Option Addr) (c1 : Nat) (l1 : List (List ByteArray)) (r : Bool) (w : World) (cK : Kd.C k33 w bc ac.length ac) (cM : ac.length ≤ aZ) (cN : Kd.C Kd.string w bO ab.length ab) (cO : ab.length ≤ bI) (hr1 : Kd.C (Kd.slice 9 Kd.string) w A1 l1.length l1) (hc1 : l1.length ≤ c1) (hg1 : A1 = some ⟨0, 0, none⟩) (h : impl_ValueOk.f k aa ae ah ai ac ab l1 = some r) :
  Calls Tryd.prog 9 #[.agg #[.int .i64 aa, .int .i64 ae, .int .i64 ah, .string ai, .slice bc ac.length aZ, .slice bO ab.length bI]] w fun e w' => e = .returned (.bool r) ∧ Below w.heap.size w w' := by
 have m0 := Tryd.underlying33; have dx := zA cK; have eg := zA cM; clear cK cM; have di := zA cN; have em := zA cO; clear cN cO; have HG1 := zA hg1; clear hg1; have HR1 := zA hr1; have HC1 := zA hc1; clear hr1 hc1; have HB := zA (yG w.heap.size w); have H : ((impl_valueOk.f k aa ae ah ai ac ab 20 l1).bind fun La => (if La = true then ((impl_ValueSize.f k aa ae ah ai ac ab).bind fun Lb => (some (decide (Lb ≤ 200)))) else (some false))) = some r := h; clear h; replace H := Option.bind_eq_some_iff.mp H; obtain ⟨La, A30, H⟩ := H; have A3 := zA A30; clear A30; by_cases c4 : La = true
 ·subst c4; have H1 := H; rw [if_pos rfl] at H1; clear H; have H := H1; clear H1; replace H := Option.bind_eq_some_iff.mp H; obtain ⟨Lb, A50, H⟩ := H; have A5 := zA A50; clear A50; obtain rfl := yF H; go_enter Tryd.func9, Tryd.ntmps9; go_wp2_with (first | ((with_reducible refine zT (N := 1) rfl ?_); refine zW (by rfl) (N := 1) (by rfl) (cs := #[.int .i64 aa, .int .i64 ae, .int .i64 ah, .string ai, .slice bc ac.length aZ, .slice bO ab.length bI]) (t := 33) apF ?_; intro Yn hg w6 hbox hb; have xb := zA (hbox); have Yo := zA (gwl hg (zR apA)); have RJ := zA (gwl hg (zR apA)); replace HB := zA (zQ apA hb); clear hb hbox hg; obtain ⟨_, _, _, _, _, _, _, _, _, _, _, _⟩ := zb6 xb.out) | ((with_reducible refine zV (f := 24) rfl ?_); refine goesL_ (some 4) rfl rfl Tryd.func24 (by kernel_rfl) rfl #[.agg #[.int .i64 aa, .int .i64 ae, .int .i64 ah, .string ai, .slice bc ac.length aZ, .slice bO ab.length bI], .int .i64 20] rfl apC ?_; (with_reducible refine (impl_valueOk.calls k aa ae ah ai _ _ ac _ _ ab 20 A1 c1 l1 true _ ?side1 ?side2 ?side3 ?side4 ?side5 ?side6 ?side7 A3.out).mono ?_); (case side1 => exact vc (Kd.C_below dx.out HB.out)); (case side2 => exact eg.out); (case side3 => exact vc (Kd.C_below di.out HB.out)); (case side4 => exact em.out); (case side5 => exact vc (Kd.C_below HR1.out HB.out)); (case side6 => exact HC1.out); (case side7 => exact HG1.out); rintro e w8 ⟨rfl, hb⟩; refine ⟨_, rfl, ?_⟩; replace xb := zA (zP (vwB xb.out) hb); replace HB := zA (zQ (by repeat (first | (with_reducible first | exact HB.out | apply zG | apply zE | apply zF | refine zH ?_ RJ.out) | exact HB.out)) hb); (try clear hb hk hi); obtain ⟨_, _, _, _, _, _, _, _, _, _, _, _⟩ := zb6 xb.out) | (go_at_call 12; (with_reducible refine (impl_ValueSize.calls k aa ae ah ai _ _ ac _ _ ab Lb _ ?side1 ?side2 ?side3 ?side4 A5.out).mono ?_); (case side1 => exact vc (Kd.C_below dx.out HB.out)); (case side2 => exact eg.out); (case side3 => exact vc (Kd.C_below di.out HB.out)); (case side4 => exact em.out); rintro e w10 ⟨rfl, hb⟩; replace HB := zA (zQ apA hb); (try clear hb hk hi)))
  go_ret
  exact ⟨apE, apA⟩
 ·replace c4 := Bool.eq_false_iff.mpr c4; subst c4; have H1 := H; rw [if_neg (show ¬ (false = true) by decide)] at H1; clear H; have H := H1; clear H1; obtain rfl := yF H; go_enter Tryd.func9, Tryd.ntmps9; go_wp2_with (first | ((with_reducible refine zT (N := 1) rfl ?_); refine zW (by rfl) (N := 1) (by rfl) (cs := #[.int .i64 aa, .int .i64 ae, .int .i64 ah, .string ai, .slice bc ac.length aZ, .slice bO ab.length bI]) (t := 33) apF ?_; intro Yn hg w11 hbox hb; have xb := zA (hbox); have Yo := zA (gwl hg (zR apA)); have RJ := zA (gwl hg (zR apA)); replace HB := zA (zQ apA hb); clear hb hbox hg; obtain ⟨_, _, _, _, _, _, _, _, _, _, _, _⟩ := zb6 xb.out) | ((with_reducible refine zV (f := 24) rfl ?_); refine goesL_ (some 4) rfl rfl Tryd.func24 (by kernel_rfl) rfl #[.agg #[.int .i64 aa, .int .i64 ae, .int .i64 ah, .string ai, .slice bc ac.length aZ, .slice bO ab.length bI], .int .i64 20] rfl apC ?_; (with_reducible refine (impl_valueOk.calls k aa ae ah ai _ _ ac _ _ ab 20 A1 c1 l1 false _ ?side1 ?side2 ?side3 ?side4 ?side5 ?side6 ?side7 A3.out).mono ?_); (case side1 => exact vc (Kd.C_below dx.out HB.out)); (case side2 => exact eg.out); (case side3 => exact vc (Kd.C_below di.out HB.out)); (case side4 => exact em.out); (case side5 => exact vc (Kd.C_below HR1.out HB.out)); (case side6 => exact HC1.out); (case side7 => exact HG1.out); rintro e w13 ⟨rfl, hb⟩; refine ⟨_, rfl, ?_⟩; replace HB := zA (zQ apA hb); (try clear hb hk hi)))
  go_ret
  exact ⟨apE, apA⟩


def impl_DecCmp_1.f (a0 : Int) : Option (Int) := some (mx (-1) (mn a0 1))
set_option maxHeartbeats 8000000 in
set_option maxRecDepth 100000 in
theorem impl_DecCmp_1.calls (a0 : Int) (r : Int) (w : World) (h : impl_DecCmp_1.f a0 = some r) :
  Calls Tryd.prog 61 #[.int .i64 a0] w fun e w' => e = .returned (.int .i64 r) ∧ Below w.heap.size w w' := by
 have HB := zA (yG w.heap.size w); have H : (some (mx (-1) (mn a0 1))) = some r := h; clear h; obtain ⟨ji2, Lc⟩ : ∃ j_ : Int, (mn a0 1) = j_ := ⟨_, rfl⟩
 replace H : (some (mx (-1) (ji2))) = some r := by first | (rw [Lc] at H; exact H) | (simp only [Lc] at H ⊢; exact H)
 (try (have hji2h : ji2 ≤ 1 := by (rw [← Lc]; unfold mn; (repeat' split) <;> omega)))
 (try (have hji2g : ji2 ≤ 64 := by omega))
 have hji2_ : (if 1 < a0 then 1 else a0) = ji2 := Lc; obtain ⟨ji3, Oh⟩ : ∃ j_ : Int, (mx (-1) (ji2)) = j_ := ⟨_, rfl⟩
 replace H : (some ji3) = some r := by first | (rw [Oh] at H; exact H) | (simp only [Oh] at H ⊢; exact H)
 have hji3_ : (if (-1) < (ji2) then (ji2) else (-1)) = ji3 := Oh; obtain rfl := yF H; go_enter Tryd.func61, Tryd.ntmps61; go_wp2
 go_ret
 exact ⟨by first | rfl | (simp [errW_none, errW_some] <;> rfl) | (simp only [← Lc, ← Oh]; first | rfl | (simp [errW_none, errW_some] <;> rfl)) | (simp [*, errW_none, errW_some] <;> rfl), apA⟩


def impl_tens.l0 : Nat → Int → Int → Int → Option (Int)
 | 0, _, _, _ => none
 | k + 1, x3, x4, x5 => if x5 < x4 then (impl_tens.l0 k (wrap64 (x3 * 10)) x4 (wrap64 (x5 + 1))) else (some x3)
def impl_tens.f (k : Nat) (a0 : Int) : Option (Int) := impl_tens.l0 k 1 a0 0
theorem impl_tens.mono_l : ∀ k, (∀ y0 y1 y2, LeO (impl_tens.l0 k y0 y1 y2) (impl_tens.l0 (k + 1) y0 y1 y2))
 | 0 => fun _ _ _ r h => by simp [impl_tens.l0] at h
 | k + 1 => by
  have ih0 := impl_tens.mono_l k
  ·intro y0 y1 y2; unfold impl_tens.l0
   repeat' first
   | (with_reducible exact ih0 _ _ _)
   | exact lm
   | (with_reducible refine LeO.ite ?_ ?_)
   | (with_reducible refine LeO.bind ?_ (fun _ => ?_))
   | exact LeO.none _
theorem impl_tens.mono : ∀ a0 k, LeO (impl_tens.f k a0) (impl_tens.f (k + 1) a0) := by
 intro a0 k; have ih0 := impl_tens.mono_l k; unfold impl_tens.f
 repeat' first
   | (with_reducible exact ih0 _ _ _)
   | exact lm
   | (with_reducible refine LeO.ite ?_ ?_)
   | (with_reducible refine LeO.bind ?_ (fun _ => ?_))
   | exact LeO.none _
set_option maxHeartbeats 8000000 in
set_option maxRecDepth 100000 in
theorem impl_tens.calls (k : Nat) (a0 : Int) (r : Int) (w : World) (h : impl_tens.f k a0 = some r) :
  Calls Tryd.prog 62 #[.int .i64 a0] w fun e w' => e = .returned (.int .i64 r) ∧ Drawn0 w w' := by
 have H : (impl_tens.l0 k 1 a0 0) = some r := h; clear h; have H' := zA H; clear H; go_enter Tryd.func62, Tryd.ntmps62; go_wp2
 go_loopg [3, 5] k (fun kq v3 v5 w' => ∃ (bo : Int) (b9 : Int), v3 = .int .i64 bo ∧ v5 = .int .i64 b9 ∧ Aside0 (impl_tens.l0 kq bo a0 b9 = some r) ∧ Aside0 (kq ≤ k) ∧ Drawn0 w w')
 case atStart => exact ⟨(1), (0), apB, apB, H', ⟨yH _⟩, apG⟩
 case round =>
  clear H'; obtain ⟨bo, b9, rfl, rfl, HA, HK1, ⟨m1, rfl⟩⟩ := hrel
  cases gk with
  | zero => exact absurd HA.out (by simp [impl_tens.l0])
  | succ k1 =>
   have H := HA.out; clear HA; simp only [impl_tens.l0] at H; by_cases c2 : b9 < a0
   ·rw [if_pos c2] at H; have ka : decide (b9 < a0) = true := yD c2; clear c2; have H' := zA H; clear H; go_wp2
    go_roundg k1
    case measure => have := HK1.out; omega
    case rel => exact ⟨(wrap64 (bo * 10)), (wrap64 (b9 + 1)), apB, apB, H', ⟨apR⟩, apG⟩
   ·rw [if_neg c2] at H; have ka : decide (b9 < a0) = false := decide_eq_false c2; clear c2; obtain rfl := yF H; go_wp2
    go_ret
    exact ⟨apB, apG⟩


def impl_DecCmp.j0 : Nat → Bool → Int → Int → Int → Int → Option (Int)
 | 0, _, _, _, _, _ => none
 | k + 1, x14, pl, pm, pn, po => if x14 = true then (some 0) else ((impl_DecCmp_1.f pl).bind fun BW => ((impl_DecCmp_1.f pn).bind fun BX => (if BW = BX then (if (wrap64 (pm - po)) > 9 then ((impl_DecCmp_1.f pl).bind fun Uu => (some Uu)) else (if (wrap64 (pm - po)) < (-9) then ((impl_DecCmp_1.f pn).bind fun Uv => (some (wrap64 (-Uv)))) else (if (wrap64 (pm - po)) > 0 then ((impl_tens.f k (wrap64 (pm - po))).bind fun Ld => ((impl_DecCmp_1.f (wrap64 ((wrap64 (pl * Ld)) - pn))).bind fun Uw => (some Uw))) else ((impl_tens.f k (wrap64 (-(wrap64 (pm - po))))).bind fun Le => ((impl_DecCmp_1.f (wrap64 (pl - (wrap64 (pn * Le))))).bind fun Ux => (some Ux)))))) else ((impl_DecCmp_1.f pl).bind fun Lf => ((impl_DecCmp_1.f pn).bind fun Lg => ((impl_DecCmp_1.f (wrap64 (Lf - Lg))).bind fun Uy => (some Uy)))))))
def impl_DecCmp.f (k : Nat) (aa : Int) (ae : Int) (aK : Int) (aU : Int) : Option (Int) := (impl_DecOk.f aa ae).bind fun Lh => (if Lh = true then ((impl_DecOk.f aK aU).bind fun JL => (impl_DecCmp.j0 k (!JL) aa ae aK aU)) else (impl_DecCmp.j0 k true aa ae aK aU))
theorem impl_DecCmp.mono_l : ∀ k, (∀ y0 y1 y2 y3 y4, LeO (impl_DecCmp.j0 k y0 y1 y2 y3 y4) (impl_DecCmp.j0 (k + 1) y0 y1 y2 y3 y4))
 | 0 => fun _ _ _ _ _ r h => by simp [impl_DecCmp.j0] at h
 | k + 1 => by
  have ih0 := impl_DecCmp.mono_l k
  ·intro y0 y1 y2 y3 y4; unfold impl_DecCmp.j0
   repeat' first
   | (with_reducible exact ih0 _ _ _ _ _)
   | (with_reducible exact impl_tens.mono _ _)
   | exact lm
   | (with_reducible refine LeO.ite ?_ ?_)
   | (with_reducible refine LeO.bind ?_ (fun _ => ?_))
   | exact LeO.none _
theorem impl_DecCmp.mono : ∀ a0 a1 a2 a3 k, LeO (impl_DecCmp.f k a0 a1 a2 a3) (impl_DecCmp.f (k + 1) a0 a1 a2 a3) := by
 intro a0 a1 a2 a3 k; have ih0 := impl_DecCmp.mono_l k; unfold impl_DecCmp.f
 repeat' first
   | (with_reducible exact ih0 _ _ _ _ _)
   | (with_reducible exact impl_tens.mono _ _)
   | exact lm
   | (with_reducible refine LeO.ite ?_ ?_)
   | (with_reducible refine LeO.bind ?_ (fun _ => ?_))
   | exact LeO.none _
def impl_DecCmp.T4 : Bool × List (List Nat × List Nat) := (true, [([], []), ([], []), ([1], [1]), ([0, 2], [0, 2]), ([], []), ([], []), ([5], [5]), ([4, 6, 3], [4, 6]), ([3, 7], [3, 7])])
def impl_DecCmp.B4 : List Nat := [0, 0, 2, 7, 0, 0, 32, 127, 255]
theorem impl_DecCmp.tab4 : rtab .any (opsOf Tryd.f44 4) = impl_DecCmp.T4 := by kernel_rfl
theorem impl_DecCmp.bits4 : waitsOk impl_DecCmp.T4.2 impl_DecCmp.B4 = true := by kernel_rfl
def impl_DecCmp.T5 : Bool × List (List Nat × List Nat) := (true, [([], []), ([], []), ([], []), ([2], [2]), ([1, 3], [1, 3]), ([], []), ([], []), ([6], [6]), ([5, 7, 4], [5, 7]), ([4, 8], [4, 8]), ([0, 9, 8], [0, 9]), ([10, 10, 0, 1, 2, 3, 4, 5, 6, 7, 8, 9, 10], [10])])
def impl_DecCmp.B5 : List Nat := [0, 0, 0, 4, 14, 0, 0, 64, 254, 510, 1023, 2047]
theorem impl_DecCmp.tab5 : rtab .any (opsOf Tryd.f44 5) = impl_DecCmp.T5 := by kernel_rfl
theorem impl_DecCmp.bits5 : waitsOk impl_DecCmp.T5.2 impl_DecCmp.B5 = true := by kernel_rfl
def impl_DecCmp.T7 : Bool × List (List Nat × List Nat) := (true, [([], []), ([], []), ([1], [1]), ([], []), ([3], [3]), ([], []), ([5], [5]), ([6], [6]), ([4, 7], [4, 7]), ([2, 8], [2, 8]), ([0, 9, 7], [0, 9]), ([10, 10, 0, 1, 2, 3, 4, 5, 6, 7, 8, 9, 10], [10])])
def impl_DecCmp.B7 : List Nat := [0, 0, 2, 0, 8, 0, 32, 96, 248, 510, 1023, 2047]
theorem impl_DecCmp.tab7 : rtab .any (opsOf Tryd.f44 7) = impl_DecCmp.T7 := by kernel_rfl
theorem impl_DecCmp.bits7 : waitsOk impl_DecCmp.T7.2 impl_DecCmp.B7 = true := by kernel_rfl
def impl_DecCmp.T13 : Bool × List (List Nat × List Nat) := (true, [([], []), ([], []), ([1], [1]), ([], []), ([3], [3]), ([2, 4], [2, 4]), ([], []), ([6], [6]), ([5, 7], [5, 7]), ([0, 8, 4], [0, 8]), ([9, 9, 0, 1, 2, 3, 4, 5, 6, 7, 8, 9], [9])])
def impl_DecCmp.B13 : List Nat := [0, 0, 2, 0, 8, 30, 0, 64, 254, 511, 1023]
theorem impl_DecCmp.tab13 : rtab .any (opsOf Tryd.f44 13) = impl_DecCmp.T13 := by kernel_rfl
theorem impl_DecCmp.bits13 : waitsOk impl_DecCmp.T13.2 impl_DecCmp.B13 = true := by kernel_rfl
set_option maxHeartbeats 8000000 in
set_option maxRecDepth 100000 in
theorem impl_DecCmp.calls (k : Nat) (aa : Int) (ae : Int) (aK : Int) (aU : Int) (r : Int) (w : World) (h : impl_DecCmp.f k aa ae aK aU = some r) :
  Calls Tryd.prog 44 #[.agg #[.int .i64 aa, .int .i64 ae], .agg #[.int .i64 aK, .int .i64 aU]] w fun e w' => e = .returned (.int .i64 r) ∧ Below w.heap.size w w' := by
 have sn := Tryd.underlying30; have HB := zA (yG w.heap.size w); have H : ((impl_DecOk.f aa ae).bind fun Lh => (if Lh = true then ((impl_DecOk.f aK aU).bind fun JL => (impl_DecCmp.j0 k (!JL) aa ae aK aU)) else (impl_DecCmp.j0 k true aa ae aK aU))) = some r := h; clear h; have HC3 := zA H; clear H; go_enter Tryd.func44, Tryd.ntmps44; go_upto_region 1 with (first | ((with_reducible refine zT (N := 2) rfl ?_); refine zW (by rfl) (N := 2) (by rfl) (cs := #[.int .i64 aa, .int .i64 ae]) (t := 30) apF ?_; intro pp hg w4 hbox hb; have cw := zA (hbox); have GW486 := zA (gwl hg (zR apA)); have iw := zA (gwl hg (zR apA)); replace HB := zA (zQ apA hb); clear hb hbox hg) | ((with_reducible refine zT (N := 3) rfl ?_); refine zW (by rfl) (N := 3) (by rfl) (cs := #[.int .i64 aK, .int .i64 aU]) (t := 30) apF ?_; intro pq hg w5 hbox hb; have cG := zA (hbox); have GW487 := zA (gwl hg (zR apBL)); have kj := zA (gwl hg (zR apBL)); replace HB := zA (zQ apBL hb); have j7 := zA (nbl hg (vwB cw.out)); have kU := zA j7.out.symm; replace cw := zA (zP (vwB cw.out) hb); clear hb hbox hg))
 (try simp only [Act.put, zL, zM, zN])
 go_cut [14] (fun v14 wc => ∃ (kq : Nat) (Hu : Bool), v14 = .bool Hu ∧ Aside0 (impl_DecCmp.j0 kq Hu aa ae aK aU = some r) ∧ Aside0 (kq ≤ k) ∧ Aside0 (wc.heap[pp]? = some (.cells #[.int .i64 aa, .int .i64 ae] 30 (0, 0))) ∧ Aside0 (wc.heap[pq]? = some (.cells #[.int .i64 aK, .int .i64 aU] 30 (0, 0))) ∧ Aside0 (Below w.heap.size w wc))
 case first =>
  have H := HC3.out; clear HC3; replace H := Option.bind_eq_some_iff.mp H; obtain ⟨Lh, A60, H⟩ := H; have A6 := zA A60; clear A60; by_cases c7 : Lh = true
  ·subst c7; have H1 := H; rw [if_pos rfl] at H1; clear H; have H := H1; clear H1; replace H := Option.bind_eq_some_iff.mp H; obtain ⟨JL, A80, H⟩ := H; have A8 := zA A80; clear A80; have H' := zA H; clear H; have Yp := j7.out; have Yq := kU.out; obtain ⟨_, _, _, _⟩ := zb2 cw.out; go_wp2_with (first | ((with_reducible refine zV (f := 35) rfl ?_); refine goesL_ (some 8) rfl rfl Tryd.func35 (by kernel_rfl) rfl #[.agg #[.int .i64 aa, .int .i64 ae]] rfl apC ?_; (with_reducible refine (impl_DecOk.calls aa ae true _ A6.out).mono ?_); rintro e w11 ⟨rfl, hb⟩; refine ⟨_, rfl, ?_⟩; replace cw := zA (zP (vwB cw.out) hb); replace cG := zA (zP (vwB cG.out) hb); replace HB := zA (zQ apc hb); (try clear hb hk hi); obtain ⟨_, _, _, _⟩ := zb2 cG.out) | (go_at_call 35; (with_reducible refine (impl_DecOk.calls aK aU JL _ A8.out).mono ?_); rintro e w13 ⟨rfl, hb⟩; replace cw := zA (zP (vwB cw.out) hb); replace cG := zA (zP (vwB cG.out) hb); replace HB := zA (zQ apc hb); (try clear hb hk hi)))
   go_meet
   case rel => exact ⟨_, (!JL), apB, H', ⟨apL⟩, ⟨vwB cw.out⟩, ⟨vwB cG.out⟩, ⟨apc⟩⟩
  ·replace c7 := Bool.eq_false_iff.mpr c7; subst c7; have H1 := H; rw [if_neg (show ¬ (false = true) by decide)] at H1; clear H; have H := H1; clear H1; have H' := zA H; clear H; have Ru := j7.out; have Rv := kU.out; obtain ⟨_, _, _, _⟩ := zb2 cw.out; go_wp2_with (first | ((with_reducible refine zV (f := 35) rfl ?_); refine goesL_ (some 8) rfl rfl Tryd.func35 (by kernel_rfl) rfl #[.agg #[.int .i64 aa, .int .i64 ae]] rfl apC ?_; (with_reducible refine (impl_DecOk.calls aa ae false _ A6.out).mono ?_); rintro e w16 ⟨rfl, hb⟩; refine ⟨_, rfl, ?_⟩; replace cw := zA (zP (vwB cw.out) hb); replace cG := zA (zP (vwB cG.out) hb); replace HB := zA (zQ apc hb); (try clear hb hk hi)))
   go_meet
   case rel => exact ⟨_, (true), apB, H', ⟨apL⟩, ⟨vwB cw.out⟩, ⟨vwB cG.out⟩, ⟨apc⟩⟩
 case rest =>
  clear HC3; (try clear c1 p2 c3 c4 c7 c9 c14 hcz10_0 hcz10_1 t5 t6 hcz15_0 hcz15_1 hfz10_0 hfz10_1 zo t7 hfz15_0 hfz15_1); obtain ⟨kq, Hu, rfl, HA, HJ2, cw, cG, HB⟩ := hcut
  cases kq with
  | zero => exact absurd HA.out (by simp [impl_DecCmp.j0])
  | succ kj2 =>
   have H := HA.out; clear HA; simp only [impl_DecCmp.j0] at H; by_cases c17 : Hu = true
   ·subst c17; have H1 := H; rw [if_pos rfl] at H1; clear H; have H := H1; clear H1; obtain rfl := yF H; go_wp2
    go_ret
    exact ⟨apE, apc⟩
   ·replace c17 := Bool.eq_false_iff.mpr c17; subst c17; have H1 := H; rw [if_neg (show ¬ (false = true) by decide)] at H1; clear H; have H := H1; clear H1; replace H := Option.bind_eq_some_iff.mp H; obtain ⟨BW, Yr, H⟩ := H; have A18 := zA Yr; clear Yr; replace H := Option.bind_eq_some_iff.mp H; obtain ⟨BX, Li, H⟩ := H; have A19 := zA Li; clear Li; have wH := zA H; clear H; (try go_wp2); replace cw := zA (zD cw.out); replace cG := zA (zD cG.out); replace HB := zA (zF HB.out); refine start_ (n := 9) (S := fun w' => w'.cell? ⟨pp, 0, none⟩ = some (.int .i64 aa) ∧ w'.cell? ⟨pp, 1, none⟩ = some (.int .i64 ae) ∧ w'.cell? ⟨pq, 0, none⟩ = some (.int .i64 aK) ∧ w'.cell? ⟨pq, 1, none⟩ = some (.int .i64 aU)) (ds := []) mk64 (by kernel_rfl) rfl rfl (zd2 cw.out (zc2 cG.out)) (fun hHeld => ?_); refine with_tabW impl_DecCmp.tab4 impl_DecCmp.bits4 (fun HT_ HW_ => ?_); generalize wc.drew = w21 at cw cG HB hHeld ⊢; refine pz (i := 0) (N := some 15) mk65 ?_; refine pz (i := 1) (N := some 16) #[true, true, false, false, false, false, false, false, false] ?_; refine pz (i := 4) (N := some 19) #[true, true, false, false, true, false, false, false, false] ?_; refine pz (i := 5) (N := some 20) #[true, true, false, false, true, true, false, false, false] ?_; refine tz4 (i := 2) (N := some 17) #[true, true, true, false, true, true, false, false, false] hHeld ?_; refine tz4 (i := 6) (N := some 21) #[true, true, true, false, true, true, true, false, false] hHeld ?_; refine oz (i := 3) (N := some 18) mk66 (fun K hK => ?_); refine goesv_ Tryd.func61 (by kernel_rfl) rfl #[.int .i64 aa] (by rfl) rfl rfl rfl apC ?_
    with_reducible refine (impl_DecCmp_1.calls aa BW _ A18.out).mono ?_
    rintro e w22 ⟨rfl, hb⟩; refine ⟨_, rfl, ?_⟩; replace cw := zA (zP (vwB cw.out) hb); replace cG := zA (zP (vwB cG.out) hb); replace HB := zA (zQ apc hb)
    (try clear hb)
    (try clear hb2)
    (try clear hk)
    (try clear hi)
    refine hK.out _ _ (zd2 cw.out (zc2 cG.out)) (fun hHeld => ?_); clear hK K; refine norm_ (a' := ?_) ?_ ?_; rotate_left
    ·show Act.put _ (some 18) _ = _
     simp only [Act.put, zL, zM, zN, i64_w, i32_w]; rfl
    refine oz (i := 7) (N := some 22) mk67 (fun K hK => ?_); refine goesv_ Tryd.func61 (by kernel_rfl) rfl #[.int .i64 aK] (by rfl) rfl rfl rfl apC ?_
    with_reducible refine (impl_DecCmp_1.calls aK BX _ A19.out).mono ?_
    rintro e w23 ⟨rfl, hb⟩; refine ⟨_, rfl, ?_⟩; replace cw := zA (zP (vwB cw.out) hb); replace cG := zA (zP (vwB cG.out) hb); replace HB := zA (zQ apc hb)
    (try clear hb)
    (try clear hb2)
    (try clear hk)
    (try clear hi)
    refine hK.out _ _ (zd2 cw.out (zc2 cG.out)) (fun hHeld => ?_); clear hK K; refine norm_ (a' := ?_) ?_ ?_; rotate_left
    ·show Act.put _ (some 22) _ = _
     simp only [Act.put, zL, zM, zN, i64_w, i32_w]; rfl
    refine pz (i := 8) (N := some 23) mk68 ?_; refine done_ (done_of HT_.out (by kernel_rfl)) ?_; go_upto_if 23 with (fail)
    have H := wH.out; clear wH; by_cases c24 : BW = BX
    ·rw [if_pos c24] at H; have lF : (BW == BX) = true := beq_iff_eq.mpr c24; have lG : (BW != BX) = false := bne_eq_false_iff_eq.mpr c24; clear c24
     (first | rw [lF] | rw [lG] | (simp only [i64_w, i32_w]; rw [lF]) | (simp only [i64_w, i32_w]; rw [lG]) | skip)
     by_cases c25 : (wrap64 (ae - aU)) > 9
     ·rw [if_pos c25] at H; have mD : decide (9 < (wrap64 (ae - aU))) = true := yD c25; clear c25; replace H := Option.bind_eq_some_iff.mp H; obtain ⟨Uu, Ys, H⟩ := H; have A26 := zA Ys; clear Ys; obtain rfl := yF H; have RK := j7.out; have RL := kU.out; obtain ⟨_, _, _, _⟩ := zb2 cw.out; obtain ⟨_, _, _, _⟩ := zb2 cG.out; go_wp2_with (first | ((refine gate_calleev (f := 61) rfl rfl ?_); refine goesvL_ (some 57) rfl rfl Tryd.func61 (by kernel_rfl) rfl #[.int .i64 aa] rfl rfl apC ?_; (with_reducible refine (impl_DecCmp_1.calls aa Uu _ A26.out).mono ?_); rintro e w30 ⟨rfl, hb⟩; refine ⟨_, rfl, ?_⟩; replace HB := zA (zQ apA hb); (try clear hb hk hi)))
      go_ret
      exact ⟨apE, apA⟩
     ·rw [if_neg c25] at H; have mD : decide (9 < (wrap64 (ae - aU))) = false := decide_eq_false c25; clear c25; by_cases c31 : (wrap64 (ae - aU)) < (-9)
      ·rw [if_pos c31] at H; have lC : decide ((wrap64 (ae - aU)) < (-9)) = true := yD c31; clear c31; replace H := Option.bind_eq_some_iff.mp H; obtain ⟨Uv, Lj, H⟩ := H; have A32 := zA Lj; clear Lj; obtain rfl := yF H; have Lk := j7.out; have Ll := kU.out; obtain ⟨_, _, _, _⟩ := zb2 cw.out; obtain ⟨_, _, _, _⟩ := zb2 cG.out; go_wp2_with (first | ((refine gate_calleev (f := 61) rfl rfl ?_); refine goesvL_ (some 64) rfl rfl Tryd.func61 (by kernel_rfl) rfl #[.int .i64 aK] rfl rfl apC ?_; (with_reducible refine (impl_DecCmp_1.calls aK Uv _ A32.out).mono ?_); rintro e w36 ⟨rfl, hb⟩; refine ⟨_, rfl, ?_⟩; replace HB := zA (zQ apA hb); (try clear hb hk hi)))
       go_ret
       exact ⟨apE, apA⟩
      ·rw [if_neg c31] at H; have lC : decide ((wrap64 (ae - aU)) < (-9)) = false := decide_eq_false c31; clear c31; by_cases c37 : (wrap64 (ae - aU)) > 0
       ·rw [if_pos c37] at H; have m2 : decide (0 < (wrap64 (ae - aU))) = true := yD c37; clear c37; replace H := Option.bind_eq_some_iff.mp H; obtain ⟨Ld, Lm, H⟩ := H; have A38 := zA Lm; clear Lm; replace H := Option.bind_eq_some_iff.mp H; obtain ⟨Uw, BY, H⟩ := H; have A39 := zA BY; clear BY; obtain rfl := yF H; have RM := j7.out; have RN := kU.out; obtain ⟨_, _, _, _⟩ := zb2 cw.out; obtain ⟨_, _, _, _⟩ := zb2 cG.out; (try go_wp2); replace cw := zA (zD cw.out); replace cG := zA (zD cG.out); replace HB := zA (zF HB.out); refine start_ (n := 11) (S := fun w' => w'.cell? ⟨pp, 0, none⟩ = some (.int .i64 aa) ∧ w'.cell? ⟨pp, 1, none⟩ = some (.int .i64 ae) ∧ w'.cell? ⟨pq, 0, none⟩ = some (.int .i64 aK) ∧ w'.cell? ⟨pq, 1, none⟩ = some (.int .i64 aU)) (ds := []) mk76 (by kernel_rfl) rfl rfl (zd2 cw.out (zc2 cG.out)) (fun hHeld => ?_); refine with_tabW impl_DecCmp.tab13 impl_DecCmp.bits13 (fun HT_ HW_ => ?_); generalize w23.drew = w43 at cw cG HB hHeld ⊢; refine pz (i := 0) (N := some 69) mk77 ?_; refine pz (i := 1) (N := some 70) mk78 ?_; refine pz (i := 3) (N := some 72) mk79 ?_; refine pz (i := 6) (N := some 75) #[true, true, false, true, false, false, true, false, false, false, false] ?_; refine tz4 (i := 2) (N := some 71) #[true, true, true, true, false, false, true, false, false, false, false] hHeld ?_; refine tz4 (i := 7) (N := some 76) #[true, true, true, true, false, false, true, true, false, false, false] hHeld ?_; refine oz (i := 4) (N := some 73) #[true, true, true, true, true, false, true, true, false, false, false] (fun K hK => ?_); refine goes_ Tryd.func62 (by kernel_rfl) rfl #[.int .i64 (wrap64 (ae - aU))] (by rfl) rfl rfl apC ?_
        with_reducible refine (impl_tens.calls kj2 (wrap64 (ae - aU)) Ld _ A38.out).mono ?_
        rintro e w' ⟨rfl, ⟨nd, rfl⟩⟩; refine ⟨_, rfl, ?_⟩; refine hK.out _ _ (zd2 cw.out (zc2 cG.out)) (fun hHeld => ?_); clear hK K; refine norm_ (a' := ?_) ?_ ?_; rotate_left
        ·show Act.put _ (some 73) _ = _
         simp only [Act.put, zL, zM, zN, i64_w, i32_w]; rfl
        refine pz (i := 5) (N := some 74) mk69 ?_; refine pz (i := 8) (N := some 77) mk15 ?_; refine oz (i := 9) (N := some 78) #[true, true, true, true, true, true, true, true, true, true, false] (fun K hK => ?_); refine goesv_ Tryd.func61 (by kernel_rfl) rfl #[.int .i64 (wrap64 ((wrap64 (aa * Ld)) - aK))] (by rfl) rfl rfl rfl apC ?_
        with_reducible refine (impl_DecCmp_1.calls (wrap64 ((wrap64 (aa * Ld)) - aK)) Uw _ A39.out).mono ?_
        rintro e w44 ⟨rfl, hb⟩; refine ⟨_, rfl, ?_⟩; replace cw := zA (zP (vwB cw.out) hb); replace cG := zA (zP (vwB cG.out) hb); replace HB := zA (zQ apc hb)
        (try clear hb)
        (try clear hb2)
        (try clear hk)
        (try clear hi)
        refine hK.out _ _ (zd2 cw.out (zc2 cG.out)) (fun hHeld => ?_); clear hK K; refine norm_ (a' := ?_) ?_ ?_; rotate_left
        ·show Act.put _ (some 78) _ = _
         simp only [Act.put, zL, zM, zN, i64_w, i32_w]; rfl
        refine pz (i := 10) (N := some 4) #[true, true, true, true, true, true, true, true, true, true, true] ?_; refine done_ (done_of HT_.out (by kernel_rfl)) ?_; (try go_wp2)
        go_ret
        exact ⟨apE, apc⟩
       ·rw [if_neg c37] at H; have m2 : decide (0 < (wrap64 (ae - aU))) = false := decide_eq_false c37; clear c37; replace H := Option.bind_eq_some_iff.mp H; obtain ⟨Le, Yt, H⟩ := H; have A45 := zA Yt; clear Yt; replace H := Option.bind_eq_some_iff.mp H; obtain ⟨Ux, Yu, H⟩ := H; have A46 := zA Yu; clear Yu; obtain rfl := yF H; have Ln := j7.out; have Lp := kU.out; obtain ⟨_, _, _, _⟩ := zb2 cw.out; obtain ⟨_, _, _, _⟩ := zb2 cG.out; (try go_wp2); replace cw := zA (zD cw.out); replace cG := zA (zD cG.out); replace HB := zA (zF HB.out); refine start_ (n := 12) (S := fun w' => w'.cell? ⟨pp, 0, none⟩ = some (.int .i64 aa) ∧ w'.cell? ⟨pp, 1, none⟩ = some (.int .i64 ae) ∧ w'.cell? ⟨pq, 0, none⟩ = some (.int .i64 aK) ∧ w'.cell? ⟨pq, 1, none⟩ = some (.int .i64 aU)) (ds := []) mk0 (by kernel_rfl) rfl rfl (zd2 cw.out (zc2 cG.out)) (fun hHeld => ?_); refine with_tabW impl_DecCmp.tab7 impl_DecCmp.bits7 (fun HT_ HW_ => ?_); generalize w23.drew = w50 at cw cG HB hHeld ⊢; refine pz (i := 0) (N := some 40) mk1 ?_; refine pz (i := 1) (N := some 41) mk80 ?_; refine pz (i := 3) (N := some 43) #[true, true, false, true, false, false, false, false, false, false, false, false] ?_; refine pz (i := 5) (N := some 45) #[true, true, false, true, false, true, false, false, false, false, false, false] ?_; refine pz (i := 6) (N := some 46) #[true, true, false, true, false, true, true, false, false, false, false, false] ?_; refine tz4 (i := 2) (N := some 42) mk81 hHeld ?_; refine tz4 (i := 4) (N := some 44) mk70 hHeld ?_; refine oz (i := 7) (N := some 47) mk2 (fun K hK => ?_); refine goes_ Tryd.func62 (by kernel_rfl) rfl #[.int .i64 (wrap64 (-(wrap64 (ae - aU))))] (by rfl) rfl rfl apC ?_
        with_reducible refine (impl_tens.calls kj2 (wrap64 (-(wrap64 (ae - aU)))) Le _ A45.out).mono ?_
        rintro e w' ⟨rfl, ⟨nd, rfl⟩⟩; refine ⟨_, rfl, ?_⟩; refine hK.out _ _ (zd2 cw.out (zc2 cG.out)) (fun hHeld => ?_); clear hK K; refine norm_ (a' := ?_) ?_ ?_; rotate_left
        ·show Act.put _ (some 47) _ = _
         simp only [Act.put, zL, zM, zN, i64_w, i32_w]; rfl
        refine pz (i := 8) (N := some 48) mk3 ?_; refine pz (i := 9) (N := some 49) mk4 ?_; refine oz (i := 10) (N := some 50) mk5 (fun K hK => ?_); refine goesv_ Tryd.func61 (by kernel_rfl) rfl #[.int .i64 (wrap64 (aa - (wrap64 (aK * Le))))] (by rfl) rfl rfl rfl apC ?_
        with_reducible refine (impl_DecCmp_1.calls (wrap64 (aa - (wrap64 (aK * Le)))) Ux _ A46.out).mono ?_
        rintro e w51 ⟨rfl, hb⟩; refine ⟨_, rfl, ?_⟩; replace cw := zA (zP (vwB cw.out) hb); replace cG := zA (zP (vwB cG.out) hb); replace HB := zA (zQ apc hb)
        (try clear hb)
        (try clear hb2)
        (try clear hk)
        (try clear hi)
        refine hK.out _ _ (zd2 cw.out (zc2 cG.out)) (fun hHeld => ?_); clear hK K; refine norm_ (a' := ?_) ?_ ?_; rotate_left
        ·show Act.put _ (some 50) _ = _
         simp only [Act.put, zL, zM, zN, i64_w, i32_w]; rfl
        refine pz (i := 11) (N := some 4) mk6 ?_; refine done_ (done_of HT_.out (by kernel_rfl)) ?_; (try go_wp2)
        go_ret
        exact ⟨apE, apc⟩
    ·rw [if_neg c24] at H; have lF : (BW == BX) = false := beq_eq_false_iff_ne.mpr c24; have lG : (BW != BX) = true := bne_iff_ne.mpr c24
     (first | rw [lF] | rw [lG] | (simp only [i64_w, i32_w]; rw [lF]) | (simp only [i64_w, i32_w]; rw [lG]) | skip)
     replace H := Option.bind_eq_some_iff.mp H; obtain ⟨Lf, Lq, H⟩ := H; have A52 := zA Lq; clear Lq; replace H := Option.bind_eq_some_iff.mp H; obtain ⟨Lg, BZ, H⟩ := H; have A53 := zA BZ; clear BZ; replace H := Option.bind_eq_some_iff.mp H; obtain ⟨Uy, C0, H⟩ := H; have A54 := zA C0; clear C0; obtain rfl := yF H; (try go_wp2); replace cw := zA (zD cw.out); replace cG := zA (zD cG.out); replace HB := zA (zF HB.out); refine start_ (n := 12) (S := fun w' => w'.cell? ⟨pp, 0, none⟩ = some (.int .i64 aa) ∧ w'.cell? ⟨pp, 1, none⟩ = some (.int .i64 ae) ∧ w'.cell? ⟨pq, 0, none⟩ = some (.int .i64 aK) ∧ w'.cell? ⟨pq, 1, none⟩ = some (.int .i64 aU)) (ds := []) mk0 (by kernel_rfl) rfl rfl (zd2 cw.out (zc2 cG.out)) (fun hHeld => ?_); refine with_tabW impl_DecCmp.tab5 impl_DecCmp.bits5 (fun HT_ HW_ => ?_); generalize w23.drew = w55 at cw cG HB hHeld ⊢; refine pz (i := 0) (N := some 24) mk1 ?_; refine pz (i := 1) (N := some 25) mk80 ?_; refine pz (i := 2) (N := some 26) #[true, true, true, false, false, false, false, false, false, false, false, false] ?_; refine pz (i := 5) (N := some 29) #[true, true, true, false, false, true, false, false, false, false, false, false] ?_; refine pz (i := 6) (N := some 30) #[true, true, true, false, false, true, true, false, false, false, false, false] ?_; refine tz4 (i := 3) (N := some 27) mk81 hHeld ?_; refine tz4 (i := 7) (N := some 31) #[true, true, true, true, false, true, true, true, false, false, false, false] hHeld ?_; refine oz (i := 4) (N := some 28) mk2 (fun K hK => ?_); refine goesv_ Tryd.func61 (by kernel_rfl) rfl #[.int .i64 aa] (by rfl) rfl rfl rfl apC ?_
     with_reducible refine (impl_DecCmp_1.calls aa Lf _ A52.out).mono ?_
     rintro e w56 ⟨rfl, hb⟩; refine ⟨_, rfl, ?_⟩; replace cw := zA (zP (vwB cw.out) hb); replace cG := zA (zP (vwB cG.out) hb); replace HB := zA (zQ apc hb)
     (try clear hb)
     (try clear hb2)
     (try clear hk)
     (try clear hi)
     refine hK.out _ _ (zd2 cw.out (zc2 cG.out)) (fun hHeld => ?_); clear hK K; refine norm_ (a' := ?_) ?_ ?_; rotate_left
     ·show Act.put _ (some 28) _ = _
      simp only [Act.put, zL, zM, zN, i64_w, i32_w]; rfl
     refine oz (i := 8) (N := some 32) mk3 (fun K hK => ?_); refine goesv_ Tryd.func61 (by kernel_rfl) rfl #[.int .i64 aK] (by rfl) rfl rfl rfl apC ?_
     with_reducible refine (impl_DecCmp_1.calls aK Lg _ A53.out).mono ?_
     rintro e w57 ⟨rfl, hb⟩; refine ⟨_, rfl, ?_⟩; replace cw := zA (zP (vwB cw.out) hb); replace cG := zA (zP (vwB cG.out) hb); replace HB := zA (zQ apc hb)
     (try clear hb)
     (try clear hb2)
     (try clear hk)
     (try clear hi)
     refine hK.out _ _ (zd2 cw.out (zc2 cG.out)) (fun hHeld => ?_); clear hK K; refine norm_ (a' := ?_) ?_ ?_; rotate_left
     ·show Act.put _ (some 32) _ = _
      simp only [Act.put, zL, zM, zN, i64_w, i32_w]; rfl
     refine pz (i := 9) (N := some 33) mk4 ?_; refine oz (i := 10) (N := some 34) mk5 (fun K hK => ?_); refine goesv_ Tryd.func61 (by kernel_rfl) rfl #[.int .i64 (wrap64 (Lf - Lg))] (by rfl) rfl rfl rfl apC ?_
     with_reducible refine (impl_DecCmp_1.calls (wrap64 (Lf - Lg)) Uy _ A54.out).mono ?_
     rintro e w58 ⟨rfl, hb⟩; refine ⟨_, rfl, ?_⟩; replace cw := zA (zP (vwB cw.out) hb); replace cG := zA (zP (vwB cG.out) hb); replace HB := zA (zQ apc hb)
     (try clear hb)
     (try clear hb2)
     (try clear hk)
     (try clear hi)
     refine hK.out _ _ (zd2 cw.out (zc2 cG.out)) (fun hHeld => ?_); clear hK K; refine norm_ (a' := ?_) ?_ ?_; rotate_left
     ·show Act.put _ (some 34) _ = _
      simp only [Act.put, zL, zM, zN, i64_w, i32_w]; rfl
     refine pz (i := 11) (N := some 4) mk6 ?_; refine done_ (done_of HT_.out (by kernel_rfl)) ?_; (try go_wp2)
     go_ret
     exact ⟨apE, apc⟩


def spec_l1Sign.f (a0 : Int) : Option (Int) := if a0 < 0 then (some (-1)) else (if a0 > 0 then (some 1) else (some 0))
set_option maxHeartbeats 8000000 in
set_option maxRecDepth 100000 in
theorem spec_l1Sign.calls (a0 : Int) (r : Int) (w : World) (h : spec_l1Sign.f a0 = some r) :
  Calls Tryd.prog 46 #[.int .i64 a0] w fun e w' => e = .returned (.int .i64 r) ∧ Drawn0 w w' := by
 have H : (if a0 < 0 then (some (-1)) else (if a0 > 0 then (some 1) else (some 0))) = some r := h; clear h; by_cases c2 : a0 < 0
 ·rw [if_pos c2] at H; have ka : decide (a0 < 0) = true := yD c2; clear c2; obtain rfl := yF H; go_enter Tryd.func46, Tryd.ntmps46; go_wp2
  go_ret
  exact ⟨apB, apG⟩
 ·rw [if_neg c2] at H; have ka : decide (a0 < 0) = false := decide_eq_false c2; clear c2; by_cases c3 : a0 > 0
  ·rw [if_pos c3] at H; have i2 : decide (0 < a0) = true := yD c3; clear c3; obtain rfl := yF H; go_enter Tryd.func46, Tryd.ntmps46; go_wp2
   go_ret
   exact ⟨apB, apG⟩
  ·rw [if_neg c3] at H; have i2 : decide (0 < a0) = false := decide_eq_false c3; clear c3; obtain rfl := yF H; go_enter Tryd.func46, Tryd.ntmps46; go_wp2
   go_ret
   exact ⟨apB, apG⟩


def spec_l1Dec.f : Nat → Int → Option (ByteArray)
 | 0, _ => none
 | k + 1, a0 => if a0 < (-9223372036854775807) then (some (⟨#[45, 57, 50, 50, 51, 51, 55, 50, 48, 51, 54, 56, 53, 52, 55, 55, 53, 56, 48, 56]⟩ : ByteArray)) else (if a0 < 0 then ((spec_l1Dec.f k (wrap64 (-a0))).bind fun wI => (if 1 + wI.size ≤ 9223372036854775807 then (some ((⟨#[45]⟩ : ByteArray) ++ wI)) else (none))) else (if a0 < 10 then (some (strOfNums (([(wrap64 (48 + a0)) % 256] : List Int)))) else ((spec_l1Dec.f k (wrap64 (Int.tdiv a0 10))).bind fun oQ => ((some (([(wrap64 (48 + (Int.tmod a0 10))) % 256] : List Int) : List Int)).bind fun pr => (if oQ.size + (strOfNums pr).size ≤ 9223372036854775807 then (some (oQ ++ (strOfNums pr))) else (none))))))
theorem spec_l1Dec.mono_l : ∀ k, (∀ y0, LeO (spec_l1Dec.f k y0) (spec_l1Dec.f (k + 1) y0))
 | 0 => fun _ r h => by simp [spec_l1Dec.f] at h
 | k + 1 => by
  have ih0 := spec_l1Dec.mono_l k
  ·intro y0; unfold spec_l1Dec.f
   repeat' first
   | (with_reducible exact ih0 _)
   | exact lm
   | (with_reducible refine LeO.ite ?_ ?_)
   | (with_reducible refine LeO.bind ?_ (fun _ => ?_))
   | exact LeO.none _
theorem spec_l1Dec.mono : ∀ a0 k, LeO (spec_l1Dec.f k a0) (spec_l1Dec.f (k + 1) a0) := by
 intro a0 k; have ih0 := spec_l1Dec.mono_l k; exact ih0 a0
def spec_l1Dec.T7 : Bool × List (List Nat × List Nat) := (true, [([], []), ([0], [0]), ([1], [1]), ([], []), ([3], [3]), ([4], [4]), ([5], [5]), ([6], [6]), ([7], [7]), ([2, 8], [2, 8]), ([9, 2, 0, 1, 2, 3, 4, 5, 6, 7, 8, 9], [9])])
def spec_l1Dec.B7 : List Nat := [0, 1, 3, 0, 8, 24, 56, 120, 248, 511, 1023]
theorem spec_l1Dec.tab7 : rtab .any (opsOf Tryd.f73 7) = spec_l1Dec.T7 := by kernel_rfl
theorem spec_l1Dec.bits7 : waitsOk spec_l1Dec.T7.2 spec_l1Dec.B7 = true := by kernel_rfl
set_option maxHeartbeats 8000000 in
set_option maxRecDepth 100000 in
theorem spec_l1Dec.calls (k : Nat) : ∀ (a0 : Int) (r : ByteArray) (w : World) (h : spec_l1Dec.f k a0 = some r),
  Calls Tryd.prog 73 #[.int .i64 a0] w fun e w' => e = .returned (.string r) ∧ Below w.heap.size w w' := by
 induction k using Nat.strongRecOn with
 | _ k ih =>
 intro a0 r w h
 cases k with
 | zero => exact absurd h (by simp [spec_l1Dec.f])
 | succ k =>
 simp only [spec_l1Dec.f] at h; have HB := zA (yG w.heap.size w); have H : (if a0 < (-9223372036854775807) then (some (⟨#[45, 57, 50, 50, 51, 51, 55, 50, 48, 51, 54, 56, 53, 52, 55, 55, 53, 56, 48, 56]⟩ : ByteArray)) else (if a0 < 0 then ((spec_l1Dec.f k (wrap64 (-a0))).bind fun wI => (if 1 + wI.size ≤ 9223372036854775807 then (some ((⟨#[45]⟩ : ByteArray) ++ wI)) else (none))) else (if a0 < 10 then (some (strOfNums (([(wrap64 (48 + a0)) % 256] : List Int)))) else ((spec_l1Dec.f k (wrap64 (Int.tdiv a0 10))).bind fun oQ => ((some (([(wrap64 (48 + (Int.tmod a0 10))) % 256] : List Int) : List Int)).bind fun pr => (if oQ.size + (strOfNums pr).size ≤ 9223372036854775807 then (some (oQ ++ (strOfNums pr))) else (none))))))) = some r := h; clear h; by_cases c2 : a0 < (-9223372036854775807)
 ·rw [if_pos c2] at H; have ka : decide (a0 < (-9223372036854775807)) = true := yD c2; clear c2; obtain rfl := yF H; go_enter Tryd.func73, Tryd.ntmps73; go_wp2
  go_ret
  exact ⟨apE, apA⟩
 ·rw [if_neg c2] at H; have ka : decide (a0 < (-9223372036854775807)) = false := decide_eq_false c2; clear c2; by_cases c3 : a0 < 0
  ·rw [if_pos c3] at H; have i2 : decide (a0 < 0) = true := yD c3; clear c3; replace H := Option.bind_eq_some_iff.mp H; obtain ⟨wI, A40, H⟩ := H; have A4 := zA A40; clear A40; by_cases c5 : 1 + wI.size ≤ 9223372036854775807
   ·rw [if_pos c5] at H; have dI := eq_true c5; have eP : decide (1 + wI.size ≤ 9223372036854775807) = true := yD c5; (try have c5b2 : (9223372036854775807 < 1 + wI.size) = False := eq_false (Nat.not_lt.2 c5)); obtain rfl := yF H; go_enter Tryd.func73, Tryd.ntmps73; go_wp2_with (first | ((with_reducible refine zV (f := 73) rfl ?_); refine goesL_ (some 9) rfl rfl Tryd.func73 (by kernel_rfl) rfl #[.int .i64 (wrap64 (-a0))] rfl apC ?_; (with_reducible refine (ih k (by omega) (wrap64 (-a0)) wI _ A4.out).mono ?_); rintro e w6 ⟨rfl, hb⟩; refine ⟨_, rfl, ?_⟩; replace HB := zA (zQ apA hb); (try clear hb hk hi)))
    go_ret
    exact ⟨apE, apA⟩
   ·rw [if_neg c5] at H; exact absurd H (by simp)
  ·rw [if_neg c3] at H; have i2 : decide (a0 < 0) = false := decide_eq_false c3; clear c3; by_cases c7 : a0 < 10
   ·rw [if_pos c7] at H; have kb : decide (a0 < 10) = true := yD c7; clear c7; obtain ⟨y559, C1⟩ : ∃ y_ : List Int, y_ = (([(wrap64 (48 + a0)) % 256] : List Int)) := ⟨_, rfl⟩
    replace H : (some (strOfNums y559)) = some r := by first | (rw [C1]; with_reducible exact H) | (have H2_ := (Option.bind_some _ _).symm.trans H; rw [C1]; with_reducible exact H2_) | (have H2_ := (Option.bind_some _ _).symm.trans H; with_reducible exact H2_) | with_reducible exact H | (rw [C1]; exact H) | exact H
    have RO := zA C1; clear C1; obtain rfl := yF H; go_enter Tryd.func73, Tryd.ntmps73; go_wp2_with (first | ((with_reducible refine zT (N := 16) rfl ?_); refine Kd.R_lit (Kd.int .u8) _ 5 ?hg (N := 16) ?hd (xs := ([(wrap64 (48 + a0)) % 256] : List Int)) (inner := [.int .u8 ((wrap64 (48 + a0)) % 256)]) (ok := fun _ => True) (okp := fun _ => True) ?hr ?hp (fun _ hk => hk) trivial (yG _ _) (yH _) (by simp) ?_; (case hd => rfl); (case hg => rfl); (case hr => first | (go_simp; done) | (go_simp; rfl)); (case hp => exact (Reps.one rfl (Reps.none _ _))); intro v560 w8 ho9 hb hg_ hnew_; clear hg_ hnew_; (first | rw [← RO.out] at ho9 | (simp only [Int.reduceToNat] at ho9; rw [← RO.out] at ho9)); have Yv := zA (Kd.R_lower ho9 (zR apA)); replace HB := zA (zQ apA hb); clear hb ho9; have hcv10 := own_string (P := Tryd.prog) Tryd.underlying37 Tryd.underlying5 Tryd.underlying9 (Kd.own_of_R Yv.out)))
    go_ret
    exact ⟨apE, apA⟩
   ·rw [if_neg c7] at H; have kb : decide (a0 < 10) = false := decide_eq_false c7; clear c7; replace H := Option.bind_eq_some_iff.mp H; obtain ⟨oQ, Lr, H⟩ := H; have A11 := zA Lr; clear Lr; obtain ⟨pr, C2⟩ : ∃ y_ : List Int, y_ = (([(wrap64 (48 + (Int.tmod a0 10))) % 256] : List Int)) := ⟨_, rfl⟩
    replace H : (if oQ.size + (strOfNums pr).size ≤ 9223372036854775807 then (some (oQ ++ (strOfNums pr))) else (none)) = some r := by first | (rw [C2]; with_reducible exact H) | (have H2_ := (Option.bind_some _ _).symm.trans H; rw [C2]; with_reducible exact H2_) | (have H2_ := (Option.bind_some _ _).symm.trans H; with_reducible exact H2_) | with_reducible exact H | (rw [C2]; exact H) | exact H
    have Hv := zA C2; clear C2; by_cases c12 : oQ.size + (strOfNums pr).size ≤ 9223372036854775807
    ·rw [if_pos c12] at H; have BP := eq_true c12; have c12b1 : decide (oQ.size + (strOfNums pr).size ≤ 9223372036854775807) = true := yD c12; (try have c12b2 : (9223372036854775807 < oQ.size + (strOfNums pr).size) = False := eq_false (Nat.not_lt.2 c12)); obtain rfl := yF H; go_enter Tryd.func73, Tryd.ntmps73; (try go_wp2); replace HB := zA (zF HB.out); refine start_ (n := 11) (S := fun w' => True) (ds := []) mk76 (by kernel_rfl) rfl rfl trivial (fun hHeld => ?_); refine with_tabW spec_l1Dec.tab7 spec_l1Dec.bits7 (fun HT_ HW_ => ?_); generalize w.drew = w13 at HB hHeld ⊢; refine pz (i := 0) (N := some 18) mk77 ?_; refine pz (i := 1) (N := some 19) mk78 ?_; refine pz (i := 3) (N := some 21) mk79 ?_; refine pz (i := 4) (N := some 22) #[true, true, false, true, true, false, false, false, false, false, false] ?_; refine pz (i := 5) (N := some 23) #[true, true, false, true, true, true, false, false, false, false, false] ?_; refine pz (i := 6) (N := some 24) #[true, true, false, true, true, true, true, false, false, false, false] ?_; refine join_ (σ := Value) 2 mk15 (fun s_ => [(20, .string oQ), (25, s_), (26, .string (strOfNums pr))]) (fun s_ w' => (Kd.R (Kd.int .u8) 5 w' w.heap.size (fun _ => True) s_ pr) ∧ (Below w.heap.size w w')) ?_ ?_; rotate_left
     ·intro hCont; refine two_ (i := 2) (j := 7) (Ni := some 20) (Nj := some 25) #[true, true, true, true, true, true, true, false, false, false, false] #[true, true, false, true, true, true, true, true, false, false, false] rfl rfl rfl rfl (two_of HT_.out (by kernel_rfl)) (by decide) (by decide) (fun K hK => ?_) (fun K hK => ?_)
      ·skip
       refine goes_ Tryd.func73 (by kernel_rfl) rfl #[.int .i64 (wrap64 (Int.tdiv a0 10))] (by rfl) rfl rfl apC ?_
       with_reducible refine (ih k (by omega) (wrap64 (Int.tdiv a0 10)) oQ _ A11.out).mono ?_
       rintro e w14 ⟨rfl, hb⟩; refine ⟨_, rfl, ?_⟩; replace HB := zA (zQ apA hb)
       (try clear hb)
       (try clear hb2)
       (try clear hk)
       (try clear hi)
       refine hK.out _ _ trivial (fun hHeld => ?_); clear hK K; refine norm_ (a' := ?_) ?_ ?_; rotate_left
       ·show Act.put _ (some 20) _ = _
        simp only [Act.put, zL, zM, zN, i64_w, i32_w]; rfl
       refine oz (i := 7) (N := some 25) mk69 (fun K hK => ?_); refine Kd.R_lit_step (Kd.int .u8) _ 5 ?hg (N := 25) ?hd (xs := ([(wrap64 (48 + (Int.tmod a0 10))) % 256] : List Int)) (inner := [.int .u8 ((wrap64 (48 + (Int.tmod a0 10))) % 256)]) (ok := fun _ => True) (okp := fun _ => True) ?hr ?hp (fun _ hk => hk) trivial (yG _ _) (yH _) (by simp) ?_; (case hd => rfl); (case hg => rfl); (case hr => first | (go_simp; done) | (go_simp; rfl)); (case hp => exact (Reps.one rfl (Reps.none _ _))); intro JM w15 vo hb hg_ hnew_; clear hg_ hnew_
       (first | rw [← Hv.out] at vo | (simp only [Int.reduceToNat] at vo; rw [← Hv.out] at vo))
       have mE := zA (Kd.R_lower vo (zR apA)); replace HB := zA (zQ apA hb); clear hb vo; refine hK.out _ _ trivial (fun hHeld => ?_); clear hK K; refine norm_ (a' := ?_) ?_ ?_; rotate_left
       ·show Act.put _ (some 25) _ = _
        simp only [Act.put, zL, zM, zN, i64_w, i32_w]; rfl
       refine oz (i := 8) (N := some 26) mk15 (fun K hK => ?_); have Ls := own_string (P := Tryd.prog) Tryd.underlying37 Tryd.underlying5 Tryd.underlying9 (Kd.own_of_R mE.out); refine value_ (w1 := ?_) (v := ?_) (by rfl) rfl ?_ ?_; rotate_left 2
       ·go_simp
        constructor
        ·rfl
        ·rfl
       clear Ls; refine hK.out _ _ trivial (fun hHeld => ?_); clear hK K; refine norm_ (a' := ?_) ?_ ?_; rotate_left
       ·show Act.put _ (some 26) _ = _
        simp only [Act.put, zL, zM, zN, i64_w, i32_w]; rfl
       exact norm_ apl (hCont (JM) _ ⟨(vwR mE.out), apA⟩)
      ·skip
       refine Kd.R_lit_step (Kd.int .u8) _ 5 ?hg (N := 25) ?hd (xs := ([(wrap64 (48 + (Int.tmod a0 10))) % 256] : List Int)) (inner := [.int .u8 ((wrap64 (48 + (Int.tmod a0 10))) % 256)]) (ok := fun _ => True) (okp := fun _ => True) ?hr ?hp (fun _ hk => hk) trivial (yG _ _) (yH _) (by simp) ?_; (case hd => rfl); (case hg => rfl); (case hr => first | (go_simp; done) | (go_simp; rfl)); (case hp => exact (Reps.one rfl (Reps.none _ _))); intro JM w14 Lt hb hg_ hnew_; clear hg_ hnew_
       (first | rw [← Hv.out] at Lt | (simp only [Int.reduceToNat] at Lt; rw [← Hv.out] at Lt))
       have mE := zA (Kd.R_lower Lt (zR apA)); replace HB := zA (zQ apA hb); clear hb Lt; refine hK.out _ _ trivial (fun hHeld => ?_); clear hK K; refine norm_ (a' := ?_) ?_ ?_; rotate_left
       ·show Act.put _ (some 25) _ = _
        simp only [Act.put, zL, zM, zN, i64_w, i32_w]; rfl
       refine two_ (i := 2) (j := 8) (Ni := some 20) (Nj := some 26) mk69 #[true, true, false, true, true, true, true, true, true, false, false] rfl rfl rfl rfl (two_of HT_.out (by kernel_rfl)) (by decide) (by decide) (fun K hK => ?_) (fun K hK => ?_)
       ·skip
        refine goes_ Tryd.func73 (by kernel_rfl) rfl #[.int .i64 (wrap64 (Int.tdiv a0 10))] (by rfl) rfl rfl apC ?_
        with_reducible refine (ih k (by omega) (wrap64 (Int.tdiv a0 10)) oQ _ A11.out).mono ?_
        rintro e w16 ⟨rfl, hb⟩; refine ⟨_, rfl, ?_⟩; replace mE := zA (Kd.R_below (vwR mE.out) hb); replace HB := zA (zQ apA hb)
        (try clear hb)
        (try clear hb2)
        (try clear hk)
        (try clear hi)
        refine hK.out _ _ trivial (fun hHeld => ?_); clear hK K; refine norm_ (a' := ?_) ?_ ?_; rotate_left
        ·show Act.put _ (some 20) _ = _
         simp only [Act.put, zL, zM, zN, i64_w, i32_w]; rfl
        refine oz (i := 8) (N := some 26) mk15 (fun K hK => ?_); have Ls := own_string (P := Tryd.prog) Tryd.underlying37 Tryd.underlying5 Tryd.underlying9 (Kd.own_of_R mE.out); refine value_ (w1 := ?_) (v := ?_) (by rfl) rfl ?_ ?_; rotate_left 2
        ·go_simp
         constructor
         ·rfl
         ·rfl
        clear Ls; refine hK.out _ _ trivial (fun hHeld => ?_); clear hK K; refine norm_ (a' := ?_) ?_ ?_; rotate_left
        ·show Act.put _ (some 26) _ = _
         simp only [Act.put, zL, zM, zN, i64_w, i32_w]; rfl
        exact norm_ apl (hCont (JM) _ ⟨(vwR mE.out), apA⟩)
       ·skip
        have Yw := own_string (P := Tryd.prog) Tryd.underlying37 Tryd.underlying5 Tryd.underlying9 (Kd.own_of_R mE.out); refine value_ (w1 := ?_) (v := ?_) (by rfl) rfl ?_ ?_; rotate_left 2
        ·go_simp
         constructor
         ·rfl
         ·rfl
        clear Yw; refine hK.out _ _ trivial (fun hHeld => ?_); clear hK K; refine norm_ (a' := ?_) ?_ ?_; rotate_left
        ·show Act.put _ (some 26) _ = _
         simp only [Act.put, zL, zM, zN, i64_w, i32_w]; rfl
        refine oz (i := 2) (N := some 20) mk15 (fun K hK => ?_); refine goes_ Tryd.func73 (by kernel_rfl) rfl #[.int .i64 (wrap64 (Int.tdiv a0 10))] (by rfl) rfl rfl apC ?_
        with_reducible refine (ih k (by omega) (wrap64 (Int.tdiv a0 10)) oQ _ A11.out).mono ?_
        rintro e w17 ⟨rfl, hb⟩; refine ⟨_, rfl, ?_⟩; replace mE := zA (Kd.R_below (vwR mE.out) hb); replace HB := zA (zQ apA hb)
        (try clear hb)
        (try clear hb2)
        (try clear hk)
        (try clear hi)
        refine hK.out _ _ trivial (fun hHeld => ?_); clear hK K; refine norm_ (a' := ?_) ?_ ?_; rotate_left
        ·show Act.put _ (some 20) _ = _
         simp only [Act.put, zL, zM, zN, i64_w, i32_w]; rfl
        exact norm_ apl (hCont (JM) _ ⟨(vwR mE.out), apA⟩)
     rintro JM w18 ⟨h0_, h1_⟩; have n0_ : Aside0 (Kd.R (Kd.int .u8) 5 w18 w.heap.size (fun _ => True) JM pr) := ⟨h0_⟩; have n1_ : Aside0 (Below w.heap.size w w18) := ⟨h1_⟩; clear HB; clear h0_ h1_; have mE := n0_; have HB := n1_; clear n0_ n1_; have hHeld := trivial; refine norm_ (a' := ?_) ?_ ?_; rotate_left
     ·simp only [putAll, Act.put, zL, zM, zN]; rfl
     refine pz (i := 9) (N := some 27) #[true, true, true, true, true, true, true, true, true, true, false] ?_; refine pz (i := 10) (N := some 2) #[true, true, true, true, true, true, true, true, true, true, true] ?_; refine done_ (done_of HT_.out (by kernel_rfl)) ?_; (try go_wp2)
     go_ret
     exact ⟨apE, apA⟩
    ·rw [if_neg c12] at H; exact absurd H (by simp)


def spec_l1Digits.f (k : Nat) (a0 : Int) : Option (Int) := (spec_l1Dec.f k a0).bind fun mf => (some (mf.size : Int))
theorem spec_l1Digits.mono : ∀ a0 k, LeO (spec_l1Digits.f k a0) (spec_l1Digits.f (k + 1) a0) := by
 intro a0 k; unfold spec_l1Digits.f
 repeat' first
   | (with_reducible exact spec_l1Dec.mono _ _)
   | exact lm
   | (with_reducible refine LeO.ite ?_ ?_)
   | (with_reducible refine LeO.bind ?_ (fun _ => ?_))
   | exact LeO.none _
set_option maxHeartbeats 8000000 in
set_option maxRecDepth 100000 in
theorem spec_l1Digits.calls (k : Nat) (a0 : Int) (r : Int) (w : World) (h : spec_l1Digits.f k a0 = some r) :
  Calls Tryd.prog 64 #[.int .i64 a0] w fun e w' => e = .returned (.int .i64 r) ∧ Below w.heap.size w w' := by
 have HB := zA (yG w.heap.size w); have H : ((spec_l1Dec.f k a0).bind fun mf => (some (mf.size : Int))) = some r := h; clear h; replace H := Option.bind_eq_some_iff.mp H; obtain ⟨mf, A20, H⟩ := H; have A2 := zA A20; clear A20; obtain rfl := yF H; go_enter Tryd.func64, Tryd.ntmps64; go_wp2_with (first | ((with_reducible refine zV (f := 73) rfl ?_); refine goesL_ (some 4) rfl rfl Tryd.func73 (by kernel_rfl) rfl #[.int .i64 a0] rfl apC ?_; (with_reducible refine (spec_l1Dec.calls k a0 mf _ A2.out).mono ?_); rintro e w3 ⟨rfl, hb⟩; refine ⟨_, rfl, ?_⟩; replace HB := zA (zQ apA hb); (try clear hb hk hi)))
 go_ret
 exact ⟨apE, apA⟩


def spec_l1Abs.f (a0 : Int) : Option (Int) := if a0 < 0 then (some (wrap64 (-a0))) else (some a0)
set_option maxHeartbeats 8000000 in
set_option maxRecDepth 100000 in
theorem spec_l1Abs.calls (a0 : Int) (r : Int) (w : World) (h : spec_l1Abs.f a0 = some r) :
  Calls Tryd.prog 65 #[.int .i64 a0] w fun e w' => e = .returned (.int .i64 r) ∧ Drawn0 w w' := by
 have H : (if a0 < 0 then (some (wrap64 (-a0))) else (some a0)) = some r := h; clear h; by_cases c2 : a0 < 0
 ·rw [if_pos c2] at H; have ka : decide (a0 < 0) = true := yD c2; clear c2; obtain rfl := yF H; go_enter Tryd.func65, Tryd.ntmps65; go_wp2
  go_ret
  exact ⟨apB, apG⟩
 ·rw [if_neg c2] at H; have ka : decide (a0 < 0) = false := decide_eq_false c2; clear c2; obtain rfl := yF H; go_enter Tryd.func65, Tryd.ntmps65; go_wp2
  go_ret
  exact ⟨apB, apG⟩


mutual
def spec_l1Cmp.l0 : Nat → Int → Int → Int → Int → Int → Int → Int → Option (Int)
 | 0, _, _, _, _, _, _, _ => none
 | k + 1, x7, x8, x9, t8, pt, Oi, zp => if x9 > zp then (spec_l1Cmp.l0 k (wrap64 (x7 * 10)) x8 (wrap64 (x9 - 1)) t8 pt Oi zp) else (spec_l1Cmp.l1 k x7 x8 zp t8 pt)
def spec_l1Cmp.l1 : Nat → Int → Int → Int → Int → Int → Option (Int)
 | 0, _, _, _, _, _ => none
 | k + 1, x7, x8, x10, t8, pt => if x10 > pt then (spec_l1Cmp.l1 k x7 (wrap64 (x8 * 10)) (wrap64 (x10 - 1)) t8 pt) else ((spec_l1Sign.f (wrap64 (x7 - x8))).bind fun Uz => (some Uz))
end
def spec_l1Cmp.f (k : Nat) (aa : Int) (ae : Int) (aK : Int) (aU : Int) : Option (Int) := (spec_l1Sign.f aa).bind fun mf => ((spec_l1Sign.f aK).bind fun rH => (if mf = rH then (if aa = 0 then (some 0) else ((spec_l1Abs.f aa).bind fun wJ => ((spec_l1Digits.f k wJ).bind fun oR => ((spec_l1Abs.f aK).bind fun wK => ((spec_l1Digits.f k wK).bind fun oS => (if (wrap64 (oR + ae)) = (wrap64 (oS + aU)) then (spec_l1Cmp.l0 k aa aK ae aa ae aK aU) else ((spec_l1Sign.f (wrap64 ((wrap64 (oR + ae)) - (wrap64 (oS + aU))))).bind fun Lu => ((spec_l1Sign.f aa).bind fun Lv => (some (wrap64 (Lu * Lv))))))))))) else ((spec_l1Sign.f aa).bind fun CV => ((spec_l1Sign.f aK).bind fun CW => ((spec_l1Sign.f (wrap64 (CV - CW))).bind fun Lw => (some Lw))))))
theorem spec_l1Cmp.mono_l : ∀ k, (∀ y0 y1 y2 y3 y4 y5 y6, LeO (spec_l1Cmp.l0 k y0 y1 y2 y3 y4 y5 y6) (spec_l1Cmp.l0 (k + 1) y0 y1 y2 y3 y4 y5 y6)) ∧ (∀ y0 y1 y2 y3 y4, LeO (spec_l1Cmp.l1 k y0 y1 y2 y3 y4) (spec_l1Cmp.l1 (k + 1) y0 y1 y2 y3 y4))
 | 0 => ⟨fun _ _ _ _ _ _ _ r h => by simp [spec_l1Cmp.l0] at h, fun _ _ _ _ _ r h => by simp [spec_l1Cmp.l1] at h⟩
 | k + 1 => by
  obtain ⟨ih0, ih1⟩ := spec_l1Cmp.mono_l k; refine ⟨?_, ?_⟩
  ·intro y0 y1 y2 y3 y4 y5 y6; unfold spec_l1Cmp.l0
   repeat' first
   | (with_reducible exact ih0 _ _ _ _ _ _ _)
   | (with_reducible exact ih1 _ _ _ _ _)
   | (with_reducible exact spec_l1Digits.mono _ _)
   | exact lm
   | (with_reducible refine LeO.ite ?_ ?_)
   | (with_reducible refine LeO.bind ?_ (fun _ => ?_))
   | exact LeO.none _
  ·intro y0 y1 y2 y3 y4; unfold spec_l1Cmp.l1
   repeat' first
   | (with_reducible exact ih0 _ _ _ _ _ _ _)
   | (with_reducible exact ih1 _ _ _ _ _)
   | (with_reducible exact spec_l1Digits.mono _ _)
   | exact lm
   | (with_reducible refine LeO.ite ?_ ?_)
   | (with_reducible refine LeO.bind ?_ (fun _ => ?_))
   | exact LeO.none _
theorem spec_l1Cmp.mono : ∀ a0 a1 a2 a3 k, LeO (spec_l1Cmp.f k a0 a1 a2 a3) (spec_l1Cmp.f (k + 1) a0 a1 a2 a3) := by
 intro a0 a1 a2 a3 k; obtain ⟨ih0, ih1⟩ := spec_l1Cmp.mono_l k; unfold spec_l1Cmp.f
 repeat' first
   | (with_reducible exact ih0 _ _ _ _ _ _ _)
   | (with_reducible exact ih1 _ _ _ _ _)
   | (with_reducible exact spec_l1Digits.mono _ _)
   | exact lm
   | (with_reducible refine LeO.ite ?_ ?_)
   | (with_reducible refine LeO.bind ?_ (fun _ => ?_))
   | exact LeO.none _
def spec_l1Cmp.T2 : Bool × List (List Nat × List Nat) := (true, [([], []), ([0], [0]), ([1], [1]), ([], []), ([3], [3]), ([4, 2], [4]), ([2, 5], [2, 5]), ([6, 5], [6]), ([7, 7, 0, 1, 2, 3, 4, 5, 6, 7], [7])])
def spec_l1Cmp.B2 : List Nat := [0, 1, 3, 0, 8, 31, 63, 127, 255]
theorem spec_l1Cmp.tab2 : rtab .any (opsOf Tryd.f47 2) = spec_l1Cmp.T2 := by kernel_rfl
theorem spec_l1Cmp.bits2 : waitsOk spec_l1Cmp.T2.2 spec_l1Cmp.B2 = true := by kernel_rfl
def spec_l1Cmp.T5 : Bool × List (List Nat × List Nat) := (true, [([], []), ([0], [0]), ([1], [1]), ([2, 2], [2]), ([], []), ([4], [4]), ([3, 5], [3, 5]), ([6, 3, 0, 1, 2, 3, 4, 5, 6], [6])])
def spec_l1Cmp.B5 : List Nat := [0, 1, 3, 7, 0, 16, 63, 127]
theorem spec_l1Cmp.tab5 : rtab .any (opsOf Tryd.f47 5) = spec_l1Cmp.T5 := by kernel_rfl
theorem spec_l1Cmp.bits5 : waitsOk spec_l1Cmp.T5.2 spec_l1Cmp.B5 = true := by kernel_rfl
def spec_l1Cmp.T6 : Bool × List (List Nat × List Nat) := (true, [([], []), ([0], [0]), ([1], [1]), ([2, 2], [2]), ([], []), ([4], [4]), ([3, 5], [3, 5]), ([6, 3, 0, 1, 2, 3, 4, 5, 6], [6])])
def spec_l1Cmp.B6 : List Nat := [0, 1, 3, 7, 0, 16, 63, 127]
theorem spec_l1Cmp.tab6 : rtab .any (opsOf Tryd.f47 6) = spec_l1Cmp.T6 := by kernel_rfl
theorem spec_l1Cmp.bits6 : waitsOk spec_l1Cmp.T6.2 spec_l1Cmp.B6 = true := by kernel_rfl
def spec_l1Cmp.T8 : Bool × List (List Nat × List Nat) := (true, [([], []), ([], []), ([0, 1], [0, 1]), ([2], [2]), ([], []), ([4], [4]), ([5, 3], [5]), ([3, 6], [3, 6]), ([7, 6, 0, 1, 2, 3, 4, 5, 6, 7], [7])])
def spec_l1Cmp.B8 : List Nat := [0, 0, 3, 7, 0, 16, 63, 127, 255]
theorem spec_l1Cmp.tab8 : rtab .any (opsOf Tryd.f47 8) = spec_l1Cmp.T8 := by kernel_rfl
theorem spec_l1Cmp.bits8 : waitsOk spec_l1Cmp.T8.2 spec_l1Cmp.B8 = true := by kernel_rfl
set_option maxHeartbeats 8000000 in
set_option maxRecDepth 100000 in
theorem spec_l1Cmp.calls (k : Nat) (aa : Int) (ae : Int) (aK : Int) (aU : Int) (r : Int) (w : World) (h : spec_l1Cmp.f k aa ae aK aU = some r) :
  Calls Tryd.prog 47 #[.agg #[.int .i64 aa, .int .i64 ae], .agg #[.int .i64 aK, .int .i64 aU]] w fun e w' => e = .returned (.int .i64 r) ∧ Below w.heap.size w w' := by
 have sn := Tryd.underlying30; have HB := zA (yG w.heap.size w); have H : ((spec_l1Sign.f aa).bind fun mf => ((spec_l1Sign.f aK).bind fun rH => (if mf = rH then (if aa = 0 then (some 0) else ((spec_l1Abs.f aa).bind fun wJ => ((spec_l1Digits.f k wJ).bind fun oR => ((spec_l1Abs.f aK).bind fun wK => ((spec_l1Digits.f k wK).bind fun oS => (if (wrap64 (oR + ae)) = (wrap64 (oS + aU)) then (spec_l1Cmp.l0 k aa aK ae aa ae aK aU) else ((spec_l1Sign.f (wrap64 ((wrap64 (oR + ae)) - (wrap64 (oS + aU))))).bind fun Lu => ((spec_l1Sign.f aa).bind fun Lv => (some (wrap64 (Lu * Lv))))))))))) else ((spec_l1Sign.f aa).bind fun CV => ((spec_l1Sign.f aK).bind fun CW => ((spec_l1Sign.f (wrap64 (CV - CW))).bind fun Lw => (some Lw))))))) = some r := h; clear h; replace H := Option.bind_eq_some_iff.mp H; obtain ⟨mf, A30, H⟩ := H; have A3 := zA A30; clear A30; replace H := Option.bind_eq_some_iff.mp H; obtain ⟨rH, A40, H⟩ := H; have A4 := zA A40; clear A40; by_cases c5 : mf = rH
 ·rw [if_pos c5] at H; have dI : (mf == rH) = true := beq_iff_eq.mpr c5; have eP : (mf != rH) = false := bne_eq_false_iff_eq.mpr c5; clear c5; by_cases c6 : aa = 0
  ·rw [if_pos c6] at H; have oC : (aa == 0) = true := beq_iff_eq.mpr c6; have wE : (aa != 0) = false := bne_eq_false_iff_eq.mpr c6; clear c6; obtain rfl := yF H; go_enter Tryd.func47, Tryd.ntmps47; (try go_wp2_with (first | ((with_reducible refine zT (N := 2) rfl ?_); refine zW (by rfl) (N := 2) (by rfl) (cs := #[.int .i64 aa, .int .i64 ae]) (t := 30) apF ?_; intro g1 hg w7 hbox hb; have b6 := zA (hbox); have Lx := zA (gwl hg (zR apA)); have eO := zA (gwl hg (zR apA)); replace HB := zA (zQ apA hb); clear hb hbox hg) | ((with_reducible refine zT (N := 3) rfl ?_); refine zW (by rfl) (N := 3) (by rfl) (cs := #[.int .i64 aK, .int .i64 aU]) (t := 30) apF ?_; intro gq hg w8 hbox hb; have bB := zA (hbox); have Ly := zA (gwl hg (zR apg)); have kk := zA (gwl hg (zR apg)); replace HB := zA (zQ apg hb); have eC := zA (nbl hg (vwB b6.out)); have i7 := zA eC.out.symm; replace b6 := zA (zP (vwB b6.out) hb); clear hb hbox hg))); replace b6 := zA (zD b6.out); replace bB := zA (zD bB.out); replace HB := zA (zF HB.out); refine start_ (n := 7) (S := fun w' => w'.cell? ⟨g1, 0, none⟩ = some (.int .i64 aa) ∧ w'.cell? ⟨g1, 1, none⟩ = some (.int .i64 ae) ∧ w'.cell? ⟨gq, 0, none⟩ = some (.int .i64 aK) ∧ w'.cell? ⟨gq, 1, none⟩ = some (.int .i64 aU)) (ds := []) mk16 (by kernel_rfl) rfl rfl (zd2 b6.out (zc2 bB.out)) (fun hHeld => ?_); generalize w8.drew = w9 at b6 bB HB hHeld ⊢; refine pz (i := 0) (N := some 11) mk17 ?_; refine pz (i := 3) (N := some 14) mk21 ?_; refine tz4 (i := 1) (N := some 12) mk22 hHeld ?_; refine tz4 (i := 4) (N := some 15) mk23 hHeld ?_; refine oz (i := 2) (N := some 13) mk18 (fun K hK => ?_); refine goes_ Tryd.func46 (by kernel_rfl) rfl #[.int .i64 aa] (by rfl) rfl rfl apC ?_
   with_reducible refine (spec_l1Sign.calls aa mf _ A3.out).mono ?_
   rintro e w' ⟨rfl, ⟨nd, rfl⟩⟩; refine ⟨_, rfl, ?_⟩; refine hK.out _ _ (zd2 b6.out (zc2 bB.out)) (fun hHeld => ?_); clear hK K; refine norm_ (a' := ?_) ?_ ?_; rotate_left
   ·show Act.put _ (some 13) _ = _
    simp only [Act.put, zL, zM, zN, i64_w, i32_w]; rfl
   refine oz (i := 5) (N := some 16) mk19 (fun K hK => ?_); refine goes_ Tryd.func46 (by kernel_rfl) rfl #[.int .i64 aK] (by rfl) rfl rfl apC ?_
   with_reducible refine (spec_l1Sign.calls aK rH _ A4.out).mono ?_
   rintro e w' ⟨rfl, ⟨nd, rfl⟩⟩; refine ⟨_, rfl, ?_⟩; refine hK.out _ _ (zd2 b6.out (zc2 bB.out)) (fun hHeld => ?_); clear hK K; refine norm_ (a' := ?_) ?_ ?_; rotate_left
   ·show Act.put _ (some 16) _ = _
    simp only [Act.put, zL, zM, zN, i64_w, i32_w]; rfl
   refine pz (i := 6) (N := some 17) mk20 ?_; refine done_ (by kernel_rfl) ?_; have RP := eC.out; have RQ := i7.out; obtain ⟨_, _, _, _⟩ := zb2 b6.out; (try go_wp2)
   go_ret
   exact ⟨apE, aph⟩
  ·rw [if_neg c6] at H; have oC : (aa == 0) = false := beq_eq_false_iff_ne.mpr c6; have wE : (aa != 0) = true := bne_iff_ne.mpr c6; replace H := Option.bind_eq_some_iff.mp H; obtain ⟨wJ, BE, H⟩ := H; have A12 := zA BE; clear BE; replace H := Option.bind_eq_some_iff.mp H; obtain ⟨oR, Oj, H⟩ := H; have A13 := zA Oj; clear Oj; replace H := Option.bind_eq_some_iff.mp H; obtain ⟨wK, Yx, H⟩ := H; have A14 := zA Yx; clear Yx; replace H := Option.bind_eq_some_iff.mp H; obtain ⟨oS, Lz, H⟩ := H; have A15 := zA Lz; clear Lz; by_cases c16 : (wrap64 (oR + ae)) = (wrap64 (oS + aU))
   ·rw [if_pos c16] at H; have km : ((wrap64 (oR + ae)) == (wrap64 (oS + aU))) = true := beq_iff_eq.mpr c16; have l8 : ((wrap64 (oR + ae)) != (wrap64 (oS + aU))) = false := bne_eq_false_iff_eq.mpr c16; clear c16; have H' := zA H; clear H; go_enter Tryd.func47, Tryd.ntmps47; (try go_wp2_with (first | ((with_reducible refine zT (N := 2) rfl ?_); refine zW (by rfl) (N := 2) (by rfl) (cs := #[.int .i64 aa, .int .i64 ae]) (t := 30) apF ?_; intro g1 hg w17 hbox hb; have b6 := zA (hbox); have Lx := zA (gwl hg (zR apA)); have eO := zA (gwl hg (zR apA)); replace HB := zA (zQ apA hb); clear hb hbox hg) | ((with_reducible refine zT (N := 3) rfl ?_); refine zW (by rfl) (N := 3) (by rfl) (cs := #[.int .i64 aK, .int .i64 aU]) (t := 30) apF ?_; intro gq hg w18 hbox hb; have bB := zA (hbox); have Ly := zA (gwl hg (zR apg)); have kk := zA (gwl hg (zR apg)); replace HB := zA (zQ apg hb); have eC := zA (nbl hg (vwB b6.out)); have i7 := zA eC.out.symm; replace b6 := zA (zP (vwB b6.out) hb); clear hb hbox hg))); replace b6 := zA (zD b6.out); replace bB := zA (zD bB.out); replace HB := zA (zF HB.out); refine start_ (n := 7) (S := fun w' => w'.cell? ⟨g1, 0, none⟩ = some (.int .i64 aa) ∧ w'.cell? ⟨g1, 1, none⟩ = some (.int .i64 ae) ∧ w'.cell? ⟨gq, 0, none⟩ = some (.int .i64 aK) ∧ w'.cell? ⟨gq, 1, none⟩ = some (.int .i64 aU)) (ds := []) mk16 (by kernel_rfl) rfl rfl (zd2 b6.out (zc2 bB.out)) (fun hHeld => ?_); generalize w18.drew = w19 at b6 bB HB hHeld ⊢; refine pz (i := 0) (N := some 11) mk17 ?_; refine pz (i := 3) (N := some 14) mk21 ?_; refine tz4 (i := 1) (N := some 12) mk22 hHeld ?_; refine tz4 (i := 4) (N := some 15) mk23 hHeld ?_; refine oz (i := 2) (N := some 13) mk18 (fun K hK => ?_); refine goes_ Tryd.func46 (by kernel_rfl) rfl #[.int .i64 aa] (by rfl) rfl rfl apC ?_
    with_reducible refine (spec_l1Sign.calls aa mf _ A3.out).mono ?_
    rintro e w' ⟨rfl, ⟨nd, rfl⟩⟩; refine ⟨_, rfl, ?_⟩; refine hK.out _ _ (zd2 b6.out (zc2 bB.out)) (fun hHeld => ?_); clear hK K; refine norm_ (a' := ?_) ?_ ?_; rotate_left
    ·show Act.put _ (some 13) _ = _
     simp only [Act.put, zL, zM, zN, i64_w, i32_w]; rfl
    refine oz (i := 5) (N := some 16) mk19 (fun K hK => ?_); refine goes_ Tryd.func46 (by kernel_rfl) rfl #[.int .i64 aK] (by rfl) rfl rfl apC ?_
    with_reducible refine (spec_l1Sign.calls aK rH _ A4.out).mono ?_
    rintro e w' ⟨rfl, ⟨nd, rfl⟩⟩; refine ⟨_, rfl, ?_⟩; refine hK.out _ _ (zd2 b6.out (zc2 bB.out)) (fun hHeld => ?_); clear hK K; refine norm_ (a' := ?_) ?_ ?_; rotate_left
    ·show Act.put _ (some 16) _ = _
     simp only [Act.put, zL, zM, zN, i64_w, i32_w]; rfl
    refine pz (i := 6) (N := some 17) mk20 ?_; refine done_ (by kernel_rfl) ?_; have hnb20 := eC.out; have hnc20 := i7.out; obtain ⟨_, _, _, _⟩ := zb2 b6.out; (try go_wp2)
    (try ((repeat rw [World.drewN_drewN]); rw [drewN_self w19]; generalize hq_ : World.drewN w19 _ = w19; have n0_ : Aside0 (w19.heap[g1]? = some (.cells #[.int .i64 aa, .int .i64 ae] 30 (0, 0))) := ⟨by rw [← hq_]; exact (vwB b6.out)⟩; have n1_ : Aside0 (w19.heap[gq]? = some (.cells #[.int .i64 aK, .int .i64 aU] 30 (0, 0))) := ⟨by rw [← hq_]; exact (vwB bB.out)⟩; have n2_ : Aside0 (Below w.heap.size w w19) := ⟨apBM⟩; clear b6 bB HB hq_; have b6 := n0_; have bB := n1_; have HB := n2_; clear n0_ n1_ n2_))
    (try (obtain ⟨hcu22_0, hcu22_1, hfu22_0, hfu22_1⟩ := zb2 b6.out))
    (try (obtain ⟨hcu23_0, hcu23_1, hfu23_0, hfu23_1⟩ := zb2 bB.out))
    replace b6 := zA (zD b6.out); replace bB := zA (zD bB.out); replace HB := zA (zF HB.out); refine start_ (n := 8) (S := fun w' => w'.cell? ⟨g1, 0, none⟩ = some (.int .i64 aa) ∧ w'.cell? ⟨g1, 1, none⟩ = some (.int .i64 ae)) (ds := []) mk24 (by kernel_rfl) rfl rfl (zc2 b6.out) (fun hHeld => ?_); refine with_tabW spec_l1Cmp.tab5 spec_l1Cmp.bits5 (fun HT_ HW_ => ?_); generalize w19.drew = w24 at b6 bB HB hHeld ⊢; refine pz (i := 0) (N := some 29) mk25 ?_; refine pz (i := 4) (N := some 33) mk26 ?_; refine tz2 (i := 1) (N := some 30) mk27 hHeld ?_; refine tz2 (i := 5) (N := some 34) mk28 hHeld ?_; refine oz (i := 2) (N := some 31) mk29 (fun K hK => ?_); refine goes_ Tryd.func65 (by kernel_rfl) rfl #[.int .i64 aa] (by rfl) rfl rfl apC ?_
    with_reducible refine (spec_l1Abs.calls aa wJ _ A12.out).mono ?_
    rintro e w' ⟨rfl, ⟨nd, rfl⟩⟩; refine ⟨_, rfl, ?_⟩; refine hK.out _ _ (zc2 b6.out) (fun hHeld => ?_); clear hK K; refine norm_ (a' := ?_) ?_ ?_; rotate_left
    ·show Act.put _ (some 31) _ = _
     simp only [Act.put, zL, zM, zN, i64_w, i32_w]; rfl
    refine oz (i := 3) (N := some 32) mk30 (fun K hK => ?_); refine goes_ Tryd.func64 (by kernel_rfl) rfl #[.int .i64 wJ] (by rfl) rfl rfl apC ?_
    with_reducible refine (spec_l1Digits.calls k wJ oR _ A13.out).mono ?_
    rintro e w25 ⟨rfl, hb⟩; refine ⟨_, rfl, ?_⟩; replace b6 := zA (zP (vwB b6.out) hb); replace bB := zA (zP (vwB bB.out) hb); replace HB := zA (zQ aph hb)
    (try clear hb)
    (try clear hb2)
    (try clear hk)
    (try clear hi)
    refine hK.out _ _ (zc2 b6.out) (fun hHeld => ?_); clear hK K; refine norm_ (a' := ?_) ?_ ?_; rotate_left
    ·show Act.put _ (some 32) _ = _
     simp only [Act.put, zL, zM, zN, i64_w, i32_w]; rfl
    refine pz (i := 6) (N := some 35) mk31 ?_; refine pz (i := 7) (N := some 5) mk32 ?_; refine done_ (done_of HT_.out (by kernel_rfl)) ?_; (try go_wp2); replace b6 := zA (zD b6.out); replace bB := zA (zD bB.out); replace HB := zA (zF HB.out); refine start_ (n := 8) (S := fun w' => w'.cell? ⟨gq, 0, none⟩ = some (.int .i64 aK) ∧ w'.cell? ⟨gq, 1, none⟩ = some (.int .i64 aU)) (ds := []) mk24 (by kernel_rfl) rfl rfl (zc2 bB.out) (fun hHeld => ?_); refine with_tabW spec_l1Cmp.tab6 spec_l1Cmp.bits6 (fun HT_ HW_ => ?_); generalize w25.drew = w26 at b6 bB HB hHeld ⊢; refine pz (i := 0) (N := some 36) mk25 ?_; refine pz (i := 4) (N := some 40) mk26 ?_; refine tz2 (i := 1) (N := some 37) mk27 hHeld ?_; refine tz2 (i := 5) (N := some 41) mk28 hHeld ?_; refine oz (i := 2) (N := some 38) mk29 (fun K hK => ?_); refine goes_ Tryd.func65 (by kernel_rfl) rfl #[.int .i64 aK] (by rfl) rfl rfl apC ?_
    with_reducible refine (spec_l1Abs.calls aK wK _ A14.out).mono ?_
    rintro e w' ⟨rfl, ⟨nd, rfl⟩⟩; refine ⟨_, rfl, ?_⟩; refine hK.out _ _ (zc2 bB.out) (fun hHeld => ?_); clear hK K; refine norm_ (a' := ?_) ?_ ?_; rotate_left
    ·show Act.put _ (some 38) _ = _
     simp only [Act.put, zL, zM, zN, i64_w, i32_w]; rfl
    refine oz (i := 3) (N := some 39) mk30 (fun K hK => ?_); refine goes_ Tryd.func64 (by kernel_rfl) rfl #[.int .i64 wK] (by rfl) rfl rfl apC ?_
    with_reducible refine (spec_l1Digits.calls k wK oS _ A15.out).mono ?_
    rintro e w27 ⟨rfl, hb⟩; refine ⟨_, rfl, ?_⟩; replace b6 := zA (zP (vwB b6.out) hb); replace bB := zA (zP (vwB bB.out) hb); replace HB := zA (zQ aph hb)
    (try clear hb)
    (try clear hb2)
    (try clear hk)
    (try clear hi)
    refine hK.out _ _ (zc2 bB.out) (fun hHeld => ?_); clear hK K; refine norm_ (a' := ?_) ?_ ?_; rotate_left
    ·show Act.put _ (some 39) _ = _
     simp only [Act.put, zL, zM, zN, i64_w, i32_w]; rfl
    refine pz (i := 6) (N := some 42) mk31 ?_; refine pz (i := 7) (N := some 6) mk32 ?_; refine done_ (done_of HT_.out (by kernel_rfl)) ?_; obtain ⟨_, _, _, _⟩ := zb2 b6.out; obtain ⟨_, _, _, _⟩ := zb2 bB.out; (try go_wp2); go_loopg [7, 9] k (fun kq v7 v9 w' => ∃ (CX : Int) (f6 : Int), v7 = .int .i64 CX ∧ v9 = .int .i64 f6 ∧ Aside0 (spec_l1Cmp.l0 kq CX aK f6 aa ae aK aU = some r) ∧ Aside0 (kq ≤ k) ∧ Aside0 (w'.heap[g1]? = some (.cells #[.int .i64 aa, .int .i64 ae] 30 (0, 0))) ∧ Aside0 (w'.heap[gq]? = some (.cells #[.int .i64 aK, .int .i64 aU] 30 (0, 0))) ∧ Aside0 (Below w.heap.size w w'))
    case atStart => exact ⟨(aa), (ae), apB, apB, H', ⟨yH _⟩, ⟨vwB b6.out⟩, ⟨vwB bB.out⟩, ⟨aph⟩⟩
    case round =>
     clear H'; (try clear c1 c2 p2 c4 c5 dI eP c6 oC wE p6 c10 c16 km l8 c20 Ol Om Hw Hx pv pw pg Hy On Oo Oq Hz px py pi HC); obtain ⟨CX, f6, rfl, rfl, HA, HK1, b6, bB, HB⟩ := hrel
     cases gk with
     | zero => exact absurd HA.out (by simp [spec_l1Cmp.l0])
     | succ k1 =>
      have H := HA.out; clear HA; simp only [spec_l1Cmp.l0] at H; by_cases c30 : f6 > aU
      ·rw [if_pos c30] at H; have vp : decide (aU < f6) = true := yD c30; clear c30; have H' := zA H; clear H; have RR := i7.out; have RS := eC.out; obtain ⟨_, _, _, _⟩ := zb2 bB.out; go_wp2
       go_roundg k1
       case measure => have := HK1.out; omega
       case rel => exact ⟨(wrap64 (CX * 10)), (wrap64 (f6 - 1)), apB, apB, H', ⟨apR⟩, ⟨vwB b6.out⟩, ⟨vwB bB.out⟩, ⟨aph⟩⟩
      ·rw [if_neg c30] at H; have vp : decide (aU < f6) = false := decide_eq_false c30; clear c30; have H' := zA H; clear H; have Lk := i7.out; have Ll := eC.out; obtain ⟨_, _, _, _⟩ := zb2 bB.out; go_wp2
       go_loopg [8, 10] k1 (fun kq v8 v10 w' => ∃ (mY : Int) (vq : Int), v8 = .int .i64 mY ∧ v10 = .int .i64 vq ∧ Aside0 (spec_l1Cmp.l1 kq CX mY vq aa ae = some r) ∧ Aside0 (kq ≤ k1) ∧ Aside0 (w'.heap[g1]? = some (.cells #[.int .i64 aa, .int .i64 ae] 30 (0, 0))) ∧ Aside0 (Below w.heap.size w w'))
       case atStart => exact ⟨(aK), (aU), apB, apB, H', ⟨yH _⟩, ⟨vwB b6.out⟩, ⟨aph⟩⟩
       case round =>
        clear H'; (try clear c1 c2 p2 c3 c4 c5 dI eP c6 oC wE p6 c10 c16 km l8 c20 c30 vp c31 c33 Ol Om Hw Hx pv pw pg Hy Os Ot zq zr On Oo Oq Hz px py pi HC Ou Ov zt zu p2 p6); obtain ⟨mY, vq, rfl, rfl, HA, HK2, b6, HB⟩ := hrel
        cases gk with
        | zero => exact absurd HA.out (by simp [spec_l1Cmp.l1])
        | succ k2 =>
         have H := HA.out; clear HA; simp only [spec_l1Cmp.l1] at H; by_cases c35 : vq > ae
         ·rw [if_pos c35] at H; have RT : decide (ae < vq) = true := yD c35; clear c35; have H' := zA H; clear H; obtain ⟨_, _, _, _⟩ := zb2 b6.out; go_wp2
          go_roundg k2
          case measure => have := HK1.out; have := HK2.out; omega
          case rel => exact ⟨(wrap64 (mY * 10)), (wrap64 (vq - 1)), apB, apB, H', ⟨by have := HK1.out; have := HK2.out; omega⟩, ⟨vwB b6.out⟩, ⟨apg⟩⟩
         ·rw [if_neg c35] at H; have RT : decide (ae < vq) = false := decide_eq_false c35; clear c35; replace H := Option.bind_eq_some_iff.mp H; obtain ⟨Uz, LA, H⟩ := H; have A37 := zA LA; clear LA; obtain rfl := yF H; obtain ⟨_, _, _, _⟩ := zb2 b6.out; go_wp2_with (first | ((with_reducible refine zV (f := 46) rfl ?_); refine goesL_ (some 81) rfl rfl Tryd.func46 (by kernel_rfl) rfl #[.int .i64 (wrap64 (CX - mY))] rfl apC ?_; (with_reducible refine (spec_l1Sign.calls (wrap64 (CX - mY)) Uz _ A37.out).mono ?_); rintro e w' ⟨rfl, ⟨nd, rfl⟩⟩; refine ⟨_, rfl, ?_⟩))
          go_ret
          exact ⟨apE, apA⟩
   ·rw [if_neg c16] at H; have km : ((wrap64 (oR + ae)) == (wrap64 (oS + aU))) = false := beq_eq_false_iff_ne.mpr c16; have l8 : ((wrap64 (oR + ae)) != (wrap64 (oS + aU))) = true := bne_iff_ne.mpr c16; replace H := Option.bind_eq_some_iff.mp H; obtain ⟨Lu, BY, H⟩ := H; have A39 := zA BY; clear BY; replace H := Option.bind_eq_some_iff.mp H; obtain ⟨Lv, Yy, H⟩ := H; have A40 := zA Yy; clear Yy; obtain rfl := yF H; go_enter Tryd.func47, Tryd.ntmps47; (try go_wp2_with (first | ((with_reducible refine zT (N := 2) rfl ?_); refine zW (by rfl) (N := 2) (by rfl) (cs := #[.int .i64 aa, .int .i64 ae]) (t := 30) apF ?_; intro g1 hg w41 hbox hb; have b6 := zA (hbox); have Lx := zA (gwl hg (zR apA)); have eO := zA (gwl hg (zR apA)); replace HB := zA (zQ apA hb); clear hb hbox hg) | ((with_reducible refine zT (N := 3) rfl ?_); refine zW (by rfl) (N := 3) (by rfl) (cs := #[.int .i64 aK, .int .i64 aU]) (t := 30) apF ?_; intro gq hg w42 hbox hb; have bB := zA (hbox); have Ly := zA (gwl hg (zR apg)); have kk := zA (gwl hg (zR apg)); replace HB := zA (zQ apg hb); have eC := zA (nbl hg (vwB b6.out)); have i7 := zA eC.out.symm; replace b6 := zA (zP (vwB b6.out) hb); clear hb hbox hg))); replace b6 := zA (zD b6.out); replace bB := zA (zD bB.out); replace HB := zA (zF HB.out); refine start_ (n := 7) (S := fun w' => w'.cell? ⟨g1, 0, none⟩ = some (.int .i64 aa) ∧ w'.cell? ⟨g1, 1, none⟩ = some (.int .i64 ae) ∧ w'.cell? ⟨gq, 0, none⟩ = some (.int .i64 aK) ∧ w'.cell? ⟨gq, 1, none⟩ = some (.int .i64 aU)) (ds := []) mk16 (by kernel_rfl) rfl rfl (zd2 b6.out (zc2 bB.out)) (fun hHeld => ?_); generalize w42.drew = w43 at b6 bB HB hHeld ⊢; refine pz (i := 0) (N := some 11) mk17 ?_; refine pz (i := 3) (N := some 14) mk21 ?_; refine tz4 (i := 1) (N := some 12) mk22 hHeld ?_; refine tz4 (i := 4) (N := some 15) mk23 hHeld ?_; refine oz (i := 2) (N := some 13) mk18 (fun K hK => ?_); refine goes_ Tryd.func46 (by kernel_rfl) rfl #[.int .i64 aa] (by rfl) rfl rfl apC ?_
    with_reducible refine (spec_l1Sign.calls aa mf _ A3.out).mono ?_
    rintro e w' ⟨rfl, ⟨nd, rfl⟩⟩; refine ⟨_, rfl, ?_⟩; refine hK.out _ _ (zd2 b6.out (zc2 bB.out)) (fun hHeld => ?_); clear hK K; refine norm_ (a' := ?_) ?_ ?_; rotate_left
    ·show Act.put _ (some 13) _ = _
     simp only [Act.put, zL, zM, zN, i64_w, i32_w]; rfl
    refine oz (i := 5) (N := some 16) mk19 (fun K hK => ?_); refine goes_ Tryd.func46 (by kernel_rfl) rfl #[.int .i64 aK] (by rfl) rfl rfl apC ?_
    with_reducible refine (spec_l1Sign.calls aK rH _ A4.out).mono ?_
    rintro e w' ⟨rfl, ⟨nd, rfl⟩⟩; refine ⟨_, rfl, ?_⟩; refine hK.out _ _ (zd2 b6.out (zc2 bB.out)) (fun hHeld => ?_); clear hK K; refine norm_ (a' := ?_) ?_ ?_; rotate_left
    ·show Act.put _ (some 16) _ = _
     simp only [Act.put, zL, zM, zN, i64_w, i32_w]; rfl
    refine pz (i := 6) (N := some 17) mk20 ?_; refine done_ (by kernel_rfl) ?_; have RU := eC.out; have RV := i7.out; obtain ⟨_, _, _, _⟩ := zb2 b6.out; (try go_wp2)
    (try ((repeat rw [World.drewN_drewN]); rw [drewN_self w43]; generalize hq_ : World.drewN w43 _ = w43; have n0_ : Aside0 (w43.heap[g1]? = some (.cells #[.int .i64 aa, .int .i64 ae] 30 (0, 0))) := ⟨by rw [← hq_]; exact (vwB b6.out)⟩; have n1_ : Aside0 (w43.heap[gq]? = some (.cells #[.int .i64 aK, .int .i64 aU] 30 (0, 0))) := ⟨by rw [← hq_]; exact (vwB bB.out)⟩; have n2_ : Aside0 (Below w.heap.size w w43) := ⟨apBM⟩; clear b6 bB HB hq_; have b6 := n0_; have bB := n1_; have HB := n2_; clear n0_ n1_ n2_))
    (try (obtain ⟨hcu46_0, hcu46_1, hfu46_0, hfu46_1⟩ := zb2 b6.out))
    (try (obtain ⟨hcu47_0, hcu47_1, hfu47_0, hfu47_1⟩ := zb2 bB.out))
    replace b6 := zA (zD b6.out); replace bB := zA (zD bB.out); replace HB := zA (zF HB.out); refine start_ (n := 8) (S := fun w' => w'.cell? ⟨g1, 0, none⟩ = some (.int .i64 aa) ∧ w'.cell? ⟨g1, 1, none⟩ = some (.int .i64 ae)) (ds := []) mk24 (by kernel_rfl) rfl rfl (zc2 b6.out) (fun hHeld => ?_); refine with_tabW spec_l1Cmp.tab5 spec_l1Cmp.bits5 (fun HT_ HW_ => ?_); generalize w43.drew = w48 at b6 bB HB hHeld ⊢; refine pz (i := 0) (N := some 29) mk25 ?_; refine pz (i := 4) (N := some 33) mk26 ?_; refine tz2 (i := 1) (N := some 30) mk27 hHeld ?_; refine tz2 (i := 5) (N := some 34) mk28 hHeld ?_; refine oz (i := 2) (N := some 31) mk29 (fun K hK => ?_); refine goes_ Tryd.func65 (by kernel_rfl) rfl #[.int .i64 aa] (by rfl) rfl rfl apC ?_
    with_reducible refine (spec_l1Abs.calls aa wJ _ A12.out).mono ?_
    rintro e w' ⟨rfl, ⟨nd, rfl⟩⟩; refine ⟨_, rfl, ?_⟩; refine hK.out _ _ (zc2 b6.out) (fun hHeld => ?_); clear hK K; refine norm_ (a' := ?_) ?_ ?_; rotate_left
    ·show Act.put _ (some 31) _ = _
     simp only [Act.put, zL, zM, zN, i64_w, i32_w]; rfl
    refine oz (i := 3) (N := some 32) mk30 (fun K hK => ?_); refine goes_ Tryd.func64 (by kernel_rfl) rfl #[.int .i64 wJ] (by rfl) rfl rfl apC ?_
    with_reducible refine (spec_l1Digits.calls k wJ oR _ A13.out).mono ?_
    rintro e w49 ⟨rfl, hb⟩; refine ⟨_, rfl, ?_⟩; replace b6 := zA (zP (vwB b6.out) hb); replace bB := zA (zP (vwB bB.out) hb); replace HB := zA (zQ aph hb)
    (try clear hb)
    (try clear hb2)
    (try clear hk)
    (try clear hi)
    refine hK.out _ _ (zc2 b6.out) (fun hHeld => ?_); clear hK K; refine norm_ (a' := ?_) ?_ ?_; rotate_left
    ·show Act.put _ (some 32) _ = _
     simp only [Act.put, zL, zM, zN, i64_w, i32_w]; rfl
    refine pz (i := 6) (N := some 35) mk31 ?_; refine pz (i := 7) (N := some 5) mk32 ?_; refine done_ (done_of HT_.out (by kernel_rfl)) ?_; (try go_wp2); replace b6 := zA (zD b6.out); replace bB := zA (zD bB.out); replace HB := zA (zF HB.out); refine start_ (n := 8) (S := fun w' => w'.cell? ⟨gq, 0, none⟩ = some (.int .i64 aK) ∧ w'.cell? ⟨gq, 1, none⟩ = some (.int .i64 aU)) (ds := []) mk24 (by kernel_rfl) rfl rfl (zc2 bB.out) (fun hHeld => ?_); refine with_tabW spec_l1Cmp.tab6 spec_l1Cmp.bits6 (fun HT_ HW_ => ?_); generalize w49.drew = w50 at b6 bB HB hHeld ⊢; refine pz (i := 0) (N := some 36) mk25 ?_; refine pz (i := 4) (N := some 40) mk26 ?_; refine tz2 (i := 1) (N := some 37) mk27 hHeld ?_; refine tz2 (i := 5) (N := some 41) mk28 hHeld ?_; refine oz (i := 2) (N := some 38) mk29 (fun K hK => ?_); refine goes_ Tryd.func65 (by kernel_rfl) rfl #[.int .i64 aK] (by rfl) rfl rfl apC ?_
    with_reducible refine (spec_l1Abs.calls aK wK _ A14.out).mono ?_
    rintro e w' ⟨rfl, ⟨nd, rfl⟩⟩; refine ⟨_, rfl, ?_⟩; refine hK.out _ _ (zc2 bB.out) (fun hHeld => ?_); clear hK K; refine norm_ (a' := ?_) ?_ ?_; rotate_left
    ·show Act.put _ (some 38) _ = _
     simp only [Act.put, zL, zM, zN, i64_w, i32_w]; rfl
    refine oz (i := 3) (N := some 39) mk30 (fun K hK => ?_); refine goes_ Tryd.func64 (by kernel_rfl) rfl #[.int .i64 wK] (by rfl) rfl rfl apC ?_
    with_reducible refine (spec_l1Digits.calls k wK oS _ A15.out).mono ?_
    rintro e w51 ⟨rfl, hb⟩; refine ⟨_, rfl, ?_⟩; replace b6 := zA (zP (vwB b6.out) hb); replace bB := zA (zP (vwB bB.out) hb); replace HB := zA (zQ aph hb)
    (try clear hb)
    (try clear hb2)
    (try clear hk)
    (try clear hi)
    refine hK.out _ _ (zc2 bB.out) (fun hHeld => ?_); clear hK K; refine norm_ (a' := ?_) ?_ ?_; rotate_left
    ·show Act.put _ (some 39) _ = _
     simp only [Act.put, zL, zM, zN, i64_w, i32_w]; rfl
    refine pz (i := 6) (N := some 42) mk31 ?_; refine pz (i := 7) (N := some 6) mk32 ?_; refine done_ (done_of HT_.out (by kernel_rfl)) ?_; (try go_wp2); replace b6 := zA (zD b6.out); replace bB := zA (zD bB.out); replace HB := zA (zF HB.out); refine start_ (n := 9) (S := fun w' => w'.cell? ⟨g1, 0, none⟩ = some (.int .i64 aa) ∧ w'.cell? ⟨g1, 1, none⟩ = some (.int .i64 ae)) (ds := []) mk64 (by kernel_rfl) rfl rfl (zc2 b6.out) (fun hHeld => ?_); refine with_tabW spec_l1Cmp.tab8 spec_l1Cmp.bits8 (fun HT_ HW_ => ?_); generalize w51.drew = w52 at b6 bB HB hHeld ⊢; refine pz (i := 0) (N := some 46) mk65 ?_; refine pz (i := 1) (N := some 47) #[true, true, false, false, false, false, false, false, false] ?_; refine pz (i := 2) (N := some 48) #[true, true, true, false, false, false, false, false, false] ?_; refine pz (i := 4) (N := some 50) #[true, true, true, false, true, false, false, false, false] ?_; refine tz2 (i := 5) (N := some 51) #[true, true, true, false, true, true, false, false, false] hHeld ?_; refine oz (i := 3) (N := some 49) #[true, true, true, true, true, true, false, false, false] (fun K hK => ?_); refine goes_ Tryd.func46 (by kernel_rfl) rfl #[.int .i64 (wrap64 ((wrap64 (oR + ae)) - (wrap64 (oS + aU))))] (by rfl) rfl rfl apC ?_
    with_reducible refine (spec_l1Sign.calls (wrap64 ((wrap64 (oR + ae)) - (wrap64 (oS + aU)))) Lu _ A39.out).mono ?_
    rintro e w' ⟨rfl, ⟨nd, rfl⟩⟩; refine ⟨_, rfl, ?_⟩; refine hK.out _ _ (zc2 b6.out) (fun hHeld => ?_); clear hK K; refine norm_ (a' := ?_) ?_ ?_; rotate_left
    ·show Act.put _ (some 49) _ = _
     simp only [Act.put, zL, zM, zN, i64_w, i32_w]; rfl
    refine oz (i := 6) (N := some 52) mk66 (fun K hK => ?_); refine goes_ Tryd.func46 (by kernel_rfl) rfl #[.int .i64 aa] (by rfl) rfl rfl apC ?_
    with_reducible refine (spec_l1Sign.calls aa Lv _ A40.out).mono ?_
    rintro e w' ⟨rfl, ⟨nd, rfl⟩⟩; refine ⟨_, rfl, ?_⟩; refine hK.out _ _ (zc2 b6.out) (fun hHeld => ?_); clear hK K; refine norm_ (a' := ?_) ?_ ?_; rotate_left
    ·show Act.put _ (some 52) _ = _
     simp only [Act.put, zL, zM, zN, i64_w, i32_w]; rfl
    refine pz (i := 7) (N := some 53) mk67 ?_; refine pz (i := 8) (N := some 4) mk68 ?_; refine done_ (done_of HT_.out (by kernel_rfl)) ?_; (try go_wp2)
    go_ret
    exact ⟨apE, aph⟩
 ·rw [if_neg c5] at H; have dI : (mf == rH) = false := beq_eq_false_iff_ne.mpr c5; have eP : (mf != rH) = true := bne_iff_ne.mpr c5; replace H := Option.bind_eq_some_iff.mp H; obtain ⟨CV, BZ, H⟩ := H; have A53 := zA BZ; clear BZ; replace H := Option.bind_eq_some_iff.mp H; obtain ⟨CW, C0, H⟩ := H; have A54 := zA C0; clear C0; replace H := Option.bind_eq_some_iff.mp H; obtain ⟨Lw, LB, H⟩ := H; have A55 := zA LB; clear LB; obtain rfl := yF H; go_enter Tryd.func47, Tryd.ntmps47; (try go_wp2_with (first | ((with_reducible refine zT (N := 2) rfl ?_); refine zW (by rfl) (N := 2) (by rfl) (cs := #[.int .i64 aa, .int .i64 ae]) (t := 30) apF ?_; intro g1 hg w56 hbox hb; have b6 := zA (hbox); have Lx := zA (gwl hg (zR apA)); have eO := zA (gwl hg (zR apA)); replace HB := zA (zQ apA hb); clear hb hbox hg) | ((with_reducible refine zT (N := 3) rfl ?_); refine zW (by rfl) (N := 3) (by rfl) (cs := #[.int .i64 aK, .int .i64 aU]) (t := 30) apF ?_; intro gq hg w57 hbox hb; have bB := zA (hbox); have Ly := zA (gwl hg (zR apg)); have kk := zA (gwl hg (zR apg)); replace HB := zA (zQ apg hb); have eC := zA (nbl hg (vwB b6.out)); have i7 := zA eC.out.symm; replace b6 := zA (zP (vwB b6.out) hb); clear hb hbox hg))); replace b6 := zA (zD b6.out); replace bB := zA (zD bB.out); replace HB := zA (zF HB.out); refine start_ (n := 7) (S := fun w' => w'.cell? ⟨g1, 0, none⟩ = some (.int .i64 aa) ∧ w'.cell? ⟨g1, 1, none⟩ = some (.int .i64 ae) ∧ w'.cell? ⟨gq, 0, none⟩ = some (.int .i64 aK) ∧ w'.cell? ⟨gq, 1, none⟩ = some (.int .i64 aU)) (ds := []) mk16 (by kernel_rfl) rfl rfl (zd2 b6.out (zc2 bB.out)) (fun hHeld => ?_); generalize w57.drew = w58 at b6 bB HB hHeld ⊢; refine pz (i := 0) (N := some 11) mk17 ?_; refine pz (i := 3) (N := some 14) mk21 ?_; refine tz4 (i := 1) (N := some 12) mk22 hHeld ?_; refine tz4 (i := 4) (N := some 15) mk23 hHeld ?_; refine oz (i := 2) (N := some 13) mk18 (fun K hK => ?_); refine goes_ Tryd.func46 (by kernel_rfl) rfl #[.int .i64 aa] (by rfl) rfl rfl apC ?_
  with_reducible refine (spec_l1Sign.calls aa mf _ A3.out).mono ?_
  rintro e w' ⟨rfl, ⟨nd, rfl⟩⟩; refine ⟨_, rfl, ?_⟩; refine hK.out _ _ (zd2 b6.out (zc2 bB.out)) (fun hHeld => ?_); clear hK K; refine norm_ (a' := ?_) ?_ ?_; rotate_left
  ·show Act.put _ (some 13) _ = _
   simp only [Act.put, zL, zM, zN, i64_w, i32_w]; rfl
  refine oz (i := 5) (N := some 16) mk19 (fun K hK => ?_); refine goes_ Tryd.func46 (by kernel_rfl) rfl #[.int .i64 aK] (by rfl) rfl rfl apC ?_
  with_reducible refine (spec_l1Sign.calls aK rH _ A4.out).mono ?_
  rintro e w' ⟨rfl, ⟨nd, rfl⟩⟩; refine ⟨_, rfl, ?_⟩; refine hK.out _ _ (zd2 b6.out (zc2 bB.out)) (fun hHeld => ?_); clear hK K; refine norm_ (a' := ?_) ?_ ?_; rotate_left
  ·show Act.put _ (some 16) _ = _
   simp only [Act.put, zL, zM, zN, i64_w, i32_w]; rfl
  refine pz (i := 6) (N := some 17) mk20 ?_; refine done_ (by kernel_rfl) ?_; (try go_wp2)
  (try ((repeat rw [World.drewN_drewN]); rw [drewN_self w58]; generalize hq_ : World.drewN w58 _ = w58; have n0_ : Aside0 (w58.heap[g1]? = some (.cells #[.int .i64 aa, .int .i64 ae] 30 (0, 0))) := ⟨by rw [← hq_]; exact (vwB b6.out)⟩; have n1_ : Aside0 (w58.heap[gq]? = some (.cells #[.int .i64 aK, .int .i64 aU] 30 (0, 0))) := ⟨by rw [← hq_]; exact (vwB bB.out)⟩; have n2_ : Aside0 (Below w.heap.size w w58) := ⟨apBM⟩; clear b6 bB HB hq_; have b6 := n0_; have bB := n1_; have HB := n2_; clear n0_ n1_ n2_))
  (try (obtain ⟨hcu59_0, hcu59_1, hfu59_0, hfu59_1⟩ := zb2 b6.out))
  (try (obtain ⟨hcu60_0, hcu60_1, hfu60_0, hfu60_1⟩ := zb2 bB.out))
  replace b6 := zA (zD b6.out); replace bB := zA (zD bB.out); replace HB := zA (zF HB.out); refine start_ (n := 9) (S := fun w' => w'.cell? ⟨g1, 0, none⟩ = some (.int .i64 aa) ∧ w'.cell? ⟨g1, 1, none⟩ = some (.int .i64 ae) ∧ w'.cell? ⟨gq, 0, none⟩ = some (.int .i64 aK) ∧ w'.cell? ⟨gq, 1, none⟩ = some (.int .i64 aU)) (ds := []) mk64 (by kernel_rfl) rfl rfl (zd2 b6.out (zc2 bB.out)) (fun hHeld => ?_); refine with_tabW spec_l1Cmp.tab2 spec_l1Cmp.bits2 (fun HT_ HW_ => ?_); generalize w58.drew = w61 at b6 bB HB hHeld ⊢; refine pz (i := 0) (N := some 18) mk65 ?_; refine pz (i := 3) (N := some 21) #[true, false, false, true, false, false, false, false, false] ?_; refine tz4 (i := 1) (N := some 19) #[true, true, false, true, false, false, false, false, false] hHeld ?_; refine tz4 (i := 4) (N := some 22) #[true, true, false, true, true, false, false, false, false] hHeld ?_; refine oz (i := 2) (N := some 20) #[true, true, true, true, true, false, false, false, false] (fun K hK => ?_); refine goes_ Tryd.func46 (by kernel_rfl) rfl #[.int .i64 aa] (by rfl) rfl rfl apC ?_
  with_reducible refine (spec_l1Sign.calls aa CV _ A53.out).mono ?_
  rintro e w' ⟨rfl, ⟨nd, rfl⟩⟩; refine ⟨_, rfl, ?_⟩; refine hK.out _ _ (zd2 b6.out (zc2 bB.out)) (fun hHeld => ?_); clear hK K; refine norm_ (a' := ?_) ?_ ?_; rotate_left
  ·show Act.put _ (some 20) _ = _
   simp only [Act.put, zL, zM, zN, i64_w, i32_w]; rfl
  refine oz (i := 5) (N := some 23) #[true, true, true, true, true, true, false, false, false] (fun K hK => ?_); refine goes_ Tryd.func46 (by kernel_rfl) rfl #[.int .i64 aK] (by rfl) rfl rfl apC ?_
  with_reducible refine (spec_l1Sign.calls aK CW _ A54.out).mono ?_
  rintro e w' ⟨rfl, ⟨nd, rfl⟩⟩; refine ⟨_, rfl, ?_⟩; refine hK.out _ _ (zd2 b6.out (zc2 bB.out)) (fun hHeld => ?_); clear hK K; refine norm_ (a' := ?_) ?_ ?_; rotate_left
  ·show Act.put _ (some 23) _ = _
   simp only [Act.put, zL, zM, zN, i64_w, i32_w]; rfl
  refine pz (i := 6) (N := some 24) mk66 ?_; refine oz (i := 7) (N := some 25) mk67 (fun K hK => ?_); refine goes_ Tryd.func46 (by kernel_rfl) rfl #[.int .i64 (wrap64 (CV - CW))] (by rfl) rfl rfl apC ?_
  with_reducible refine (spec_l1Sign.calls (wrap64 (CV - CW)) Lw _ A55.out).mono ?_
  rintro e w' ⟨rfl, ⟨nd, rfl⟩⟩; refine ⟨_, rfl, ?_⟩; refine hK.out _ _ (zd2 b6.out (zc2 bB.out)) (fun hHeld => ?_); clear hK K; refine norm_ (a' := ?_) ?_ ?_; rotate_left
  ·show Act.put _ (some 25) _ = _
   simp only [Act.put, zL, zM, zN, i64_w, i32_w]; rfl
  refine pz (i := 8) (N := some 4) mk68 ?_; refine done_ (done_of HT_.out (by kernel_rfl)) ?_; (try go_wp2)
  go_ret
  exact ⟨apE, aph⟩


/-- A state of type 66 at block g of W; what its slices lead to came in by w0. -/
def IsS66 (w0 W : World) (g : Nat) (f0 : List Int) (f1 : Int) : Prop := ∃ A0 c0, W.heap[g]? = some (.cells #[.slice A0 f0.length c0, .int .i64 f1] 66 (0, 0)) ∧ w0.heap.size ≤ g ∧ Kd.C (Kd.int .u8) w0 A0 f0.length f0
theorem IsS66.grown {w0 W : World} {g : Nat} {f0 : List Int} {f1 : Int} {W1 : World} {row : Option Nat} (h : IsS66 w0 W g f0 f1) (hw : W.grownBy W1 row) (hne : some g ≠ row) : IsS66 w0 W1 g f0 f1 := by
 obtain ⟨A0, c0, hb, hg, hr0⟩ := h; exact ⟨A0, c0, blk_grown hb hw hne, hg, hr0⟩
theorem IsS66.own_neN {w0 W : World} {g : Nat} {f0 : List Int} {f1 : Int} {α : Type} {d : Kd α} {e : Nat} {base : Nat} {ok : Nat → Prop} {v : Value} {xs : List α} (h : IsS66 w0 W g f0 f1) (ho : Kd.N d e W base ok v xs) (ht : e ≠ 66) : some g ≠ v.ownBlock := by
 obtain ⟨A0, c0, hb, hg, hr0⟩ := h; exact Kd.N_ne ho hb ht
theorem IsS66.fresh {w0 W : World} {g : Nat} {f0 : List Int} {f1 : Int} (h : IsS66 w0 W g f0 f1) : ∀ k, W.heap.size ≤ k → k ≠ g := by
 obtain ⟨A0, c0, hb, hg, hr0⟩ := h; exact Kd.freshB hb
theorem IsS66.kept {w0 W : World} {g : Nat} {f0 : List Int} {f1 : Int} {W1 : World} {S : Nat → Prop} (h : IsS66 w0 W g f0 f1) (hk : Kept W W1 S) (hne : ¬ S g) : IsS66 w0 W1 g f0 f1 := by
 obtain ⟨A0, c0, hb, hg, hr0⟩ := h; exact ⟨A0, c0, blk_kept hb hk hne, hg, hr0⟩
theorem IsS66.below {w0 W : World} {g : Nat} {f0 : List Int} {f1 : Int} {W1 : World} (h : IsS66 w0 W g f0 f1) (hw : Below W.heap.size W W1) : IsS66 w0 W1 g f0 f1 := h.grown (grown_of_below hw none) (by simp)
theorem IsS66.alloc {w0 W : World} {g : Nat} {f0 : List Int} {f1 : Int} (h : IsS66 w0 W g f0 f1) (o : Obj) : IsS66 w0 (W.alloc o) g f0 f1 := h.below (zG (yG _ _) o)
theorem IsS66.drewN {w0 W : World} {g : Nat} {f0 : List Int} {f1 : Int} (h : IsS66 w0 W g f0 f1) (m : Nat) : IsS66 w0 (W.drewN m) g f0 f1 := h
theorem IsS66.drew {w0 W : World} {g : Nat} {f0 : List Int} {f1 : Int} (h : IsS66 w0 W g f0 f1) : IsS66 w0 W.drew g f0 f1 := h
theorem IsS66.at_ {w0 W : World} {g : Nat} {f0 : List Int} {f1 : Int} {w' : World} {m : Nat} (hq : W.drewN m = w') (h : IsS66 w0 W g f0 f1) : IsS66 w0 w' g f0 f1 := by subst hq; exact IsS66.drewN h m
theorem IsS66.apart {w0 W : World} {g : Nat} {f0 : List Int} {f1 : Int} {α : Type} {d : Kd α} {e : Nat} {base : Nat} {ok : Nat → Prop} {v : Value} {xs : List α} (h : IsS66 w0 W g f0 f1) (ho : d.R e W base ok v xs) (ht : ∀ q, q ∈ e :: d.E → q ≠ 66) : d.R e W base (fun k => ok k ∧ k ≠ g) v xs := by
 obtain ⟨A0, c0, hb, hg, hr0⟩ := h; exact Kd.R_types ho hb ht
theorem IsS66.own_ne {w0 W : World} {g : Nat} {f0 : List Int} {f1 : Int} {α : Type} {d : Kd α} {e : Nat} {base : Nat} {ok : Nat → Prop} {v : Value} {xs : List α} (h : IsS66 w0 W g f0 f1) (ho : d.R e W base ok v xs) (ht : e ≠ 66) : some g ≠ v.ownBlock := by
 obtain ⟨A0, c0, hb, hg, hr0⟩ := h; exact Kd.R_ne ho hb ht
theorem IsS66.apartQ {w0 W : World} {g : Nat} {f0 : List Int} {f1 : Int} {α : Type} {d : Kd α} {e : Nat} {base : Nat} {ok : Nat → Prop} {v : Value} {xs : List α} (h : IsS66 w0 W g f0 f1) (ho : d.Q e W base ok v xs) (ht : ∀ q, q ∈ e :: d.E → q ≠ 66) : d.Q e W base (fun k => ok k ∧ k ≠ g) v xs := by
 obtain ⟨A0, c0, hb, hg, hr0⟩ := h; exact Kd.Q_types ho hb ht
theorem IsS66.own_neQ {w0 W : World} {g : Nat} {f0 : List Int} {f1 : Int} {α : Type} {d : Kd α} {e : Nat} {base : Nat} {ok : Nat → Prop} {v : Value} {xs : List α} (h : IsS66 w0 W g f0 f1) (ho : d.Q e W base ok v xs) (ht : e ≠ 66) : some g ≠ v.ownBlock := by
 obtain ⟨A0, c0, hb, hg, hr0⟩ := h; exact Kd.Q_ne ho hb ht
theorem IsS66.apartS {w0 W : World} {g : Nat} {f0 : List Int} {f1 : Int} {α : Type} {d : Kd α} {e : Nat} {base : Nat} {ok : Nat → Prop} {v : Value} {xs : List α} (h : IsS66 w0 W g f0 f1) (ho : d.S e W base ok v xs) (ht : ∀ q, q ∈ e :: d.E → q ≠ 66) : d.S e W base (fun k => ok k ∧ k ≠ g) v xs := by
 obtain ⟨A0, c0, hb, hg, hr0⟩ := h; exact Kd.S_types ho hb ht
theorem IsS66.own_neS {w0 W : World} {g : Nat} {f0 : List Int} {f1 : Int} {α : Type} {d : Kd α} {e : Nat} {base : Nat} {ok : Nat → Prop} {v : Value} {xs : List α} (h : IsS66 w0 W g f0 f1) (ho : d.S e W base ok v xs) (ht : e ≠ 66) : some g ≠ v.ownBlock := by
 obtain ⟨A0, c0, hb, hg, hr0⟩ := h; exact Kd.S_ne ho hb ht
theorem IsS66.lt {w0 W : World} {g : Nat} {f0 : List Int} {f1 : Int} (h : IsS66 w0 W g f0 f1) : g < W.heap.size := by
 obtain ⟨A0, c0, hb, hg, hr0⟩ := h; exact blk_lt hb
theorem IsS66.ge {w0 W : World} {g : Nat} {f0 : List Int} {f1 : Int} (h : IsS66 w0 W g f0 f1) : w0.heap.size ≤ g := by
 obtain ⟨A0, c0, hb, hg, hr0⟩ := h; exact hg
theorem IsS66.ne_blk {w0 W : World} {g : Nat} {f0 : List Int} {f1 : Int} {a : Nat} {cs : Array Value} {t : TypeId} {fr : Nat × Nat} (h : IsS66 w0 W g f0 f1) (hb2 : W.heap[a]? = some (.cells cs t fr)) (ht : t ≠ 66) : g ≠ a := by
 obtain ⟨A0, c0, hb, hg, hr0⟩ := h; rintro rfl; rw [hb] at hb2
 injection hb2 with hb2
 injection hb2 with _ ht2
 exact ht ht2.symm
theorem IsS66.far {w0 W : World} {g : Nat} {f0 : List Int} {f1 : Int} {p : Addr} (h : IsS66 w0 W g f0 f1) (hne : g ≠ p.block) (u : Value) : IsS66 w0 (W.setCell p u) g f0 f1 := by
 obtain ⟨A0, c0, hb, hg, hr0⟩ := h; exact ⟨A0, c0, blk_far hb hne u, hg, hr0⟩
theorem cellS66_0 {W : World} {g : Nat} {A0 : Option Addr} {c0 : Nat} {f0 : List Int} {f1 : Int} (h : W.heap[g]? = some (.cells #[.slice A0 f0.length c0, .int .i64 f1] 66 (0, 0))) : W.cell? ⟨g, 0, none⟩ = some (.slice A0 f0.length c0) := (zJ h 0).trans rfl
theorem cellS66_1 {W : World} {g : Nat} {A0 : Option Addr} {c0 : Nat} {f0 : List Int} {f1 : Int} (h : W.heap[g]? = some (.cells #[.slice A0 f0.length c0, .int .i64 f1] 66 (0, 0))) : W.cell? ⟨g, 1, none⟩ = some (.int .i64 f1) := (zJ h 1).trans rfl
theorem IsS66.set_1 {w0 W : World} {g : Nat} {f0 : List Int} {f1 : Int} (h : IsS66 w0 W g f0 f1) (x : Int) : IsS66 w0 (W.setCell ⟨g, 1, none⟩ (.int .i64 x)) g f0 x := by
 obtain ⟨A0, c0, hb, hg, hr0⟩ := h; exact ⟨A0, c0, by simpa using blk_set hb 1 (.int .i64 x), hg, hr0⟩
theorem IsS66.new (w0 W : World) (A0 : Option Addr) (c0 : Nat) (f0 : List Int) (f1 : Int) (hB : Below w0.heap.size w0 W) (hr0 : Kd.C (Kd.int .u8) w0 A0 f0.length f0) : IsS66 w0 (W.alloc (.cells #[.slice A0 f0.length c0, .int .i64 f1] 66)) W.heap.size f0 f1 := ⟨A0, c0, by simpa using heap_alloc_new W _, hB.size, hr0⟩

def spec_l1Open.f (l0 : List Int) : Option (List Int × Int) := if (l0.length : Int) > 2000 then (if 2000 ≤ (l0.length : Int) then (some (l0.take 2000, 0)) else (none)) else (some (l0, 0))
set_option maxHeartbeats 8000000 in
set_option maxRecDepth 100000 in
theorem spec_l1Open.calls (A0 : Option Addr) (c0 : Nat) (l0 : List Int) (r1 : List Int) (r2 : Int) (w0 w : World) (hB : Below w0.heap.size w0 w) (hr0 : Kd.C (Kd.int .u8) w0 A0 l0.length l0) (hc0 : l0.length ≤ c0) (h : spec_l1Open.f l0 = some (r1, r2)) :
  Calls Tryd.prog 29 #[.slice A0 l0.length c0] w fun e w' => ∃ g_ : Nat, e = .returned (.pointer (some ⟨g_, 0, none⟩)) ∧ IsS66 w0 w' g_ r1 r2 ∧ Below w0.heap.size w0 w' ∧ Below w.heap.size w w' := by
 have hu66 := Tryd.underlying66; have HR0 := zA hr0; have HC0 := zA hc0; clear hr0 hc0; have HBW := zA (yG w.heap.size w); have HW0 := zA hB.size; have HB := zA hB; clear hB; have H : (if (l0.length : Int) > 2000 then (if 2000 ≤ (l0.length : Int) then (some (l0.take 2000, 0)) else (none)) else (some (l0, 0))) = some (r1, r2) := h; clear h; by_cases c2 : (l0.length : Int) > 2000
 ·rw [if_pos c2] at H; have ka : decide (2000 < (l0.length : Int)) = true := yD c2; have c2b1 : decide (2000 < l0.length) = true := yD (by omega); clear c2; by_cases c3 : 2000 ≤ (l0.length : Int)
  ·rw [if_pos c3] at H; have i2 := eq_true c3; have JF : decide (2000 ≤ (l0.length : Int)) = true := yD c3; clear c3; simp only [Option.some.injEq, Prod.mk.injEq] at H; obtain ⟨rfl, rfl⟩ := H; obtain ⟨i04, Yz, _, YA, _⟩ := info_parts info5; obtain ⟨hcut4, hA4, hC4⟩ := print_take_of (P := Tryd.prog) (Value.int .u8) 0 37 5 .i64 Tryd.underlying37 Yz YA A0 c0 l0 2000 (by omega) (yE apD) HC0.out; have YB := zA (Kd.C_of_reads (h1 := fun _ => rfl) (hA4 _ (Kd.reads_of_C HR0.out))); have HC101 := zA hC4; clear hA4 hC4 Yz YA; go_enter Tryd.func29, Tryd.ntmps29; go_wp2_with (first | ((with_reducible refine zT (N := 10) rfl ?_); refine zW (by rfl) (N := 10) (by rfl) (cs := #[.slice A0 (l0.take 2000).length c0, .int .i64 0]) (t := 66) apF ?_; intro LC hg w5 hbox hb; replace HB := zA (zQ apA hb); have YC := zA (hbox); have YD := zA (gwl hg (zR apBE)); have RW := zA ((Nat.le_trans HW0.out (by rw [hg]; exact (zR apBE) : w.heap.size ≤ LC) : w0.heap.size ≤ LC)); replace HBW := zA (zQ HBW.out hb); clear hb hbox hg))
   go_ret
   exact ⟨_, rfl, (show IsS66 w0 _ LC (l0.take 2000) 0 from ⟨_, _, vwB YC.out, RW.out, YB.out⟩), by repeat (first | (with_reducible first | exact HB.out | apply zG | apply zE | apply zF | refine zH ?_ RW.out) | exact HB.out), by repeat (first | (with_reducible first | exact HBW.out | apply zG | apply zE | apply zF | refine zH ?_ YD.out) | exact HBW.out)⟩
  ·rw [if_neg c3] at H; exact absurd H (by simp)
 ·rw [if_neg c2] at H; have ka : decide (2000 < (l0.length : Int)) = false := decide_eq_false c2; have c2b1 : decide (2000 < l0.length) = false := decide_eq_false (by omega); clear c2; simp only [Option.some.injEq, Prod.mk.injEq] at H; obtain ⟨rfl, rfl⟩ := H; go_enter Tryd.func29, Tryd.ntmps29; go_wp2_with (first | ((with_reducible refine zT (N := 10) rfl ?_); refine zW (by rfl) (N := 10) (by rfl) (cs := #[.slice A0 l0.length c0, .int .i64 0]) (t := 66) apF ?_; intro LD hg w6 hbox hb; replace HB := zA (zQ apA hb); have YE := zA (hbox); have YF := zA (gwl hg (zR apBE)); have RX := zA ((Nat.le_trans HW0.out (by rw [hg]; exact (zR apBE) : w.heap.size ≤ LD) : w0.heap.size ≤ LD)); replace HBW := zA (zQ HBW.out hb); clear hb hbox hg))
  go_ret
  exact ⟨_, rfl, (show IsS66 w0 _ LD l0 0 from ⟨_, _, vwB YE.out, RX.out, HR0.out⟩), by repeat (first | (with_reducible first | exact HB.out | apply zG | apply zE | apply zF | refine zH ?_ RX.out) | exact HB.out), by repeat (first | (with_reducible first | exact HBW.out | apply zG | apply zE | apply zF | refine zH ?_ YF.out) | exact HBW.out)⟩


def spec_l1Rd_pick.j0 : Nat → Int → Bool → List Int → Int → Option (Int × Int)
 | 0, _, _, _, _ => none
 | k + 1, x1, x24, dF, dQ => if x24 = true then (some (0, dQ)) else (if (wrap64 (dQ - 1)) < (dF.length : Int) then (if 0 ≤ (wrap64 (dQ - 1)) then (if x1 = 0 then (none) else (some (Int.tmod (wrap64 (rd dF (wrap64 (dQ - 1)))) x1, dQ))) else (none)) else (if (dF.length : Int) = 0 then (none) else (if 0 ≤ (Int.tmod (wrap64 (dQ - 1)) (dF.length : Int)) then (if (Int.tmod (wrap64 (dQ - 1)) (dF.length : Int)) < (dF.length : Int) then (if 0 ≤ (Int.tmod (wrap64 ((wrap64 ((wrap64 (dQ - 1)) * 7)) + 3)) (dF.length : Int)) then (if (Int.tmod (wrap64 ((wrap64 ((wrap64 (dQ - 1)) * 7)) + 3)) (dF.length : Int)) < (dF.length : Int) then (if x1 = 0 then (none) else (some (Int.tmod (Go.bits .xor .i64 (wrap64 ((wrap64 ((wrap64 ((wrap64 ((wrap64 (rd dF (Int.tmod (wrap64 (dQ - 1)) (dF.length : Int)))) * 131)) + (wrap64 ((wrap64 (rd dF (Int.tmod (wrap64 ((wrap64 ((wrap64 (dQ - 1)) * 7)) + 3)) (dF.length : Int)))) * 1117)))) + (wrap64 ((wrap64 (dQ - 1)) * 29)))) + (wrap64 ((wrap64 (Int.tdiv (wrap64 (dQ - 1)) (dF.length : Int))) * 53)))) (wrap64 (Int.tdiv (wrap64 ((wrap64 ((wrap64 ((wrap64 ((wrap64 (rd dF (Int.tmod (wrap64 (dQ - 1)) (dF.length : Int)))) * 131)) + (wrap64 ((wrap64 (rd dF (Int.tmod (wrap64 ((wrap64 ((wrap64 (dQ - 1)) * 7)) + 3)) (dF.length : Int)))) * 1117)))) + (wrap64 ((wrap64 (dQ - 1)) * 29)))) + (wrap64 ((wrap64 (Int.tdiv (wrap64 (dQ - 1)) (dF.length : Int))) * 53)))) 64))) x1, dQ))) else (none)) else (none)) else (none)) else (none))))
def spec_l1Rd_pick.f (k : Nat) (an : List Int) (bP : Int) (a1 : Int) : Option (Int × Int) := if a1 < 1 then (spec_l1Rd_pick.j0 k a1 true an (wrap64 (bP + 1))) else (spec_l1Rd_pick.j0 k a1 ((an.length : Int) == 0) an (wrap64 (bP + 1)))
theorem spec_l1Rd_pick.mono_l : ∀ k, (∀ y0 y1 y2 y3, LeO (spec_l1Rd_pick.j0 k y0 y1 y2 y3) (spec_l1Rd_pick.j0 (k + 1) y0 y1 y2 y3))
 | 0 => fun _ _ _ _ r h => by simp [spec_l1Rd_pick.j0] at h
 | k + 1 => by
  have ih0 := spec_l1Rd_pick.mono_l k
  ·intro y0 y1 y2 y3; unfold spec_l1Rd_pick.j0
   repeat' first
   | (with_reducible exact ih0 _ _ _ _)
   | exact lm
   | (with_reducible refine LeO.ite ?_ ?_)
   | (with_reducible refine LeO.bind ?_ (fun _ => ?_))
   | exact LeO.none _
theorem spec_l1Rd_pick.mono : ∀ a0 a1 a2 k, LeO (spec_l1Rd_pick.f k a0 a1 a2) (spec_l1Rd_pick.f (k + 1) a0 a1 a2) := by
 intro a0 a1 a2 k; have ih0 := spec_l1Rd_pick.mono_l k; unfold spec_l1Rd_pick.f
 repeat' first
   | (with_reducible exact ih0 _ _ _ _)
   | exact lm
   | (with_reducible refine LeO.ite ?_ ?_)
   | (with_reducible refine LeO.bind ?_ (fun _ => ?_))
   | exact LeO.none _
set_option maxHeartbeats 8000000 in
set_option maxRecDepth 100000 in
theorem spec_l1Rd_pick.calls (k : Nat) (g : Nat) (an : List Int) (bP : Int) (a1 : Int) (r1 : Int) (r2 : Int) (w0 w : World) (hI : IsS66 w0 w g an bP) (hB : Below w0.heap.size w0 w) (h : spec_l1Rd_pick.f k an bP a1 = some (r1, r2)) :
  Calls Tryd.prog 30 #[.pointer (some ⟨g, 0, none⟩), .int .i64 a1] w fun e w' => e = .returned (.int .i64 r1) ∧ IsS66 w0 w' g an r2 ∧ Below w0.heap.size w0 w' ∧ KeepBut w w' g none := by
 have HI0 := zA hI; have HK := zA (KeepBut.refl w g none); have HL := zA hB.size; clear hI; have HW0 := zA hB.size; have HB := zA hB; clear hB; have H : (if a1 < 1 then (spec_l1Rd_pick.j0 k a1 true an (wrap64 (bP + 1))) else (spec_l1Rd_pick.j0 k a1 ((an.length : Int) == 0) an (wrap64 (bP + 1)))) = some (r1, r2) := h; clear h; have HC3 := zA H; clear H; obtain ⟨ASz4_0, cSz4_0, Ow, hgz4, HSz4_0⟩ := HI0.out; have Kt := cellS66_0 Ow; have Ku := cellS66_1 Ow; have Kv := zK Ow 1; clear Ow hgz4; go_enter Tryd.func30, Tryd.ntmps30; go_upto_region 2 with (fail)
 repeat (go_quiet (fail); go_upto_region 2 with (fail))
 go_cut [24] (fun v24 wc => ∃ (kq : Nat) (HD : Bool), v24 = .bool HD ∧ Aside0 (spec_l1Rd_pick.j0 kq a1 HD an (wrap64 (bP + 1)) = some (r1, r2)) ∧ Aside0 (kq ≤ k) ∧ Aside0 (IsS66 w0 wc g an (wrap64 (bP + 1))) ∧ Aside0 (KeepBut w wc g none) ∧ Aside0 (Below w0.heap.size w0 wc))
 case first =>
  have H := HC3.out; clear HC3; by_cases c5 : a1 < 1
  ·rw [if_pos c5] at H; have dI : decide (a1 < 1) = true := yD c5; clear c5
   (first | rw [dI] | rw [eP] | (simp only [i64_w, i32_w]; rw [dI]) | (simp only [i64_w, i32_w]; rw [eP]) | skip)
   have H' := zA H; clear H; go_wp2
   repeat (go_quiet (fail); try go_wp2)
   go_meet
   case rel => exact ⟨_, (true), apB, H', ⟨apL⟩, ⟨apQ⟩, ⟨apN⟩, ⟨apU⟩⟩
  ·rw [if_neg c5] at H; have dI : decide (a1 < 1) = false := decide_eq_false c5; clear c5
   (first | rw [dI] | rw [eP] | (simp only [i64_w, i32_w]; rw [dI]) | (simp only [i64_w, i32_w]; rw [eP]) | skip)
   have H' := zA H; clear H; obtain ⟨ASz6_0, cSz6_0, Ox, hgz6, HSz6_0⟩ := HI0.out; have LE := cellS66_0 Ox; have LF := cellS66_1 Ox; have LG := zK Ox 1; clear Ox hgz6; go_wp2
   repeat (go_quiet (fail); try go_wp2)
   go_meet
   case rel => exact ⟨_, (((an.length : Int) == 0)), apB, H', ⟨apL⟩, ⟨apQ⟩, ⟨apN⟩, ⟨apU⟩⟩
 case rest =>
  clear HC3; (try clear p2 c3 c5 dI eP p6 Kt Ku LE LF Kv LG); obtain ⟨kq, HD, rfl, HA, HJ2, HI0, HK, HB⟩ := hcut
  cases kq with
  | zero => exact absurd HA.out (by simp [spec_l1Rd_pick.j0])
  | succ kj2 =>
   have H := HA.out; clear HA; simp only [spec_l1Rd_pick.j0] at H; by_cases c7 : HD = true
   ·subst c7
    have H1 : (some (0, (wrap64 (bP + 1)))) = some (r1, r2) := by rw [if_pos rfl] at H; exact H
    clear H; have H := H1; clear H1; simp only [Option.some.injEq, Prod.mk.injEq] at H; obtain ⟨rfl, rfl⟩ := H; go_wp2
    repeat (go_quiet (fail); try go_wp2)
    go_ret
    exact ⟨apE, apQ, apU, apN⟩
   ·replace c7 := Bool.eq_false_iff.mpr c7; subst c7
    have H1 : (if (wrap64 ((wrap64 (bP + 1)) - 1)) < (an.length : Int) then (if 0 ≤ (wrap64 ((wrap64 (bP + 1)) - 1)) then (if a1 = 0 then (none) else (some (Int.tmod (wrap64 (rd an (wrap64 ((wrap64 (bP + 1)) - 1)))) a1, (wrap64 (bP + 1))))) else (none)) else (if (an.length : Int) = 0 then (none) else (if 0 ≤ (Int.tmod (wrap64 ((wrap64 (bP + 1)) - 1)) (an.length : Int)) then (if (Int.tmod (wrap64 ((wrap64 (bP + 1)) - 1)) (an.length : Int)) < (an.length : Int) then (if 0 ≤ (Int.tmod (wrap64 ((wrap64 ((wrap64 ((wrap64 (bP + 1)) - 1)) * 7)) + 3)) (an.length : Int)) then (if (Int.tmod (wrap64 ((wrap64 ((wrap64 ((wrap64 (bP + 1)) - 1)) * 7)) + 3)) (an.length : Int)) < (an.length : Int) then (if a1 = 0 then (none) else (some (Int.tmod (Go.bits .xor .i64 (wrap64 ((wrap64 ((wrap64 ((wrap64 ((wrap64 (rd an (Int.tmod (wrap64 ((wrap64 (bP + 1)) - 1)) (an.length : Int)))) * 131)) + (wrap64 ((wrap64 (rd an (Int.tmod (wrap64 ((wrap64 ((wrap64 ((wrap64 (bP + 1)) - 1)) * 7)) + 3)) (an.length : Int)))) * 1117)))) + (wrap64 ((wrap64 ((wrap64 (bP + 1)) - 1)) * 29)))) + (wrap64 ((wrap64 (Int.tdiv (wrap64 ((wrap64 (bP + 1)) - 1)) (an.length : Int))) * 53)))) (wrap64 (Int.tdiv (wrap64 ((wrap64 ((wrap64 ((wrap64 ((wrap64 (rd an (Int.tmod (wrap64 ((wrap64 (bP + 1)) - 1)) (an.length : Int)))) * 131)) + (wrap64 ((wrap64 (rd an (Int.tmod (wrap64 ((wrap64 ((wrap64 ((wrap64 (bP + 1)) - 1)) * 7)) + 3)) (an.length : Int)))) * 1117)))) + (wrap64 ((wrap64 ((wrap64 (bP + 1)) - 1)) * 29)))) + (wrap64 ((wrap64 (Int.tdiv (wrap64 ((wrap64 (bP + 1)) - 1)) (an.length : Int))) * 53)))) 64))) a1, (wrap64 (bP + 1))))) else (none)) else (none)) else (none)) else (none)))) = some (r1, r2) := by rw [if_neg (show ¬ (false = true) by decide)] at H; exact H
    clear H; have H := H1; clear H1; by_cases c8 : (wrap64 ((wrap64 (bP + 1)) - 1)) < (an.length : Int)
    ·rw [if_pos c8] at H; have uc : decide ((wrap64 ((wrap64 (bP + 1)) - 1)) < (an.length : Int)) = true := yD c8; clear c8; obtain ⟨ji9, LH⟩ : ∃ j_ : Int, (wrap64 ((wrap64 (bP + 1)) - 1)) = j_ := ⟨_, rfl⟩
     replace H : (if 0 ≤ (ji9) then (if a1 = 0 then (none) else (some (Int.tmod (wrap64 (rd an (ji9))) a1, (wrap64 (bP + 1))))) else (none)) = some (r1, r2) := by first | (rw [LH] at H; exact H) | (simp only [LH] at H ⊢; exact H)
     (try rw [LH] at uc)
     have hji9w : (IntKind.i64.wrap ((wrap64 (bP + 1)) - 1)) = ji9 := (i64_w _).trans LH; by_cases c10 : 0 ≤ (ji9)
     ·rw [if_pos c10] at H; have ki : decide (0 ≤ (ji9)) = true := yD c10; clear c10; by_cases c11 : a1 = 0
      ·rw [if_pos c11] at H; exact absurd H (by simp)
      ·rw [if_neg c11] at H; have wV : (a1 == 0) = false := beq_eq_false_iff_ne.mpr c11; have wW : (a1 != 0) = true := bne_iff_ne.mpr c11; simp only [Option.some.injEq, Prod.mk.injEq] at H; obtain ⟨rfl, rfl⟩ := H; obtain ⟨ASz12_0, cSz12_0, HE, YG, Oy⟩ := HI0.out; have t5 := cellS66_0 HE; have t6 := cellS66_1 HE; have t7 := zK HE 1; clear HE YG; have UA : 0 ≤ ((ji9) : Int) := yE apD; have UB : (ji9) < (an.length : Int) := yE apD; obtain ⟨ad104, e104, HF⟩ := Kd.at_int Oy (ji9) UA UB; cases e104; replace HF := pw_cell_below HB.out HF; replace UA := eq_true UA; replace UB := eq_true UB; go_wp2
       repeat (go_quiet (fail); try go_wp2)
       go_ret
       exact ⟨by first | rfl | (simp [errW_none, errW_some] <;> rfl) | (simp only [← LH]; first | rfl | (simp [errW_none, errW_some] <;> rfl)) | (simp [*, errW_none, errW_some] <;> rfl), apQ, apU, apN⟩
     ·rw [if_neg c10] at H; exact absurd H (by simp)
    ·rw [if_neg c8] at H; have uc : decide ((wrap64 ((wrap64 (bP + 1)) - 1)) < (an.length : Int)) = false := decide_eq_false c8; clear c8; by_cases c13 : (an.length : Int) = 0
     ·rw [if_pos c13] at H; exact absurd H (by simp)
     ·rw [if_neg c13] at H; have rV : ((an.length : Int) == 0) = false := beq_eq_false_iff_ne.mpr c13; have wX : ((an.length : Int) != 0) = true := bne_iff_ne.mpr c13
      have c13b2 : ¬ (an = []) := fun h_ => c13 (by rw [h_]; rfl)
      obtain ⟨rI, LI⟩ : ∃ j_ : Int, (Int.tmod (wrap64 ((wrap64 (bP + 1)) - 1)) (an.length : Int)) = j_ := ⟨_, rfl⟩
      replace H : (if 0 ≤ (rI) then (if (rI) < (an.length : Int) then (if 0 ≤ (Int.tmod (wrap64 ((wrap64 ((wrap64 ((wrap64 (bP + 1)) - 1)) * 7)) + 3)) (an.length : Int)) then (if (Int.tmod (wrap64 ((wrap64 ((wrap64 ((wrap64 (bP + 1)) - 1)) * 7)) + 3)) (an.length : Int)) < (an.length : Int) then (if a1 = 0 then (none) else (some (Int.tmod (Go.bits .xor .i64 (wrap64 ((wrap64 ((wrap64 ((wrap64 ((wrap64 (rd an (rI))) * 131)) + (wrap64 ((wrap64 (rd an (Int.tmod (wrap64 ((wrap64 ((wrap64 ((wrap64 (bP + 1)) - 1)) * 7)) + 3)) (an.length : Int)))) * 1117)))) + (wrap64 ((wrap64 ((wrap64 (bP + 1)) - 1)) * 29)))) + (wrap64 ((wrap64 (Int.tdiv (wrap64 ((wrap64 (bP + 1)) - 1)) (an.length : Int))) * 53)))) (wrap64 (Int.tdiv (wrap64 ((wrap64 ((wrap64 ((wrap64 ((wrap64 (rd an (rI))) * 131)) + (wrap64 ((wrap64 (rd an (Int.tmod (wrap64 ((wrap64 ((wrap64 ((wrap64 (bP + 1)) - 1)) * 7)) + 3)) (an.length : Int)))) * 1117)))) + (wrap64 ((wrap64 ((wrap64 (bP + 1)) - 1)) * 29)))) + (wrap64 ((wrap64 (Int.tdiv (wrap64 ((wrap64 (bP + 1)) - 1)) (an.length : Int))) * 53)))) 64))) a1, (wrap64 (bP + 1))))) else (none)) else (none)) else (none)) else (none)) = some (r1, r2) := by first | (rw [LI] at H; exact H) | (simp only [LI] at H ⊢; exact H)
      by_cases c15 : 0 ≤ (rI)
      ·rw [if_pos c15] at H; have oE : decide (0 ≤ (rI)) = true := yD c15; clear c15; by_cases c16 : (rI) < (an.length : Int)
       ·rw [if_pos c16] at H; have km : decide ((rI) < (an.length : Int)) = true := yD c16; clear c16; obtain ⟨vr, LJ⟩ : ∃ j_ : Int, (Int.tmod (wrap64 ((wrap64 ((wrap64 ((wrap64 (bP + 1)) - 1)) * 7)) + 3)) (an.length : Int)) = j_ := ⟨_, rfl⟩
        replace H : (if 0 ≤ (vr) then (if (vr) < (an.length : Int) then (if a1 = 0 then (none) else (some (Int.tmod (Go.bits .xor .i64 (wrap64 ((wrap64 ((wrap64 ((wrap64 ((wrap64 (rd an (rI))) * 131)) + (wrap64 ((wrap64 (rd an (vr))) * 1117)))) + (wrap64 ((wrap64 ((wrap64 (bP + 1)) - 1)) * 29)))) + (wrap64 ((wrap64 (Int.tdiv (wrap64 ((wrap64 (bP + 1)) - 1)) (an.length : Int))) * 53)))) (wrap64 (Int.tdiv (wrap64 ((wrap64 ((wrap64 ((wrap64 ((wrap64 (rd an (rI))) * 131)) + (wrap64 ((wrap64 (rd an (vr))) * 1117)))) + (wrap64 ((wrap64 ((wrap64 (bP + 1)) - 1)) * 29)))) + (wrap64 ((wrap64 (Int.tdiv (wrap64 ((wrap64 (bP + 1)) - 1)) (an.length : Int))) * 53)))) 64))) a1, (wrap64 (bP + 1))))) else (none)) else (none)) = some (r1, r2) := by first | (rw [LJ] at H; exact H) | (simp only [LJ] at H ⊢; exact H)
        by_cases c18 : 0 ≤ (vr)
        ·rw [if_pos c18] at H; have rW : decide (0 ≤ (vr)) = true := yD c18; clear c18; by_cases c19 : (vr) < (an.length : Int)
         ·rw [if_pos c19] at H; have DD : decide ((vr) < (an.length : Int)) = true := yD c19; clear c19; by_cases c20 : a1 = 0
          ·rw [if_pos c20] at H; exact absurd H (by simp)
          ·rw [if_neg c20] at H; have vt : (a1 == 0) = false := beq_eq_false_iff_ne.mpr c20; have xc : (a1 != 0) = true := bne_iff_ne.mpr c20; simp only [Option.some.injEq, Prod.mk.injEq] at H; obtain ⟨rfl, rfl⟩ := H; obtain ⟨ASz21_0, cSz21_0, HG, YH, HH⟩ := HI0.out; have Hw := cellS66_0 HG; have Hx := cellS66_1 HG; have Hz := zK HG 1; clear HG YH; have UC : 0 ≤ ((rI) : Int) := yE apD; have UD : (rI) < (an.length : Int) := yE apD; obtain ⟨YI, e105, HI⟩ := Kd.at_int HH (rI) UC UD; cases e105; replace HI := pw_cell_below HB.out HI; replace UC := eq_true UC; replace UD := eq_true UD; have UE : 0 ≤ ((vr) : Int) := yE apD; have UF : (vr) < (an.length : Int) := yE apD; obtain ⟨YJ, e106, HJ⟩ := Kd.at_int HH (vr) UE UF; obtain rfl : YI = YJ := (by injection e106); replace HJ := pw_cell_below HB.out HJ; replace UE := eq_true UE; replace UF := eq_true UF; go_wp2
           repeat (go_quiet (fail); try go_wp2)
           go_ret
           exact ⟨by first | rfl | (simp [errW_none, errW_some] <;> rfl) | (simp only [← LI, ← LJ]; first | rfl | (simp [errW_none, errW_some] <;> rfl)) | (simp [*, errW_none, errW_some] <;> rfl), apQ, apU, apN⟩
         ·rw [if_neg c19] at H; exact absurd H (by simp)
        ·rw [if_neg c18] at H; exact absurd H (by simp)
       ·rw [if_neg c16] at H; exact absurd H (by simp)
      ·rw [if_neg c15] at H; exact absurd H (by simp)


def spec_l1Rd_one.f (k : Nat) (an : List Int) (bP : Int) (l1 : List Int) : Option (Int × Int) := (spec_l1Rd_pick.f k an bP (l1.length : Int)).bind fun q0 => (if 0 ≤ q0.1 then (if q0.1 < (l1.length : Int) then (some (rd l1 q0.1, q0.2)) else (none)) else (none))
theorem spec_l1Rd_one.mono : ∀ a0 a1 a2 k, LeO (spec_l1Rd_one.f k a0 a1 a2) (spec_l1Rd_one.f (k + 1) a0 a1 a2) := by
 intro a0 a1 a2 k; unfold spec_l1Rd_one.f
 repeat' first
   | (with_reducible exact spec_l1Rd_pick.mono _ _ _ _)
   | exact lm
   | (with_reducible refine LeO.ite ?_ ?_)
   | (with_reducible refine LeO.bind ?_ (fun _ => ?_))
   | exact LeO.none _
set_option maxHeartbeats 8000000 in
set_option maxRecDepth 100000 in
theorem spec_l1Rd_one.calls (k : Nat) (g : Nat) (an : List Int) (bP : Int) (A1 : Option Addr) (c1 : Nat) (l1 : List Int) (r1 : Int) (r2 : Int) (w0 w : World) (hI : IsS66 w0 w g an bP) (hB : Below w0.heap.size w0 w) (hr1 : Kd.C (Kd.int .i64) w A1 l1.length l1) (hc1 : l1.length ≤ c1) (hf1 : ∀ ad, A1 = some ad → 0 < l1.length → ad.block ≠ g) (h : spec_l1Rd_one.f k an bP l1 = some (r1, r2)) :
  Calls Tryd.prog 40 #[.pointer (some ⟨g, 0, none⟩), .slice A1 l1.length c1] w fun e w' => e = .returned (.int .i64 r1) ∧ IsS66 w0 w' g an r2 ∧ Below w0.heap.size w0 w' ∧ KeepBut w w' g none := by
 have HR1 := zA hr1; have HC1 := zA hc1; clear hr1 hc1; have HI0 := zA hI; have HK := zA (KeepBut.refl w g none); have HL := zA hB.size; clear hI; have HW0 := zA hB.size; have HB := zA hB; clear hB; have H : ((spec_l1Rd_pick.f k an bP (l1.length : Int)).bind fun q0 => (if 0 ≤ q0.1 then (if q0.1 < (l1.length : Int) then (some (rd l1 q0.1, q0.2)) else (none)) else (none))) = some (r1, r2) := h; clear h; replace H := Option.bind_eq_some_iff.mp H; obtain ⟨⟨vu, YK⟩, A30, H⟩ := H; replace H : (if 0 ≤ vu then (if vu < (l1.length : Int) then (some (rd l1 vu, YK)) else (none)) else (none)) = some (r1, r2) := H; have A3 := zA A30; clear A30; by_cases c4 : 0 ≤ vu
 ·rw [if_pos c4] at H; have me : decide (0 ≤ vu) = true := yD c4; clear c4; by_cases c5 : vu < (l1.length : Int)
  ·rw [if_pos c5] at H; have dI : decide (vu < (l1.length : Int)) = true := yD c5; clear c5; simp only [Option.some.injEq, Prod.mk.injEq] at H; obtain ⟨rfl, rfl⟩ := H; go_enter Tryd.func40, Tryd.ntmps40; go_wp2_with (first | ((with_reducible refine zV (f := 30) rfl ?_); refine goesL_ (some 9) rfl rfl Tryd.func30 (by kernel_rfl) rfl #[.pointer (some ⟨g, 0, none⟩), .int .i64 (l1.length : Int)] rfl apC ?_; (with_reducible refine (spec_l1Rd_pick.calls k g an bP (l1.length : Int) vu YK w0 _ ?side1 ?side2 A3.out).mono ?_); (case side1 => exact apQ); (case side2 => exact apU); rintro e w6 ⟨rfl, hi, hb, hk⟩; refine ⟨_, rfl, ?_⟩; replace HK := zA (KeepBut.trans apN hk (.inl rfl)); replace HB := zA (hb); replace HI0 := zA (hi); (try clear hb hk hi); have UG : 0 ≤ (vu : Int) := yE apD; have UH : vu < (l1.length : Int) := yE apD; obtain ⟨YL, e109, HM⟩ := Kd.at_int HR1.out vu UG UH; cases e109; replace HM := keep_cell HK.out HM (by first | (rw [add_block]; exact hf1 _ rfl (by omega)) | exact hf1 _ rfl (by omega) | exact hf1 YL rfl (by omega)); replace UG := eq_true UG; replace UH := eq_true UH))
   go_ret
   exact ⟨apE, apQ, apU, apN⟩
  ·rw [if_neg c5] at H; exact absurd H (by simp)
 ·rw [if_neg c4] at H; exact absurd H (by simp)


def spec_l1New.l0 : Nat → Int → Int → Option (Int × Int × Bool)
 | 0, _, _ => none
 | k + 1, x0, x1 => if (Int.tmod x0 10) = 0 then (spec_l1New.l0 k (wrap64 (Int.tdiv x0 10)) (wrap64 (x1 + 1))) else ((spec_DecOk.f x0 x1).bind fun LK => (if LK = true then (some (x0, x1, true)) else (some (0, 0, false))))
def spec_l1New.f (k : Nat) (a0 : Int) (a1 : Int) : Option (Int × Int × Bool) := if a0 = 0 then (some (0, 0, true)) else (spec_l1New.l0 k a0 a1)
theorem spec_l1New.mono_l : ∀ k, (∀ y0 y1, LeO (spec_l1New.l0 k y0 y1) (spec_l1New.l0 (k + 1) y0 y1))
 | 0 => fun _ _ r h => by simp [spec_l1New.l0] at h
 | k + 1 => by
  have ih0 := spec_l1New.mono_l k
  ·intro y0 y1; unfold spec_l1New.l0
   repeat' first
   | (with_reducible exact ih0 _ _)
   | exact lm
   | (with_reducible refine LeO.ite ?_ ?_)
   | (with_reducible refine LeO.bind ?_ (fun _ => ?_))
   | exact LeO.none _
theorem spec_l1New.mono : ∀ a0 a1 k, LeO (spec_l1New.f k a0 a1) (spec_l1New.f (k + 1) a0 a1) := by
 intro a0 a1 k; have ih0 := spec_l1New.mono_l k; unfold spec_l1New.f
 repeat' first
   | (with_reducible exact ih0 _ _)
   | exact lm
   | (with_reducible refine LeO.ite ?_ ?_)
   | (with_reducible refine LeO.bind ?_ (fun _ => ?_))
   | exact LeO.none _
set_option maxHeartbeats 8000000 in
set_option maxRecDepth 100000 in
theorem spec_l1New.calls (k : Nat) (a0 : Int) (a1 : Int) (r1 : Int) (r2 : Int) (r3 : Bool) (w : World) (h : spec_l1New.f k a0 a1 = some (r1, r2, r3)) :
  Calls Tryd.prog 70 #[.int .i64 a0, .int .i64 a1] w fun e w' => e = .returned (.tuple #[.agg #[.int .i64 r1, .int .i64 r2], .bool r3]) ∧ Below w.heap.size w w' := by
 have sn := Tryd.underlying30; have HB := zA (yG w.heap.size w); have H : (if a0 = 0 then (some (0, 0, true)) else (spec_l1New.l0 k a0 a1)) = some (r1, r2, r3) := h; clear h; have HC3 := zA H; clear H; go_enter Tryd.func70, Tryd.ntmps70; go_upto_if 8 with (first | ((with_reducible refine zT (N := 4) rfl ?_); refine zW (by rfl) (N := 4) (by rfl) (cs := #[.int .i64 0, .int .i64 0]) (t := 30) apF ?_; intro C3 hg w4 hbox hb; have lI := zA (hbox); have GW113 := zA (gwl hg (zR apA)); have q2 := zA (gwl hg (zR apA)); replace HB := zA (zQ apA hb); clear hb hbox hg))
 (try simp only [Act.put, zL, zM, zN])
 have H := HC3.out; clear HC3; by_cases c5 : a0 = 0
 ·rw [if_pos c5] at H; have dI : (a0 == 0) = true := beq_iff_eq.mpr c5; have eP : (a0 != 0) = false := bne_eq_false_iff_eq.mpr c5; clear c5
  (first | rw [dI] | rw [eP] | (simp only [i64_w, i32_w]; rw [dI]) | (simp only [i64_w, i32_w]; rw [eP]) | skip)
  simp only [Option.some.injEq, Prod.mk.injEq] at H; obtain ⟨rfl, rfl, rfl⟩ := H; obtain ⟨_, _, _, _⟩ := zb2 lI.out; go_wp2
  refine bodyPost_ret (results_ct rfl _ _ C3 30 #[.int .i64 0, .int .i64 0] (0, 0) _ rfl apBZ Tryd.underlying30 rfl (by kernel_rfl)) rfl ?_; exact ⟨apE, apAB⟩
 ·rw [if_neg c5] at H; have dI : (a0 == 0) = false := beq_eq_false_iff_ne.mpr c5; have eP : (a0 != 0) = true := bne_iff_ne.mpr c5
  (first | rw [dI] | rw [eP] | (simp only [i64_w, i32_w]; rw [dI]) | (simp only [i64_w, i32_w]; rw [eP]) | skip)
  have H' := zA H; clear H; go_wp2
  go_loopg [0, 1] k (fun kq v0 v1 w' => ∃ (mZ : Int) (kt : Int), v0 = .int .i64 mZ ∧ v1 = .int .i64 kt ∧ Aside0 (spec_l1New.l0 kq mZ kt = some (r1, r2, r3)) ∧ Aside0 (kq ≤ k) ∧ Aside0 (w'.heap[C3]? = some (.cells #[.int .i64 0, .int .i64 0] 30 (0, 0))) ∧ Aside0 (Below w.heap.size w w'))
  case atStart => exact ⟨(a0), (a1), apB, apB, H', ⟨yH _⟩, ⟨vwB lI.out⟩, ⟨apAB⟩⟩
  case round =>
   clear H'; (try clear p2 c5 dI eP LE LF hfz6_0 LG); obtain ⟨mZ, kt, rfl, rfl, HA, HK1, lI, HB⟩ := hrel
   cases gk with
   | zero => exact absurd HA.out (by simp [spec_l1New.l0])
   | succ k1 =>
    have H := HA.out; clear HA; simp only [spec_l1New.l0] at H; by_cases c7 : (Int.tmod mZ 10) = 0
    ·rw [if_pos c7] at H; have kb : ((Int.tmod mZ 10) == 0) = true := beq_iff_eq.mpr c7; have lZ : ((Int.tmod mZ 10) != 0) = false := bne_eq_false_iff_eq.mpr c7; clear c7; have H' := zA H; clear H; go_wp2
     go_roundg k1
     case measure => have := HK1.out; omega
     case rel => exact ⟨(wrap64 (Int.tdiv mZ 10)), (wrap64 (kt + 1)), apB, apB, H', ⟨apR⟩, ⟨vwB lI.out⟩, ⟨apAB⟩⟩
    ·rw [if_neg c7] at H; have kb : ((Int.tmod mZ 10) == 0) = false := beq_eq_false_iff_ne.mpr c7; have lZ : ((Int.tmod mZ 10) != 0) = true := bne_iff_ne.mpr c7; replace H := Option.bind_eq_some_iff.mp H; obtain ⟨LK, A80, H⟩ := H; replace H : (if LK = true then (some (mZ, kt, true)) else (some (0, 0, false))) = some (r1, r2, r3) := H; have A8 := zA A80; clear A80; have HC9 := zA H; clear H; go_upto_if 22 with (first | ((with_reducible refine zT (N := 6) rfl ?_); refine zW (by rfl) (N := 6) (by rfl) (cs := #[.int .i64 0, .int .i64 0]) (t := 30) apF ?_; intro YM hg w10 hbox hb; have HN := zA (hbox); have GW114 := zA (gwl hg (zR apAB)); have LL := zA (gwl hg (zR apAB)); replace HB := zA (zQ apAB hb); have kV := zA (nbl hg (vwB lI.out)); have rJ := zA kV.out.symm; replace lI := zA (zP (vwB lI.out) hb); clear hb hbox hg; have HP := rJ.out; have HQ := kV.out; obtain ⟨_, _, _, _⟩ := zb2 HN.out) | ((with_reducible refine zV (f := 49) rfl ?_); refine goesL_ (some 21) rfl rfl Tryd.func49 (by kernel_rfl) rfl #[.agg #[.int .i64 mZ, .int .i64 kt]] rfl apC ?_; (with_reducible refine (spec_DecOk.calls mZ kt LK _ A8.out).mono ?_); rintro e w13 ⟨rfl, hb⟩; refine ⟨_, rfl, ?_⟩; replace lI := zA (zP (g := C3) (o := .cells #[.int .i64 0, .int .i64 0] 30 (0, 0)) (by (with_reducible repeat (first | apply zB | apply zD | apply zC)); refine blk_far ?_ kV.out _; (with_reducible repeat (first | apply zB | apply zD | apply zC)); refine blk_far ?_ kV.out _; (with_reducible repeat (first | apply zB | apply zD | apply zC)); exact lI.out) hb); replace HN := zA (zP (g := YM) (o := .cells #[.int .i64 mZ, .int .i64 kt] 30 (0, 0)) (by (with_reducible repeat (first | apply zB | apply zD | apply zC)); refine blk_put (cs := #[.int .i64 mZ, .int .i64 0]) ?_ 1 _ rfl; (with_reducible repeat (first | apply zB | apply zD | apply zC)); refine blk_put (cs := #[.int .i64 0, .int .i64 0]) ?_ 0 _ rfl; (with_reducible repeat (first | apply zB | apply zD | apply zC)); exact HN.out) hb); replace HB := zA (zQ apBN hb); (try clear hb hk hi)))
     (try simp only [Act.put, zL, zM, zN])
     have H := HC9.out; clear HC9; by_cases c14 : LK = true
     ·subst c14
      have H1 : (some (mZ, kt, true)) = some (r1, r2, r3) := by rw [if_pos rfl] at H; exact H
      clear H; have H := H1; clear H1; simp only [Option.some.injEq, Prod.mk.injEq] at H; obtain ⟨rfl, rfl, rfl⟩ := H; have RY := rJ.out; have RZ := kV.out; obtain ⟨_, _, _, _⟩ := zb2 HN.out; obtain ⟨_, _, _, _⟩ := zb2 lI.out; go_wp2
      refine bodyPost_ret (results_ct rfl _ _ C3 30 #[.int .i64 mZ, .int .i64 kt] (0, 0) _ rfl (by (with_reducible repeat (first | apply zB | apply zD | apply zC)); refine blk_put (cs := #[.int .i64 mZ, .int .i64 0]) ?_ 1 _ rfl; (with_reducible repeat (first | apply zB | apply zD | apply zC)); refine blk_put (cs := #[.int .i64 0, .int .i64 0]) ?_ 0 _ rfl; (with_reducible repeat (first | apply zB | apply zD | apply zC)); exact lI.out) Tryd.underlying30 rfl (by kernel_rfl)) rfl ?_; exact ⟨apE, apBN⟩
     ·replace c14 := Bool.eq_false_iff.mpr c14; subst c14
      have H1 : (some (0, 0, false)) = some (r1, r2, r3) := by rw [if_neg (show ¬ (false = true) by decide)] at H; exact H
      clear H; have H := H1; clear H1; simp only [Option.some.injEq, Prod.mk.injEq] at H; obtain ⟨rfl, rfl, rfl⟩ := H; have KD := kV.out; have KE := rJ.out; obtain ⟨_, _, _, _⟩ := zb2 lI.out; go_wp2
      refine bodyPost_ret (results_ct rfl _ _ C3 30 #[.int .i64 0, .int .i64 0] (0, 0) _ rfl apBZ Tryd.underlying30 rfl (by kernel_rfl)) rfl ?_; exact ⟨apE, apBN⟩


def spec_l14Dec.f (k : Nat) (an : List Int) (bP : Int) : Option (Int × Int × Int) := (spec_l1Rd_pick.f k an bP 20).bind fun C4 => ((spec_l1Rd_pick.f k an C4.2 256).bind fun sa => ((spec_l1Rd_pick.f k an sa.2 256).bind fun n2 => ((spec_l1Rd_pick.f k an n2.2 256).bind fun lJ => ((spec_l1Rd_one.f k an lJ.2 (([C4.1, wrap64 ((wrap64 (sa.1 * 256)) + n2.1), 99999999, 0, wrap64 (-lJ.1), 25, (-99999999)] : List Int))).bind fun js => ((spec_l1Rd_one.f k an js.2 (([0, 0, (-1), (-2), 2, (-8), 8] : List Int))).bind fun en => ((spec_l1New.f k js.1 en.1).bind fun dS => (if dS.2.2 = true then (some (dS.1, dS.2.1, en.2)) else (some (1, 0, en.2)))))))))
theorem spec_l14Dec.mono : ∀ a0 a1 k, LeO (spec_l14Dec.f k a0 a1) (spec_l14Dec.f (k + 1) a0 a1) := by
 intro a0 a1 k; unfold spec_l14Dec.f
 repeat' first
   | (with_reducible exact spec_l1New.mono _ _ _)
   | (with_reducible exact spec_l1Rd_one.mono _ _ _ _)
   | (with_reducible exact spec_l1Rd_pick.mono _ _ _ _)
   | exact lm
   | (with_reducible refine LeO.ite ?_ ?_)
   | (with_reducible refine LeO.bind ?_ (fun _ => ?_))
   | exact LeO.none _
set_option maxHeartbeats 8000000 in
set_option maxRecDepth 100000 in
theorem spec_l14Dec.calls (k : Nat) (g : Nat) (an : List Int) (bP : Int) (r1 : Int) (r2 : Int) (r3 : Int) (w0 w : World) (hI : IsS66 w0 w g an bP) (hB : Below w0.heap.size w0 w) (h : spec_l14Dec.f k an bP = some (r1, r2, r3)) :
  Calls Tryd.prog 56 #[.pointer (some ⟨g, 0, none⟩)] w fun e w' => e = .returned (.agg #[.int .i64 r1, .int .i64 r2]) ∧ IsS66 w0 w' g an r3 ∧ Below w0.heap.size w0 w' ∧ KeepBut w w' g none := by
 have sn := Tryd.underlying30; have HI0 := zA hI; have HK := zA (KeepBut.refl w g none); have HL := zA hB.size; clear hI; have HW0 := zA hB.size; have HB := zA hB; clear hB; have H : ((spec_l1Rd_pick.f k an bP 20).bind fun C4 => ((spec_l1Rd_pick.f k an C4.2 256).bind fun sa => ((spec_l1Rd_pick.f k an sa.2 256).bind fun n2 => ((spec_l1Rd_pick.f k an n2.2 256).bind fun lJ => ((spec_l1Rd_one.f k an lJ.2 (([C4.1, wrap64 ((wrap64 (sa.1 * 256)) + n2.1), 99999999, 0, wrap64 (-lJ.1), 25, (-99999999)] : List Int))).bind fun js => ((spec_l1Rd_one.f k an js.2 (([0, 0, (-1), (-2), 2, (-8), 8] : List Int))).bind fun en => ((spec_l1New.f k js.1 en.1).bind fun dS => (if dS.2.2 = true then (some (dS.1, dS.2.1, en.2)) else (some (1, 0, en.2)))))))))) = some (r1, r2, r3) := h; clear h; replace H := Option.bind_eq_some_iff.mp H; obtain ⟨⟨zv, UI⟩, A20, H⟩ := H; replace H : ((spec_l1Rd_pick.f k an UI 256).bind fun sa => ((spec_l1Rd_pick.f k an sa.2 256).bind fun n2 => ((spec_l1Rd_pick.f k an n2.2 256).bind fun lJ => ((spec_l1Rd_one.f k an lJ.2 (([zv, wrap64 ((wrap64 (sa.1 * 256)) + n2.1), 99999999, 0, wrap64 (-lJ.1), 25, (-99999999)] : List Int))).bind fun js => ((spec_l1Rd_one.f k an js.2 (([0, 0, (-1), (-2), 2, (-8), 8] : List Int))).bind fun en => ((spec_l1New.f k js.1 en.1).bind fun dS => (if dS.2.2 = true then (some (dS.1, dS.2.1, en.2)) else (some (1, 0, en.2))))))))) = some (r1, r2, r3) := H; have A2 := zA A20; clear A20; replace H := Option.bind_eq_some_iff.mp H; obtain ⟨⟨C5, UJ⟩, A30, H⟩ := H; replace H : ((spec_l1Rd_pick.f k an UJ 256).bind fun n2 => ((spec_l1Rd_pick.f k an n2.2 256).bind fun lJ => ((spec_l1Rd_one.f k an lJ.2 (([zv, wrap64 ((wrap64 (C5 * 256)) + n2.1), 99999999, 0, wrap64 (-lJ.1), 25, (-99999999)] : List Int))).bind fun js => ((spec_l1Rd_one.f k an js.2 (([0, 0, (-1), (-2), 2, (-8), 8] : List Int))).bind fun en => ((spec_l1New.f k js.1 en.1).bind fun dS => (if dS.2.2 = true then (some (dS.1, dS.2.1, en.2)) else (some (1, 0, en.2)))))))) = some (r1, r2, r3) := H; have A3 := zA A30; clear A30; replace H := Option.bind_eq_some_iff.mp H; obtain ⟨⟨CY, UK⟩, A40, H⟩ := H; replace H : ((spec_l1Rd_pick.f k an UK 256).bind fun lJ => ((spec_l1Rd_one.f k an lJ.2 (([zv, wrap64 ((wrap64 (C5 * 256)) + CY), 99999999, 0, wrap64 (-lJ.1), 25, (-99999999)] : List Int))).bind fun js => ((spec_l1Rd_one.f k an js.2 (([0, 0, (-1), (-2), 2, (-8), 8] : List Int))).bind fun en => ((spec_l1New.f k js.1 en.1).bind fun dS => (if dS.2.2 = true then (some (dS.1, dS.2.1, en.2)) else (some (1, 0, en.2))))))) = some (r1, r2, r3) := H; have A4 := zA A40; clear A40; replace H := Option.bind_eq_some_iff.mp H; obtain ⟨⟨JN, Oz⟩, A50, H⟩ := H; replace H : ((spec_l1Rd_one.f k an Oz (([zv, wrap64 ((wrap64 (C5 * 256)) + CY), 99999999, 0, wrap64 (-JN), 25, (-99999999)] : List Int))).bind fun js => ((spec_l1Rd_one.f k an js.2 (([0, 0, (-1), (-2), 2, (-8), 8] : List Int))).bind fun en => ((spec_l1New.f k js.1 en.1).bind fun dS => (if dS.2.2 = true then (some (dS.1, dS.2.1, en.2)) else (some (1, 0, en.2)))))) = some (r1, r2, r3) := H; have A5 := zA A50; clear A50
 first | (replace H := Option.bind_eq_some_iff.mp H; obtain ⟨OA, xd, H⟩ := H; replace xd : OA = (([zv, wrap64 ((wrap64 (C5 * 256)) + CY), 99999999, 0, wrap64 (-JN), 25, (-99999999)] : List Int)) := (yF xd).symm) | (obtain ⟨OA, xd⟩ : ∃ y_ : List Int, y_ = (([zv, wrap64 ((wrap64 (C5 * 256)) + CY), 99999999, 0, wrap64 (-JN), 25, (-99999999)] : List Int)) := ⟨_, rfl⟩; rw [← xd] at H)
 have S0 := zA xd; clear xd; replace H := Option.bind_eq_some_iff.mp H; obtain ⟨⟨JO, JP⟩, A60, H⟩ := H; replace H : ((spec_l1Rd_one.f k an JP (([0, 0, (-1), (-2), 2, (-8), 8] : List Int))).bind fun en => ((spec_l1New.f k JO en.1).bind fun dS => (if dS.2.2 = true then (some (dS.1, dS.2.1, en.2)) else (some (1, 0, en.2))))) = some (r1, r2, r3) := H; have A6 := zA A60; clear A60; obtain ⟨UL, C6⟩ : ∃ y_ : List Int, y_ = (([0, 0, (-1), (-2), 2, (-8), 8] : List Int)) := ⟨_, rfl⟩
 replace H : ((spec_l1Rd_one.f k an JP UL).bind fun en => ((spec_l1New.f k JO en.1).bind fun dS => (if dS.2.2 = true then (some (dS.1, dS.2.1, en.2)) else (some (1, 0, en.2))))) = some (r1, r2, r3) := by first | (rw [C6]; with_reducible exact H) | (have H2_ := (Option.bind_some _ _).symm.trans H; rw [C6]; with_reducible exact H2_) | (have H2_ := (Option.bind_some _ _).symm.trans H; with_reducible exact H2_) | with_reducible exact H | (rw [C6]; exact H) | exact H
 have S1 := zA C6; clear C6; replace H := Option.bind_eq_some_iff.mp H; obtain ⟨⟨OB, C7⟩, A70, H⟩ := H; replace H : ((spec_l1New.f k JO OB).bind fun dS => (if dS.2.2 = true then (some (dS.1, dS.2.1, C7)) else (some (1, 0, C7)))) = some (r1, r2, r3) := H; have A7 := zA A70; clear A70; replace H := Option.bind_eq_some_iff.mp H; obtain ⟨⟨LM, OC, UM⟩, A80, H⟩ := H; replace H : (if UM = true then (some (LM, OC, C7)) else (some (1, 0, C7))) = some (r1, r2, r3) := H; have A8 := zA A80; clear A80; have HC9 := zA H; clear H; go_enter Tryd.func56, Tryd.ntmps56
 go_upto_if 31 with (first | ((with_reducible refine zT (N := 2) rfl ?_); refine zW (by rfl) (N := 2) (by rfl) (cs := #[.int .i64 0, .int .i64 0]) (t := 30) apF ?_; intro n3 hg w10 hbox hb; replace HB := zA (zQ apU hb); have f9 := zA (hbox); have kn := zA (gwl hg (keep_size (w := w) (g := g) (row := none) apN)); have mF := zA ((Nat.le_trans HW0.out (by rw [hg]; exact (keep_size (w := w) (g := g) (row := none) apN) : w.heap.size ≤ n3) : w0.heap.size ≤ n3)); replace HK := zA (KeepBut.trans apN (KeepBut.of_below hb g none) (.inl rfl)); have ed := zA ((by rw [hg]; exact Nat.ne_of_lt (IsS66.lt (show IsS66 w0 _ g an bP from apQ)) : g ≠ n3)); have lK := zA ed.out.symm; replace HI0 := zA (IsS66.below apQ hb); clear hb hbox hg) | ((with_reducible refine zV (f := 30) rfl ?_); refine goesL_ (some 9) rfl rfl Tryd.func30 (by kernel_rfl) rfl #[.pointer (some ⟨g, 0, none⟩), .int .i64 20] rfl apC ?_; (with_reducible refine (spec_l1Rd_pick.calls k g an bP 20 zv UI w0 _ ?side1 ?side2 A2.out).mono ?_); (case side1 => exact ape); (case side2 => exact apn); rintro e w11 ⟨rfl, hi, hb, hk⟩; refine ⟨_, rfl, ?_⟩; replace f9 := zA (KeepBut.blk hk (g' := n3) (o := .cells #[.int .i64 0, .int .i64 0] 30 (0, 0)) (vwB f9.out) lK.out (by simp)); replace HK := zA (KeepBut.trans apf hk (.inl rfl)); replace HB := zA (hb); replace HI0 := zA (hi); (try clear hb hk hi)) | ((with_reducible refine zV (f := 30) rfl ?_); refine goesL_ (some 11) rfl rfl Tryd.func30 (by kernel_rfl) rfl #[.pointer (some ⟨g, 0, none⟩), .int .i64 256] rfl apC ?_; (with_reducible refine (spec_l1Rd_pick.calls k g an UI 256 C5 UJ w0 _ ?side1 ?side2 A3.out).mono ?_); (case side1 => exact ape); (case side2 => exact apn); rintro e w12 ⟨rfl, hi, hb, hk⟩; refine ⟨_, rfl, ?_⟩; replace f9 := zA (KeepBut.blk hk (g' := n3) (o := .cells #[.int .i64 0, .int .i64 0] 30 (0, 0)) (vwB f9.out) lK.out (by simp)); replace HK := zA (KeepBut.trans apf hk (.inl rfl)); replace HB := zA (hb); replace HI0 := zA (hi); (try clear hb hk hi)) | ((with_reducible refine zV (f := 30) rfl ?_); refine goesL_ (some 14) rfl rfl Tryd.func30 (by kernel_rfl) rfl #[.pointer (some ⟨g, 0, none⟩), .int .i64 256] rfl apC ?_; (with_reducible refine (spec_l1Rd_pick.calls k g an UJ 256 CY UK w0 _ ?side1 ?side2 A4.out).mono ?_); (case side1 => exact ape); (case side2 => exact apn); rintro e w13 ⟨rfl, hi, hb, hk⟩; refine ⟨_, rfl, ?_⟩; replace f9 := zA (KeepBut.blk hk (g' := n3) (o := .cells #[.int .i64 0, .int .i64 0] 30 (0, 0)) (vwB f9.out) lK.out (by simp)); replace HK := zA (KeepBut.trans apf hk (.inl rfl)); replace HB := zA (hb); replace HI0 := zA (hi); (try clear hb hk hi)) | ((with_reducible refine zV (f := 30) rfl ?_); refine goesL_ (some 17) rfl rfl Tryd.func30 (by kernel_rfl) rfl #[.pointer (some ⟨g, 0, none⟩), .int .i64 256] rfl apC ?_; (with_reducible refine (spec_l1Rd_pick.calls k g an UK 256 JN Oz w0 _ ?side1 ?side2 A5.out).mono ?_); (case side1 => exact ape); (case side2 => exact apn); rintro e w14 ⟨rfl, hi, hb, hk⟩; refine ⟨_, rfl, ?_⟩; replace f9 := zA (KeepBut.blk hk (g' := n3) (o := .cells #[.int .i64 0, .int .i64 0] 30 (0, 0)) (vwB f9.out) lK.out (by simp)); replace HK := zA (KeepBut.trans apf hk (.inl rfl)); replace HB := zA (hb); replace HI0 := zA (hi); (try clear hb hk hi)) | ((with_reducible refine zT (N := 19) rfl ?_); refine Kd.R_lit (Kd.int .i64) _ 3 ?hg (N := 19) ?hd (xs := ([zv, wrap64 ((wrap64 (C5 * 256)) + CY), 99999999, 0, wrap64 (-JN), 25, (-99999999)] : List Int)) (inner := [.int .i64 zv, .int .i64 (wrap64 ((wrap64 (C5 * 256)) + CY)), .int .i64 99999999, .int .i64 0, .int .i64 (wrap64 (-JN)), .int .i64 25, .int .i64 (-99999999)]) (ok := fun _ => True) (okp := fun _ => True) ?hr ?hp (fun _ hk => hk) trivial (yG _ _) (yH _) (by simp) ?_; (case hd => rfl); (case hg => rfl); (case hr => first | (go_simp; done) | (go_simp; rfl)); (case hp => exact (Reps.one rfl (Reps.one rfl (Reps.one rfl (Reps.one rfl (Reps.one rfl (Reps.one rfl (Reps.one rfl (Reps.none _ _))))))))); intro v126 w15 vo hb hg_ hnew_; clear hg_ hnew_; (first | rw [← S0.out] at vo | (simp only [Int.reduceToNat] at vo; rw [← S0.out] at vo)); have l9 := zA (Kd.R_lower vo (keep_size (w := w) (g := g) (row := none) apf)); replace f9 := zA (zP (vwB f9.out) hb); replace HK := zA (KeepBut.trans apf (KeepBut.of_below hb g none) (.inl rfl)); replace HB := zA (zQ apn hb); replace HI0 := zA (IsS66.below ape hb); clear hb vo; obtain ⟨im, dT, UN⟩ := Kd.R_slice l9.out; subst UN) | ((with_reducible refine zV (f := 40) rfl ?_); refine goesL_ (some 20) rfl rfl Tryd.func40 (by kernel_rfl) rfl #[.pointer (some ⟨g, 0, none⟩), .slice im OA.length dT] rfl apC ?_; (with_reducible refine (spec_l1Rd_one.calls k g an Oz _ _ OA JO JP w0 _ ?side1 ?side2 ?side3 ?side4 ?side5 A6.out).mono ?_); (case side1 => exact ape); (case side2 => exact apn); (case side3 => exact vc (Kd.R_reads' l9.out).2.2); (case side4 => exact (Kd.R_reads' l9.out).2.1); (case side5 => exact far_slice (IsS66.own_ne HI0.out l9.out (by decide))); rintro e w18 ⟨rfl, hi, hb, hk⟩; refine ⟨_, rfl, ?_⟩; replace f9 := zA (KeepBut.blk hk (g' := n3) (o := .cells #[.int .i64 0, .int .i64 0] 30 (0, 0)) (vwB f9.out) lK.out (by simp)); replace l9 := zA (Kd.R_mono (Kd.R_keep (IsS66.apart (show IsS66 w0 _ g an Oz from ape) (vwR l9.out) (by decide)) hk (fun _ h => h.2)) (fun _ h => h.1)); replace HK := zA (KeepBut.trans apf hk (.inl rfl)); replace HB := zA (hb); replace HI0 := zA (hi); (try clear hb hk hi)) | ((with_reducible refine zT (N := 22) rfl ?_); refine Kd.R_lit (Kd.int .i64) _ 3 ?hg (N := 22) ?hd (xs := ([0, 0, (-1), (-2), 2, (-8), 8] : List Int)) (inner := [.int .i64 0, .int .i64 0, .int .i64 (-1), .int .i64 (-2), .int .i64 2, .int .i64 (-8), .int .i64 8]) (ok := fun _ => True) (okp := fun _ => True) ?hr ?hp (fun _ hk => hk) trivial (yG _ _) (yH _) (by simp) ?_; (case hd => rfl); (case hg => rfl); (case hr => first | (go_simp; done) | (go_simp; rfl)); (case hp => exact (Reps.one rfl (Reps.one rfl (Reps.one rfl (Reps.one rfl (Reps.one rfl (Reps.one rfl (Reps.one rfl (Reps.none _ _))))))))); intro v131 w19 JQ hb hg_ hnew_; clear hg_ hnew_; (first | rw [← S1.out] at JQ | (simp only [Int.reduceToNat] at JQ; rw [← S1.out] at JQ)); have oI := zA (Kd.R_lower (Kd.R_new' JQ (Kd.R_lt (vwR l9.out))) (keep_size (w := w) (g := g) (row := none) apf)); replace l9 := zA (Kd.R_elder' (vwR l9.out) (Kd.R_base JQ) hb); replace f9 := zA (zP (vwB f9.out) hb); replace HK := zA (KeepBut.trans apf (KeepBut.of_below hb g none) (.inl rfl)); replace HB := zA (zQ apn hb); replace HI0 := zA (IsS66.below ape hb); clear hb JQ; obtain ⟨Ao21, co21, eo21⟩ := Kd.R_slice oI.out; subst eo21) | ((with_reducible refine zV (f := 40) rfl ?_); refine goesL_ (some 23) rfl rfl Tryd.func40 (by kernel_rfl) rfl #[.pointer (some ⟨g, 0, none⟩), .slice Ao21 UL.length co21] rfl apC ?_; (with_reducible refine (spec_l1Rd_one.calls k g an JP _ _ UL OB C7 w0 _ ?side1 ?side2 ?side3 ?side4 ?side5 A7.out).mono ?_); (case side1 => exact ape); (case side2 => exact apn); (case side3 => exact vc (Kd.R_reads' oI.out).2.2); (case side4 => exact (Kd.R_reads' oI.out).2.1); (case side5 => exact far_slice (IsS66.own_ne HI0.out oI.out (by decide))); rintro e w22 ⟨rfl, hi, hb, hk⟩; refine ⟨_, rfl, ?_⟩; replace f9 := zA (KeepBut.blk hk (g' := n3) (o := .cells #[.int .i64 0, .int .i64 0] 30 (0, 0)) (vwB f9.out) lK.out (by simp)); replace l9 := zA (Kd.R_mono (Kd.R_keep (IsS66.apart (show IsS66 w0 _ g an JP from ape) (vwR l9.out) (by decide)) hk (fun _ h => h.2)) (fun _ h => h.1)); replace oI := zA (Kd.R_mono (Kd.R_keep (IsS66.apart (show IsS66 w0 _ g an JP from ape) (vwR oI.out) (by decide)) hk (fun _ h => h.2)) (fun _ h => h.1)); replace HK := zA (KeepBut.trans apf hk (.inl rfl)); replace HB := zA (hb); replace HI0 := zA (hi); (try clear hb hk hi)) | ((with_reducible refine zV (f := 70) rfl ?_); refine goesL_ (some 27) rfl rfl Tryd.func70 (by kernel_rfl) rfl #[.int .i64 JO, .int .i64 OB] rfl apC ?_; (with_reducible refine (spec_l1New.calls k JO OB LM OC UM _ A8.out).mono ?_); rintro e w23 ⟨rfl, hb⟩; refine ⟨_, rfl, ?_⟩; replace l9 := zA (Kd.R_below (vwR l9.out) hb); replace oI := zA (Kd.R_below (vwR oI.out) hb); replace f9 := zA (zP (vwB f9.out) hb); replace HK := zA (KeepBut.trans apf (KeepBut.of_below hb g none) (.inl rfl)); replace HB := zA (zQ apn hb); replace HI0 := zA (IsS66.below ape hb); (try clear hb hk hi)) | ((with_reducible refine zT (N := 5) rfl ?_); refine zW (by rfl) (N := 5) (by rfl) (cs := #[.int .i64 0, .int .i64 0]) (t := 30) apF ?_; intro LN hg w24 hbox hb; replace l9 := zA (Kd.R_below (vwR l9.out) hb); replace oI := zA (Kd.R_below (vwR oI.out) hb); replace HB := zA (zQ apn hb); have S3 := zA (hbox); have S4 := zA (gwl hg (keep_size (w := w) (g := g) (row := none) apf)); have S5 := zA ((Nat.le_trans HW0.out (by rw [hg]; exact (keep_size (w := w) (g := g) (row := none) apf) : w.heap.size ≤ LN) : w0.heap.size ≤ LN)); replace HK := zA (KeepBut.trans apf (KeepBut.of_below hb g none) (.inl rfl)); have i8 := zA (nbl hg (vwB f9.out)); have rK := zA i8.out.symm; replace f9 := zA (zP (vwB f9.out) hb); have q3 := zA ((by rw [hg]; exact Nat.ne_of_lt (IsS66.lt (show IsS66 w0 _ g an C7 from ape)) : g ≠ LN)); have HS := zA q3.out.symm; replace HI0 := zA (IsS66.below ape hb); clear hb hbox hg; have BQ := rK.out; have BR := i8.out; have S6 := HS.out; have S7 := q3.out; obtain ⟨_, _, _, _⟩ := zb2 S3.out))
 (try simp only [Act.put, zL, zM, zN])
 have H := HC9.out; clear HC9; by_cases c28 : UM = true
 ·subst c28
  have H1 : (some (LM, OC, C7)) = some (r1, r2, r3) := by rw [if_pos rfl] at H; exact H
  clear H; have H := H1; clear H1; simp only [Option.some.injEq, Prod.mk.injEq] at H; obtain ⟨rfl, rfl, rfl⟩ := H; have S8 := rK.out; have S9 := i8.out; have LO := HS.out; have LP := q3.out; obtain ⟨_, _, _, _⟩ := zb2 S3.out; have YN := lK.out; have YO := ed.out; obtain ⟨_, _, _, _⟩ := zb2 f9.out; go_wp2
  refine bodyPost_ret (results_cell_row rfl _ _ n3 30 #[.int .i64 LM, .int .i64 OC] (0, 0) _ rfl (by (with_reducible repeat (first | apply zB | apply zD | apply zC)); refine blk_put (cs := #[.int .i64 LM, .int .i64 0]) ?_ 1 _ rfl; (with_reducible repeat (first | apply zB | apply zD | apply zC)); refine blk_put (cs := #[.int .i64 0, .int .i64 0]) ?_ 0 _ rfl; (with_reducible repeat (first | apply zB | apply zD | apply zC)); refine blk_far ?_ i8.out _; (with_reducible repeat (first | apply zB | apply zD | apply zC)); refine blk_far ?_ i8.out _; (with_reducible repeat (first | apply zB | apply zD | apply zC)); exact f9.out) Tryd.underlying30 rfl (by kernel_rfl)) rfl ?_; exact ⟨apE, apCA, apCB, apCC⟩
 ·replace c28 := Bool.eq_false_iff.mpr c28; subst c28
  have H1 : (some (1, 0, C7)) = some (r1, r2, r3) := by rw [if_neg (show ¬ (false = true) by decide)] at H; exact H
  clear H; have H := H1; clear H1; simp only [Option.some.injEq, Prod.mk.injEq] at H; obtain ⟨rfl, rfl, rfl⟩ := H; have KF := i8.out; have KG := rK.out; have Sa := lK.out; have Sb := ed.out; obtain ⟨_, _, _, _⟩ := zb2 f9.out; go_wp2
  refine bodyPost_ret (results_cell_row rfl _ _ n3 30 #[.int .i64 1, .int .i64 0] (0, 0) _ rfl (by (with_reducible repeat (first | apply zB | apply zD | apply zC)); refine blk_put (cs := #[.int .i64 1, .int .i64 0]) ?_ 1 _ rfl; (with_reducible repeat (first | apply zB | apply zD | apply zC)); refine blk_put (cs := #[.int .i64 0, .int .i64 0]) ?_ 0 _ rfl; (with_reducible repeat (first | apply zB | apply zD | apply zC)); refine blk_far ?_ i8.out _; (with_reducible repeat (first | apply zB | apply zD | apply zC)); refine blk_far ?_ i8.out _; (with_reducible repeat (first | apply zB | apply zD | apply zC)); exact f9.out) Tryd.underlying30 rfl (by kernel_rfl)) rfl ?_; exact ⟨apE, apCA, apCB, apCC⟩


def spec_l14Bytes.l0 : Nat → List Int → Int → List Int → Int → Option (ByteArray × Int)
 | 0, _, _, _, _ => none
 | k + 1, x3, x4, dF, dQ => if x4 > 0 then ((spec_l1Rd_one.f k dF dQ (([97, 98, 122, 32, 10, 34, 92, 0, 255, 127, 120, 49, 200, 9] : List Int))).bind fun C8 => (if x3.length < 140737488355328 then (spec_l14Bytes.l0 k (x3 ++ [(C8.1) % 256]) (wrap64 (x4 - 1)) dF C8.2) else (none))) else (some (strOfNums x3, dQ))
def spec_l14Bytes.f (k : Nat) (an : List Int) (bP : Int) : Option (ByteArray × Int) := (spec_l1Rd_pick.f k an bP 8).bind fun sb => (spec_l14Bytes.l0 k (([] : List Int)) sb.1 an sb.2)
theorem spec_l14Bytes.mono_l : ∀ k, (∀ y0 y1 y2 y3, LeO (spec_l14Bytes.l0 k y0 y1 y2 y3) (spec_l14Bytes.l0 (k + 1) y0 y1 y2 y3))
 | 0 => fun _ _ _ _ r h => by simp [spec_l14Bytes.l0] at h
 | k + 1 => by
  have ih0 := spec_l14Bytes.mono_l k
  ·intro y0 y1 y2 y3; unfold spec_l14Bytes.l0
   repeat' first
   | (with_reducible exact ih0 _ _ _ _)
   | (with_reducible exact spec_l1Rd_one.mono _ _ _ _)
   | (with_reducible exact spec_l1Rd_pick.mono _ _ _ _)
   | exact lm
   | (with_reducible refine LeO.ite ?_ ?_)
   | (with_reducible refine LeO.bind ?_ (fun _ => ?_))
   | exact LeO.none _
theorem spec_l14Bytes.mono : ∀ a0 a1 k, LeO (spec_l14Bytes.f k a0 a1) (spec_l14Bytes.f (k + 1) a0 a1) := by
 intro a0 a1 k; have ih0 := spec_l14Bytes.mono_l k; unfold spec_l14Bytes.f
 repeat' first
   | (with_reducible exact ih0 _ _ _ _)
   | (with_reducible exact spec_l1Rd_one.mono _ _ _ _)
   | (with_reducible exact spec_l1Rd_pick.mono _ _ _ _)
   | exact lm
   | (with_reducible refine LeO.ite ?_ ?_)
   | (with_reducible refine LeO.bind ?_ (fun _ => ?_))
   | exact LeO.none _
set_option maxHeartbeats 8000000 in
set_option maxRecDepth 100000 in
theorem spec_l14Bytes.calls (k : Nat) (g : Nat) (an : List Int) (bP : Int) (r1 : ByteArray) (r2 : Int) (w0 w : World) (hI : IsS66 w0 w g an bP) (hB : Below w0.heap.size w0 w) (h : spec_l14Bytes.f k an bP = some (r1, r2)) :
  Calls Tryd.prog 57 #[.pointer (some ⟨g, 0, none⟩)] w fun e w' => e = .returned (.string r1) ∧ IsS66 w0 w' g an r2 ∧ Below w0.heap.size w0 w' ∧ KeepBut w w' g none := by
 have HI0 := zA hI; have HK := zA (KeepBut.refl w g none); have HL := zA hB.size; clear hI; have HW0 := zA hB.size; have HB := zA hB; clear hB; have H : ((spec_l1Rd_pick.f k an bP 8).bind fun sb => (spec_l14Bytes.l0 k (([] : List Int)) sb.1 an sb.2)) = some (r1, r2) := h; clear h; obtain ⟨UO, C9⟩ : ∃ y_ : List Int, y_ = (([] : List Int)) := ⟨_, rfl⟩
 replace H : ((spec_l1Rd_pick.f k an bP 8).bind fun sb => (spec_l14Bytes.l0 k UO sb.1 an sb.2)) = some (r1, r2) := by first | (rw [C9]; with_reducible exact H) | (have H2_ := (Option.bind_some _ _).symm.trans H; rw [C9]; with_reducible exact H2_) | (have H2_ := (Option.bind_some _ _).symm.trans H; with_reducible exact H2_) | with_reducible exact H | (rw [C9]; exact H) | exact H
 have Sc := zA C9; clear C9; replace H := Option.bind_eq_some_iff.mp H; obtain ⟨⟨UP, UQ⟩, A20, H⟩ := H; replace H : (spec_l14Bytes.l0 k UO UP an UQ) = some (r1, r2) := H; have A2 := zA A20; clear A20; have H' := zA H; clear H; go_enter Tryd.func57, Tryd.ntmps57; go_wp2_with (first | ((with_reducible refine zT (N := 5) rfl ?_); refine Kd.R_lit (Kd.int .u8) _ 5 ?hg (N := 5) ?hd (xs := ([] : List Int)) (inner := []) (ok := fun _ => True) (okp := fun _ => True) ?hr ?hp (fun _ hk => hk) trivial (yG _ _) (yH _) (by simp) ?_; (case hd => rfl); (case hg => rfl); (case hr => first | (go_simp; done) | (go_simp; rfl)); (case hp => exact (Reps.none _ _)); intro v140 w3 ho4 hb hg_ hnew_; clear hg_ hnew_; (first | rw [← Sc.out] at ho4 | (simp only [Int.reduceToNat] at ho4; rw [← Sc.out] at ho4)); have LQ := zA (Kd.R_lower ho4 (keep_size (w := w) (g := g) (row := none) apN)); replace HK := zA (KeepBut.trans apN (KeepBut.of_below hb g none) (.inl rfl)); replace HB := zA (zQ apU hb); replace HI0 := zA (IsS66.below apQ hb); clear hb ho4) | ((with_reducible refine zV (f := 30) rfl ?_); refine goesL_ (some 7) rfl rfl Tryd.func30 (by kernel_rfl) rfl #[.pointer (some ⟨g, 0, none⟩), .int .i64 8] rfl apC ?_; (with_reducible refine (spec_l1Rd_pick.calls k g an bP 8 UP UQ w0 _ ?side1 ?side2 A2.out).mono ?_); (case side1 => exact apQ); (case side2 => exact apU); rintro e w5 ⟨rfl, hi, hb, hk⟩; refine ⟨_, rfl, ?_⟩; replace LQ := zA (Kd.R_mono (Kd.R_keep (IsS66.apart (show IsS66 w0 _ g an bP from apQ) (vwR LQ.out) (by decide)) hk (fun _ h => h.2)) (fun _ h => h.1)); replace HK := zA (KeepBut.trans apN hk (.inl rfl)); replace HB := zA (hb); replace HI0 := zA (hi); (try clear hb hk hi)))
 go_loopg [3, 4] k (fun kq v3 v4 w' => ∃ (bo : List Int) (bJ : Int) (mg : Int), v4 = .int .i64 bJ ∧ Aside0 (spec_l14Bytes.l0 kq bo bJ an mg = some (r1, r2)) ∧ Aside0 (kq ≤ k) ∧ Aside0 (Kd.R (Kd.int .u8) 5 w' w.heap.size (fun _ => True) v3 bo) ∧ Aside0 (IsS66 w0 w' g an mg) ∧ Aside0 (KeepBut w w' g none) ∧ Aside0 (Below w0.heap.size w0 w'))
 case atStart => exact ⟨(UO), (UP), (UQ), apB, H', ⟨yH _⟩, ⟨vwR LQ.out⟩, ⟨apQ⟩, ⟨apN⟩, ⟨apU⟩⟩
 case round =>
  clear H'; (try clear p2 c3 c5); obtain ⟨bo, bJ, mg, rfl, HA, HK1, wL, HI0, HK, HB⟩ := hrel
  cases gk with
  | zero => exact absurd HA.out (by simp [spec_l14Bytes.l0])
  | succ k1 =>
   have H := HA.out; clear HA; simp only [spec_l14Bytes.l0] at H; by_cases c6 : bJ > 0
   ·rw [if_pos c6] at H; have oC : decide (0 < bJ) = true := yD c6; clear c6; obtain ⟨UR, Ca⟩ : ∃ y_ : List Int, y_ = (([97, 98, 122, 32, 10, 34, 92, 0, 255, 127, 120, 49, 200, 9] : List Int)) := ⟨_, rfl⟩
    replace H : ((spec_l1Rd_one.f k1 an mg UR).bind fun C8 => (if bo.length < 140737488355328 then (spec_l14Bytes.l0 k1 (bo ++ [(C8.1) % 256]) (wrap64 (bJ - 1)) an C8.2) else (none))) = some (r1, r2) := by first | (rw [Ca]; with_reducible exact H) | (have H2_ := (Option.bind_some _ _).symm.trans H; rw [Ca]; with_reducible exact H2_) | (have H2_ := (Option.bind_some _ _).symm.trans H; with_reducible exact H2_) | with_reducible exact H | (rw [Ca]; exact H) | exact H
    have Sd := zA Ca; clear Ca; replace H := Option.bind_eq_some_iff.mp H; obtain ⟨⟨LR, OD⟩, A70, H⟩ := H; replace H : (if bo.length < 140737488355328 then (spec_l14Bytes.l0 k1 (bo ++ [(LR) % 256]) (wrap64 (bJ - 1)) an OD) else (none)) = some (r1, r2) := H; have A7 := zA A70; clear A70; by_cases c8 : bo.length < 140737488355328
    ·rw [if_pos c8] at H; have LMc8 := zA c8; clear c8; obtain ⟨YP, Cb⟩ : ∃ y_ : List Int, y_ = (bo ++ [(LR) % 256]) := ⟨_, rfl⟩
     replace H : (spec_l14Bytes.l0 k1 YP (wrap64 (bJ - 1)) an OD) = some (r1, r2) := by first | (rw [Cb]; with_reducible exact H) | (have H2_ := (Option.bind_some _ _).symm.trans H; rw [Cb]; with_reducible exact H2_) | (have H2_ := (Option.bind_some _ _).symm.trans H; with_reducible exact H2_) | with_reducible exact H | (rw [Cb]; exact H) | exact H
     have YQ := zA Cb; clear Cb; have H' := zA H; clear H; go_wp2_with (first | ((with_reducible refine zT (N := 14) rfl ?_); refine Kd.R_lit (Kd.int .i64) _ 3 ?hg (N := 14) ?hd (xs := ([97, 98, 122, 32, 10, 34, 92, 0, 255, 127, 120, 49, 200, 9] : List Int)) (inner := [.int .i64 97, .int .i64 98, .int .i64 122, .int .i64 32, .int .i64 10, .int .i64 34, .int .i64 92, .int .i64 0, .int .i64 255, .int .i64 127, .int .i64 120, .int .i64 49, .int .i64 200, .int .i64 9]) (ok := fun _ => True) (okp := fun _ => True) ?hr ?hp (fun _ hk => hk) trivial (yG _ _) (yH _) (by simp) ?_; (case hd => rfl); (case hg => rfl); (case hr => first | (go_simp; done) | (go_simp; rfl)); (case hp => exact (Reps.one rfl (Reps.one rfl (Reps.one rfl (Reps.one rfl (Reps.one rfl (Reps.one rfl (Reps.one rfl (Reps.one rfl (Reps.one rfl (Reps.one rfl (Reps.one rfl (Reps.one rfl (Reps.one rfl (Reps.one rfl (Reps.none _ _)))))))))))))))); intro v145 w9 LS hb hg_ hnew_; clear hg_ hnew_; (first | rw [← Sd.out] at LS | (simp only [Int.reduceToNat] at LS; rw [← Sd.out] at LS)); replace wL := zA (Kd.R_below (vwR wL.out) hb); have sd := zA (Kd.R_lower LS (keep_size (w := w) (g := g) (row := none) apN)); replace HK := zA (KeepBut.trans apN (KeepBut.of_below hb g none) (.inl rfl)); replace HB := zA (zQ apU hb); replace HI0 := zA (IsS66.below apQ hb); clear hb LS; obtain ⟨Ao11, co11, eo11⟩ := Kd.R_slice sd.out; subst eo11) | ((with_reducible refine zV (f := 40) rfl ?_); refine goesL_ (some 15) rfl rfl Tryd.func40 (by kernel_rfl) rfl #[.pointer (some ⟨g, 0, none⟩), .slice Ao11 UR.length co11] rfl apC ?_; (with_reducible refine (spec_l1Rd_one.calls k1 g an mg _ _ UR LR OD w0 _ ?side1 ?side2 ?side3 ?side4 ?side5 A7.out).mono ?_); (case side1 => exact apQ); (case side2 => exact apU); (case side3 => exact vc (Kd.R_reads' sd.out).2.2); (case side4 => exact (Kd.R_reads' sd.out).2.1); (case side5 => exact far_slice (IsS66.own_ne HI0.out sd.out (by decide))); rintro e w12 ⟨rfl, hi, hb, hk⟩; refine ⟨_, rfl, ?_⟩; replace wL := zA (Kd.R_mono (Kd.R_keep (IsS66.apart (show IsS66 w0 _ g an mg from apQ) (vwR wL.out) (by decide)) hk (fun _ h => h.2)) (fun _ h => h.1)); replace sd := zA (Kd.R_mono (Kd.R_keep (IsS66.apart (show IsS66 w0 _ g an mg from apQ) (vwR sd.out) (by decide)) hk (fun _ h => h.2)) (fun _ h => h.1)); replace HK := zA (KeepBut.trans apN hk (.inl rfl)); replace HB := zA (hb); replace HI0 := zA (hi); (try clear hb hk hi)) | ((with_reducible refine gate_builtin (b := .append) (xs := #[.tmp 12, .tmp 17]) rfl ?_); at_builtin; refine Kd.R_append (Kd.int .u8) w.heap.size rfl (.tmp 12) (.tmp 17) 37 5 (.int .u8 0) 1 rfl Tryd.underlying37 info5 rfl (by decide) (by omega) u3 bo ((LR) % 256) [.int .u8 ((LR) % 256)] (fun _ => True) (fun _ => False) rfl rfl ?aP (fun _ hk => hk.elim) ?aF ?aO (yG _ _) ?aS ?aL ?_; (case aP => exact rfl); (case aF => exact (fun _ _ => trivial)); (case aO => exact (vwR wL.out)); (case aS => exact (keep_size (w := w) (g := g) (row := none) apN)); (case aL => have := LMc8.out; (first | omega | (simp only [ByteArray.size, List.size_toArray, List.length_cons, List.length_nil] at *; omega))); intro v150 w13 ho hb hg hat; rw [← YQ.out] at ho; replace sd := zA (Kd.R_over' (vwR sd.out) (Kd.R_typed (vwR wL.out)) (by decide) hg); replace HB := zA (below_weaken apU HL.out hb); replace HI0 := zA (IsS66.grown apQ hg (IsS66.own_ne HI0.out wL.out (by decide))); replace HK := zA (KeepBut.trans apN (KeepBut.of_grown hg g) (Kd.R_base2 wL.out)); have YR := zA (ho); clear wL; clear ho hb hg hat))
     go_roundg k1
     case measure => have := HK1.out; omega
     case rel => exact ⟨(YP), (wrap64 (bJ - 1)), (OD), apB, H', ⟨apR⟩, ⟨vwR YR.out⟩, ⟨apQ⟩, ⟨apN⟩, ⟨apU⟩⟩
    ·rw [if_neg c8] at H; exact absurd H (by simp)
   ·rw [if_neg c6] at H; have oC : decide (0 < bJ) = false := decide_eq_false c6; clear c6; simp only [Option.some.injEq, Prod.mk.injEq] at H; obtain ⟨rfl, rfl⟩ := H; have hcv14 := own_string (P := Tryd.prog) Tryd.underlying37 Tryd.underlying5 Tryd.underlying9 (Kd.own_of_R wL.out); go_wp2
    go_ret
    exact ⟨apE, apQ, apU, apN⟩

end Go.Proofs.YtoajejdicfabmaaDoor.Q
