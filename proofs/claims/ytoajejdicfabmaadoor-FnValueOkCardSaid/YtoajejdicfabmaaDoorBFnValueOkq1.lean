-- laid by a program of this session (wip/tools) out of the translation; Lean checks it
import Derived.Test.YtoajejdicfabmaaDoorBFnValueOkq0
namespace Go.Proofs.YtoajejdicfabmaaDoor.Q
open Go.RowKit Go.Proofs.YtoajejdicfabmaaDoorW.PrintWords Go.Proofs.YtoajejdicfabmaaDoorW.PrintLast Go.Proofs.YtoajejdicfabmaaDoorW.PrintMore Go.Proofs.YtoajejdicfabmaaDoorX
attribute [local go_sem] max2_int min2_int max_two min_two max_three min_three max_four min_four   -- for this text's walks alone
set_option linter.unusedVariables false
set_option linter.unusedSimpArgs false

attribute [local go_sem high] eqA30
mutual
def impl_valueOk.j0 : Nat → Bool → List (List ByteArray) → Int → Int → Int → ByteArray → List (S33) → List ByteArray → Int → Option (Bool)
 | 0, _, _, _, _, _, _, _, _, _ => none
 | k + 1, x51, x999, x322000, x322001, x322002, x322003, x322004, x322005, x323000 => if x51 = true then (some false) else (if x322000 = 0 then (impl_valueOk.j1 k x322000 (x322000 == 0) x999 x322000 x322001 x322002 x322003 x322004 x322005 x323000) else (if x322000 = 1 then (impl_valueOk.j1 k x322000 (x322000 == 1) x999 x322000 x322001 x322002 x322003 x322004 x322005 x323000) else (if x322000 = 2 then (impl_valueOk.j1 k x322000 (x322000 == 2) x999 x322000 x322001 x322002 x322003 x322004 x322005 x323000) else (impl_valueOk.j1 k x322000 (x322000 == 5) x999 x322000 x322001 x322002 x322003 x322004 x322005 x323000))))
def impl_valueOk.j1 : Nat → Int → Bool → List (List ByteArray) → Int → Int → Int → ByteArray → List (S33) → List ByteArray → Int → Option (Bool)
 | 0, _, _, _, _, _, _, _, _, _, _ => none
 | k + 1, x53, x54, x999, x322000, x322001, x322002, x322003, x322004, x322005, x323000 => if x54 = true then ((impl_Value_37_at_valueOk_1.f k x322004 x999 [x323000]).bind fun t323 => (some (!t323))) else (if x53 = 3 then ((impl_DecOk.f x322001 x322002).bind fun t324 => (some t324)) else (if x53 = 4 then (some (decide ((x322003.size : Int) ≤ 1500))) else (if x53 = 6 then (impl_valueOk.l0 k x322005 (x322005.length : Int) 0 x999 x322000 x322001 x322002 x322003 x322004 x322005 x323000) else (some false))))
def impl_valueOk.l0 : Nat → List ByteArray → Int → Int → List (List ByteArray) → Int → Int → Int → ByteArray → List (S33) → List ByteArray → Int → Option (Bool)
 | 0, _, _, _, _, _, _, _, _, _, _, _ => none
 | k + 1, x73, x74, x75, x999, x322000, x322001, x322002, x322003, x322004, x322005, x323000 => if x75 < x74 then (if 0 ≤ x75 then (if x75 < (x73.length : Int) then ((impl_NameOk.f k (rdOf ByteArray.empty x73 x75) x999).bind fun t326 => (if t326 = true then (if x75 > 0 then (if 0 ≤ (wrap64 (x75 - 1)) then (if (wrap64 (x75 - 1)) < (x322005.length : Int) then (if ((Op.bytesLess ((rdOf ByteArray.empty x322005 (wrap64 (x75 - 1))).toList) ((rdOf ByteArray.empty x73 x75).toList)) = true) then (impl_valueOk.l0 k x73 x74 (wrap64 (x75 + 1)) x999 x322000 x322001 x322002 x322003 x322004 x322005 x323000) else (some false)) else (none)) else (none)) else (impl_valueOk.l0 k x73 x74 (wrap64 (x75 + 1)) x999 x322000 x322001 x322002 x322003 x322004 x322005 x323000)) else (some false))) else (none)) else (none)) else (if (x322005.length : Int) = (x322004.length : Int) then ((impl_Value_37_at_valueOk_1.f k x322004 x999 [x323000]).bind fun t328 => (some (!t328))) else (some false))
def impl_valueOk.f : Nat → Int → Int → Int → ByteArray → List (S33) → List ByteArray → Int → List (List ByteArray) → Option (Bool)
 | 0, _, _, _, _, _, _, _, _ => none
 | k + 1, a0_0, a0_1, a0_2, a0_3, l0_4, l0_5, a1, l2 => if a1 = 0 then (impl_valueOk.j0 k true l2 a0_0 a0_1 a0_2 a0_3 l0_4 l0_5 a1) else (if a0_0 = 3 then (if a0_0 = 4 then (if a0_0 < 5 then (if (l0_4.length : Int) > 0 then (impl_valueOk.j0 k true l2 a0_0 a0_1 a0_2 a0_3 l0_4 l0_5 a1) else (if a0_0 = 6 then (impl_valueOk.j0 k false l2 a0_0 a0_1 a0_2 a0_3 l0_4 l0_5 a1) else (impl_valueOk.j0 k (decide ((l0_5.length : Int) > 0)) l2 a0_0 a0_1 a0_2 a0_3 l0_4 l0_5 a1))) else (if a0_0 = 6 then (impl_valueOk.j0 k false l2 a0_0 a0_1 a0_2 a0_3 l0_4 l0_5 a1) else (impl_valueOk.j0 k (decide ((l0_5.length : Int) > 0)) l2 a0_0 a0_1 a0_2 a0_3 l0_4 l0_5 a1))) else (if a0_3.toList = ([] : List UInt8) then (if a0_0 < 5 then (if (l0_4.length : Int) > 0 then (impl_valueOk.j0 k true l2 a0_0 a0_1 a0_2 a0_3 l0_4 l0_5 a1) else (if a0_0 = 6 then (impl_valueOk.j0 k false l2 a0_0 a0_1 a0_2 a0_3 l0_4 l0_5 a1) else (impl_valueOk.j0 k (decide ((l0_5.length : Int) > 0)) l2 a0_0 a0_1 a0_2 a0_3 l0_4 l0_5 a1))) else (if a0_0 = 6 then (impl_valueOk.j0 k false l2 a0_0 a0_1 a0_2 a0_3 l0_4 l0_5 a1) else (impl_valueOk.j0 k (decide ((l0_5.length : Int) > 0)) l2 a0_0 a0_1 a0_2 a0_3 l0_4 l0_5 a1))) else (impl_valueOk.j0 k true l2 a0_0 a0_1 a0_2 a0_3 l0_4 l0_5 a1))) else (if (!(a0_1 == 0) || (!(a0_2 == 0))) = true then (impl_valueOk.j0 k true l2 a0_0 a0_1 a0_2 a0_3 l0_4 l0_5 a1) else (if a0_0 = 4 then (if a0_0 < 5 then (if (l0_4.length : Int) > 0 then (impl_valueOk.j0 k true l2 a0_0 a0_1 a0_2 a0_3 l0_4 l0_5 a1) else (if a0_0 = 6 then (impl_valueOk.j0 k false l2 a0_0 a0_1 a0_2 a0_3 l0_4 l0_5 a1) else (impl_valueOk.j0 k (decide ((l0_5.length : Int) > 0)) l2 a0_0 a0_1 a0_2 a0_3 l0_4 l0_5 a1))) else (if a0_0 = 6 then (impl_valueOk.j0 k false l2 a0_0 a0_1 a0_2 a0_3 l0_4 l0_5 a1) else (impl_valueOk.j0 k (decide ((l0_5.length : Int) > 0)) l2 a0_0 a0_1 a0_2 a0_3 l0_4 l0_5 a1))) else (if a0_3.toList = ([] : List UInt8) then (if a0_0 < 5 then (if (l0_4.length : Int) > 0 then (impl_valueOk.j0 k true l2 a0_0 a0_1 a0_2 a0_3 l0_4 l0_5 a1) else (if a0_0 = 6 then (impl_valueOk.j0 k false l2 a0_0 a0_1 a0_2 a0_3 l0_4 l0_5 a1) else (impl_valueOk.j0 k (decide ((l0_5.length : Int) > 0)) l2 a0_0 a0_1 a0_2 a0_3 l0_4 l0_5 a1))) else (if a0_0 = 6 then (impl_valueOk.j0 k false l2 a0_0 a0_1 a0_2 a0_3 l0_4 l0_5 a1) else (impl_valueOk.j0 k (decide ((l0_5.length : Int) > 0)) l2 a0_0 a0_1 a0_2 a0_3 l0_4 l0_5 a1))) else (impl_valueOk.j0 k true l2 a0_0 a0_1 a0_2 a0_3 l0_4 l0_5 a1)))))
def impl_Value_37_at_valueOk_1.f : Nat → List (S33) → List (List ByteArray) → List Int → Option (Bool)
 | 0, _, _, _ => none
 | k + 1, l0, l2, l3 => (impl_Value_55_at_valueOk_1.f k l0 l2 l3).bind fun t329 => (some (decide (t329 ≥ 0)))
def impl_valueOk_1.f : Nat → Int → Int → Int → ByteArray → List (S33) → List ByteArray → List (List ByteArray) → List Int → Option (Bool)
 | 0, _, _, _, _, _, _, _, _ => none
 | k + 1, a0_0, a0_1, a0_2, a0_3, l0_4, l0_5, l1, l2 => if 0 < (l2.length : Int) then ((impl_valueOk.f k a0_0 a0_1 a0_2 a0_3 l0_4 l0_5 (wrap64 ((rd l2 0) - 1)) l1).bind fun t332 => (some (!t332))) else (none)
def impl_Value_55_at_valueOk_1.l0 : Nat → List (S33) → Int → Int → List Int → List (List ByteArray) → Option (Int)
 | 0, _, _, _, _, _ => none
 | k + 1, x0, x7, x8, x900, x999 => if x8 < x7 then (if 0 ≤ x8 then (if x8 < (x0.length : Int) then ((impl_valueOk_1.f k ((rd_T33 x0 x8).f0) ((rd_T33 x0 x8).f1.f0) ((rd_T33 x0 x8).f1.f1) ((rd_T33 x0 x8).f2) ((rd_T33 x0 x8).f3) ((rd_T33 x0 x8).f4) x999 x900).bind fun t334 => (if t334 = true then (some x8) else (impl_Value_55_at_valueOk_1.l0 k x0 x7 (wrap64 (x8 + 1)) x900 x999))) else (none)) else (none)) else (some (-1))
def impl_Value_55_at_valueOk_1.f : Nat → List (S33) → List (List ByteArray) → List Int → Option (Int)
 | 0, _, _, _ => none
 | k + 1, l0, l2, l3 => impl_Value_55_at_valueOk_1.l0 k l0 (l0.length : Int) 0 l3 l2
end
theorem impl_valueOk.G.mono_l : ∀ k, (∀ y0 y1 y2 y3 y4 y5 y6 y7, LeO (impl_valueOk.f k y0 y1 y2 y3 y4 y5 y6 y7) (impl_valueOk.f (k + 1) y0 y1 y2 y3 y4 y5 y6 y7)) ∧ (∀ y0 y1 y2 y3 y4 y5 y6 y7 y8, LeO (impl_valueOk.j0 k y0 y1 y2 y3 y4 y5 y6 y7 y8) (impl_valueOk.j0 (k + 1) y0 y1 y2 y3 y4 y5 y6 y7 y8)) ∧ (∀ y0 y1 y2 y3 y4 y5 y6 y7 y8 y9, LeO (impl_valueOk.j1 k y0 y1 y2 y3 y4 y5 y6 y7 y8 y9) (impl_valueOk.j1 (k + 1) y0 y1 y2 y3 y4 y5 y6 y7 y8 y9)) ∧ (∀ y0 y1 y2 y3 y4 y5 y6 y7 y8 y9 y10, LeO (impl_valueOk.l0 k y0 y1 y2 y3 y4 y5 y6 y7 y8 y9 y10) (impl_valueOk.l0 (k + 1) y0 y1 y2 y3 y4 y5 y6 y7 y8 y9 y10)) ∧ (∀ y0 y1 y2, LeO (impl_Value_37_at_valueOk_1.f k y0 y1 y2) (impl_Value_37_at_valueOk_1.f (k + 1) y0 y1 y2)) ∧ (∀ y0 y1 y2 y3 y4 y5 y6 y7, LeO (impl_valueOk_1.f k y0 y1 y2 y3 y4 y5 y6 y7) (impl_valueOk_1.f (k + 1) y0 y1 y2 y3 y4 y5 y6 y7)) ∧ (∀ y0 y1 y2, LeO (impl_Value_55_at_valueOk_1.f k y0 y1 y2) (impl_Value_55_at_valueOk_1.f (k + 1) y0 y1 y2)) ∧ (∀ y0 y1 y2 y3 y4, LeO (impl_Value_55_at_valueOk_1.l0 k y0 y1 y2 y3 y4) (impl_Value_55_at_valueOk_1.l0 (k + 1) y0 y1 y2 y3 y4))
 | 0 => ⟨fun _ _ _ _ _ _ _ _ r h => by simp [impl_valueOk.f] at h, fun _ _ _ _ _ _ _ _ _ r h => by simp [impl_valueOk.j0] at h, fun _ _ _ _ _ _ _ _ _ _ r h => by simp [impl_valueOk.j1] at h, fun _ _ _ _ _ _ _ _ _ _ _ r h => by simp [impl_valueOk.l0] at h, fun _ _ _ r h => by simp [impl_Value_37_at_valueOk_1.f] at h, fun _ _ _ _ _ _ _ _ r h => by simp [impl_valueOk_1.f] at h, fun _ _ _ r h => by simp [impl_Value_55_at_valueOk_1.f] at h, fun _ _ _ _ _ r h => by simp [impl_Value_55_at_valueOk_1.l0] at h⟩
 | k + 1 => by
  obtain ⟨ih0, ih1, ih2, ih3, ih4, ih5, ih6, ih7⟩ := impl_valueOk.G.mono_l k
  refine ⟨?_, ?_, ?_, ?_, ?_, ?_, ?_, ?_⟩
  ·intro y0 y1 y2 y3 y4 y5 y6 y7
   unfold impl_valueOk.f
   repeat' first
   | (with_reducible exact ih0 _ _ _ _ _ _ _ _)
   | (with_reducible exact ih1 _ _ _ _ _ _ _ _ _)
   | (with_reducible exact ih2 _ _ _ _ _ _ _ _ _ _)
   | (with_reducible exact ih3 _ _ _ _ _ _ _ _ _ _ _)
   | (with_reducible exact ih4 _ _ _)
   | (with_reducible exact ih5 _ _ _ _ _ _ _ _)
   | (with_reducible exact ih6 _ _ _)
   | (with_reducible exact ih7 _ _ _ _ _)
   | (with_reducible exact impl_NameOk.mono _ _ _)
   | (with_reducible exact LeO.refl _)
   | (with_reducible exact LeO.none _)
   | (with_reducible refine LeO.ite ?_ ?_)
   | (with_reducible refine LeO.bind ?_ (fun _ => ?_))
   | exact ih0 _ _ _ _ _ _ _ _
   | exact ih1 _ _ _ _ _ _ _ _ _
   | exact ih2 _ _ _ _ _ _ _ _ _ _
   | exact ih3 _ _ _ _ _ _ _ _ _ _ _
   | exact ih4 _ _ _
   | exact ih5 _ _ _ _ _ _ _ _
   | exact ih6 _ _ _
   | exact ih7 _ _ _ _ _
  ·intro y0 y1 y2 y3 y4 y5 y6 y7 y8
   unfold impl_valueOk.j0
   repeat' first
   | (with_reducible exact ih0 _ _ _ _ _ _ _ _)
   | (with_reducible exact ih1 _ _ _ _ _ _ _ _ _)
   | (with_reducible exact ih2 _ _ _ _ _ _ _ _ _ _)
   | (with_reducible exact ih3 _ _ _ _ _ _ _ _ _ _ _)
   | (with_reducible exact ih4 _ _ _)
   | (with_reducible exact ih5 _ _ _ _ _ _ _ _)
   | (with_reducible exact ih6 _ _ _)
   | (with_reducible exact ih7 _ _ _ _ _)
   | (with_reducible exact impl_NameOk.mono _ _ _)
   | (with_reducible exact LeO.refl _)
   | (with_reducible exact LeO.none _)
   | (with_reducible refine LeO.ite ?_ ?_)
   | (with_reducible refine LeO.bind ?_ (fun _ => ?_))
   | exact ih0 _ _ _ _ _ _ _ _
   | exact ih1 _ _ _ _ _ _ _ _ _
   | exact ih2 _ _ _ _ _ _ _ _ _ _
   | exact ih3 _ _ _ _ _ _ _ _ _ _ _
   | exact ih4 _ _ _
   | exact ih5 _ _ _ _ _ _ _ _
   | exact ih6 _ _ _
   | exact ih7 _ _ _ _ _
  ·intro y0 y1 y2 y3 y4 y5 y6 y7 y8 y9
   unfold impl_valueOk.j1
   repeat' first
   | (with_reducible exact ih0 _ _ _ _ _ _ _ _)
   | (with_reducible exact ih1 _ _ _ _ _ _ _ _ _)
   | (with_reducible exact ih2 _ _ _ _ _ _ _ _ _ _)
   | (with_reducible exact ih3 _ _ _ _ _ _ _ _ _ _ _)
   | (with_reducible exact ih4 _ _ _)
   | (with_reducible exact ih5 _ _ _ _ _ _ _ _)
   | (with_reducible exact ih6 _ _ _)
   | (with_reducible exact ih7 _ _ _ _ _)
   | (with_reducible exact impl_NameOk.mono _ _ _)
   | (with_reducible exact LeO.refl _)
   | (with_reducible exact LeO.none _)
   | (with_reducible refine LeO.ite ?_ ?_)
   | (with_reducible refine LeO.bind ?_ (fun _ => ?_))
   | exact ih0 _ _ _ _ _ _ _ _
   | exact ih1 _ _ _ _ _ _ _ _ _
   | exact ih2 _ _ _ _ _ _ _ _ _ _
   | exact ih3 _ _ _ _ _ _ _ _ _ _ _
   | exact ih4 _ _ _
   | exact ih5 _ _ _ _ _ _ _ _
   | exact ih6 _ _ _
   | exact ih7 _ _ _ _ _
  ·intro y0 y1 y2 y3 y4 y5 y6 y7 y8 y9 y10
   unfold impl_valueOk.l0
   repeat' first
   | (with_reducible exact ih0 _ _ _ _ _ _ _ _)
   | (with_reducible exact ih1 _ _ _ _ _ _ _ _ _)
   | (with_reducible exact ih2 _ _ _ _ _ _ _ _ _ _)
   | (with_reducible exact ih3 _ _ _ _ _ _ _ _ _ _ _)
   | (with_reducible exact ih4 _ _ _)
   | (with_reducible exact ih5 _ _ _ _ _ _ _ _)
   | (with_reducible exact ih6 _ _ _)
   | (with_reducible exact ih7 _ _ _ _ _)
   | (with_reducible exact impl_NameOk.mono _ _ _)
   | (with_reducible exact LeO.refl _)
   | (with_reducible exact LeO.none _)
   | (with_reducible refine LeO.ite ?_ ?_)
   | (with_reducible refine LeO.bind ?_ (fun _ => ?_))
   | exact ih0 _ _ _ _ _ _ _ _
   | exact ih1 _ _ _ _ _ _ _ _ _
   | exact ih2 _ _ _ _ _ _ _ _ _ _
   | exact ih3 _ _ _ _ _ _ _ _ _ _ _
   | exact ih4 _ _ _
   | exact ih5 _ _ _ _ _ _ _ _
   | exact ih6 _ _ _
   | exact ih7 _ _ _ _ _
  ·intro y0 y1 y2
   unfold impl_Value_37_at_valueOk_1.f
   repeat' first
   | (with_reducible exact ih0 _ _ _ _ _ _ _ _)
   | (with_reducible exact ih1 _ _ _ _ _ _ _ _ _)
   | (with_reducible exact ih2 _ _ _ _ _ _ _ _ _ _)
   | (with_reducible exact ih3 _ _ _ _ _ _ _ _ _ _ _)
   | (with_reducible exact ih4 _ _ _)
   | (with_reducible exact ih5 _ _ _ _ _ _ _ _)
   | (with_reducible exact ih6 _ _ _)
   | (with_reducible exact ih7 _ _ _ _ _)
   | (with_reducible exact impl_NameOk.mono _ _ _)
   | (with_reducible exact LeO.refl _)
   | (with_reducible exact LeO.none _)
   | (with_reducible refine LeO.ite ?_ ?_)
   | (with_reducible refine LeO.bind ?_ (fun _ => ?_))
   | exact ih0 _ _ _ _ _ _ _ _
   | exact ih1 _ _ _ _ _ _ _ _ _
   | exact ih2 _ _ _ _ _ _ _ _ _ _
   | exact ih3 _ _ _ _ _ _ _ _ _ _ _
   | exact ih4 _ _ _
   | exact ih5 _ _ _ _ _ _ _ _
   | exact ih6 _ _ _
   | exact ih7 _ _ _ _ _
  ·intro y0 y1 y2 y3 y4 y5 y6 y7
   unfold impl_valueOk_1.f
   repeat' first
   | (with_reducible exact ih0 _ _ _ _ _ _ _ _)
   | (with_reducible exact ih1 _ _ _ _ _ _ _ _ _)
   | (with_reducible exact ih2 _ _ _ _ _ _ _ _ _ _)
   | (with_reducible exact ih3 _ _ _ _ _ _ _ _ _ _ _)
   | (with_reducible exact ih4 _ _ _)
   | (with_reducible exact ih5 _ _ _ _ _ _ _ _)
   | (with_reducible exact ih6 _ _ _)
   | (with_reducible exact ih7 _ _ _ _ _)
   | (with_reducible exact impl_NameOk.mono _ _ _)
   | (with_reducible exact LeO.refl _)
   | (with_reducible exact LeO.none _)
   | (with_reducible refine LeO.ite ?_ ?_)
   | (with_reducible refine LeO.bind ?_ (fun _ => ?_))
   | exact ih0 _ _ _ _ _ _ _ _
   | exact ih1 _ _ _ _ _ _ _ _ _
   | exact ih2 _ _ _ _ _ _ _ _ _ _
   | exact ih3 _ _ _ _ _ _ _ _ _ _ _
   | exact ih4 _ _ _
   | exact ih5 _ _ _ _ _ _ _ _
   | exact ih6 _ _ _
   | exact ih7 _ _ _ _ _
  ·intro y0 y1 y2
   unfold impl_Value_55_at_valueOk_1.f
   repeat' first
   | (with_reducible exact ih0 _ _ _ _ _ _ _ _)
   | (with_reducible exact ih1 _ _ _ _ _ _ _ _ _)
   | (with_reducible exact ih2 _ _ _ _ _ _ _ _ _ _)
   | (with_reducible exact ih3 _ _ _ _ _ _ _ _ _ _ _)
   | (with_reducible exact ih4 _ _ _)
   | (with_reducible exact ih5 _ _ _ _ _ _ _ _)
   | (with_reducible exact ih6 _ _ _)
   | (with_reducible exact ih7 _ _ _ _ _)
   | (with_reducible exact impl_NameOk.mono _ _ _)
   | (with_reducible exact LeO.refl _)
   | (with_reducible exact LeO.none _)
   | (with_reducible refine LeO.ite ?_ ?_)
   | (with_reducible refine LeO.bind ?_ (fun _ => ?_))
   | exact ih0 _ _ _ _ _ _ _ _
   | exact ih1 _ _ _ _ _ _ _ _ _
   | exact ih2 _ _ _ _ _ _ _ _ _ _
   | exact ih3 _ _ _ _ _ _ _ _ _ _ _
   | exact ih4 _ _ _
   | exact ih5 _ _ _ _ _ _ _ _
   | exact ih6 _ _ _
   | exact ih7 _ _ _ _ _
  ·intro y0 y1 y2 y3 y4
   unfold impl_Value_55_at_valueOk_1.l0
   repeat' first
   | (with_reducible exact ih0 _ _ _ _ _ _ _ _)
   | (with_reducible exact ih1 _ _ _ _ _ _ _ _ _)
   | (with_reducible exact ih2 _ _ _ _ _ _ _ _ _ _)
   | (with_reducible exact ih3 _ _ _ _ _ _ _ _ _ _ _)
   | (with_reducible exact ih4 _ _ _)
   | (with_reducible exact ih5 _ _ _ _ _ _ _ _)
   | (with_reducible exact ih6 _ _ _)
   | (with_reducible exact ih7 _ _ _ _ _)
   | (with_reducible exact impl_NameOk.mono _ _ _)
   | (with_reducible exact LeO.refl _)
   | (with_reducible exact LeO.none _)
   | (with_reducible refine LeO.ite ?_ ?_)
   | (with_reducible refine LeO.bind ?_ (fun _ => ?_))
   | exact ih0 _ _ _ _ _ _ _ _
   | exact ih1 _ _ _ _ _ _ _ _ _
   | exact ih2 _ _ _ _ _ _ _ _ _ _
   | exact ih3 _ _ _ _ _ _ _ _ _ _ _
   | exact ih4 _ _ _
   | exact ih5 _ _ _ _ _ _ _ _
   | exact ih6 _ _ _
   | exact ih7 _ _ _ _ _
theorem impl_valueOk.mono : ∀ a0 a1 a2 a3 a4 a5 a6 a7 k, LeO (impl_valueOk.f k a0 a1 a2 a3 a4 a5 a6 a7) (impl_valueOk.f (k + 1) a0 a1 a2 a3 a4 a5 a6 a7) := fun a0 a1 a2 a3 a4 a5 a6 a7 k => (impl_valueOk.G.mono_l k).1 a0 a1 a2 a3 a4 a5 a6 a7
theorem impl_Value_37_at_valueOk_1.mono : ∀ a0 a1 a2 k, LeO (impl_Value_37_at_valueOk_1.f k a0 a1 a2) (impl_Value_37_at_valueOk_1.f (k + 1) a0 a1 a2) := fun a0 a1 a2 k => (impl_valueOk.G.mono_l k).2.2.2.2.1 a0 a1 a2
theorem impl_valueOk_1.mono : ∀ a0 a1 a2 a3 a4 a5 a6 a7 k, LeO (impl_valueOk_1.f k a0 a1 a2 a3 a4 a5 a6 a7) (impl_valueOk_1.f (k + 1) a0 a1 a2 a3 a4 a5 a6 a7) := fun a0 a1 a2 a3 a4 a5 a6 a7 k => (impl_valueOk.G.mono_l k).2.2.2.2.2.1 a0 a1 a2 a3 a4 a5 a6 a7
theorem impl_Value_55_at_valueOk_1.mono : ∀ a0 a1 a2 k, LeO (impl_Value_55_at_valueOk_1.f k a0 a1 a2) (impl_Value_55_at_valueOk_1.f (k + 1) a0 a1 a2) := fun a0 a1 a2 k => (impl_valueOk.G.mono_l k).2.2.2.2.2.2.1 a0 a1 a2
abbrev impl_valueOk.Spec (k : Nat) : Prop := ∀ (a0_0 : Int) (a0_1 : Int) (a0_2 : Int) (a0_3 : ByteArray) (A0_4 : Option Addr) (c0_4 : Nat) (l0_4 : List (S33)) (A0_5 : Option Addr) (c0_5 : Nat) (l0_5 : List ByteArray) (a1 : Int) (A2 : Option Addr) (c2 : Nat) (l2 : List (List ByteArray)) (r : Bool) (w : World) (hr0_4 : Kd.C k33 w A0_4 l0_4.length l0_4) (hc0_4 : l0_4.length ≤ c0_4) (hr0_5 : Kd.C Kd.string w A0_5 l0_5.length l0_5) (hc0_5 : l0_5.length ≤ c0_5) (hr2 : Kd.C (Kd.slice 9 Kd.string) w A2 l2.length l2) (hc2 : l2.length ≤ c2) (hg2 : A2 = some ⟨0, 0, none⟩) (h : impl_valueOk.f k a0_0 a0_1 a0_2 a0_3 l0_4 l0_5 a1 l2 = some r),
  Calls Tryd.prog 24 #[.agg #[.int .i64 a0_0, .int .i64 a0_1, .int .i64 a0_2, .string a0_3, .slice A0_4 l0_4.length c0_4, .slice A0_5 l0_5.length c0_5], .int .i64 a1] w fun e w' => e = .returned (.bool r) ∧ Below w.heap.size w w'
abbrev impl_Value_37_at_valueOk_1.Spec (k : Nat) : Prop := ∀ (A0 : Option Addr) (c0 : Nat) (l0 : List (S33))  (A2 : Option Addr) (c2 : Nat) (l2 : List (List ByteArray)) (A3 : Option Addr) (c3 : Nat) (l3 : List Int) (r : Bool) (w : World) (hr0 : Kd.C k33 w A0 l0.length l0) (hc0 : l0.length ≤ c0) (hr2 : Kd.C (Kd.slice 9 Kd.string) w A2 l2.length l2) (hc2 : l2.length ≤ c2) (hr3 : Kd.C (Kd.int .i64) w A3 l3.length l3) (hc3 : l3.length ≤ c3) (hg2 : A2 = some ⟨0, 0, none⟩) (h : impl_Value_37_at_valueOk_1.f k l0 l2 l3 = some r),
  Calls Tryd.prog 37 #[.slice A0 l0.length c0, .func (.func 38) #[] #[.pointer A3]] w fun e w' => e = .returned (.bool r) ∧ Below w.heap.size w w'
abbrev impl_valueOk_1.Spec (k : Nat) : Prop := ∀ (a0_0 : Int) (a0_1 : Int) (a0_2 : Int) (a0_3 : ByteArray) (A0_4 : Option Addr) (c0_4 : Nat) (l0_4 : List (S33)) (A0_5 : Option Addr) (c0_5 : Nat) (l0_5 : List ByteArray) (A1 : Option Addr) (c1 : Nat) (l1 : List (List ByteArray)) (A2 : Option Addr) (c2 : Nat) (l2 : List Int) (r : Bool) (w : World) (hr0_4 : Kd.C k33 w A0_4 l0_4.length l0_4) (hc0_4 : l0_4.length ≤ c0_4) (hr0_5 : Kd.C Kd.string w A0_5 l0_5.length l0_5) (hc0_5 : l0_5.length ≤ c0_5) (hr1 : Kd.C (Kd.slice 9 Kd.string) w A1 l1.length l1) (hc1 : l1.length ≤ c1) (hr2 : Kd.C (Kd.int .i64) w A2 l2.length l2) (hc2 : l2.length ≤ c2) (hg1 : A1 = some ⟨0, 0, none⟩) (h : impl_valueOk_1.f k a0_0 a0_1 a0_2 a0_3 l0_4 l0_5 l1 l2 = some r),
  Calls Tryd.prog 38 #[.agg #[.int .i64 a0_0, .int .i64 a0_1, .int .i64 a0_2, .string a0_3, .slice A0_4 l0_4.length c0_4, .slice A0_5 l0_5.length c0_5], .pointer A2] w fun e w' => e = .returned (.bool r) ∧ Below w.heap.size w w'
abbrev impl_Value_55_at_valueOk_1.Spec (k : Nat) : Prop := ∀ (A0 : Option Addr) (c0 : Nat) (l0 : List (S33))  (A2 : Option Addr) (c2 : Nat) (l2 : List (List ByteArray)) (A3 : Option Addr) (c3 : Nat) (l3 : List Int) (r : Int) (w : World) (hr0 : Kd.C k33 w A0 l0.length l0) (hc0 : l0.length ≤ c0) (hr2 : Kd.C (Kd.slice 9 Kd.string) w A2 l2.length l2) (hc2 : l2.length ≤ c2) (hr3 : Kd.C (Kd.int .i64) w A3 l3.length l3) (hc3 : l3.length ≤ c3) (hg2 : A2 = some ⟨0, 0, none⟩) (h : impl_Value_55_at_valueOk_1.f k l0 l2 l3 = some r),
  Calls Tryd.prog 55 #[.slice A0 l0.length c0, .func (.func 38) #[] #[.pointer A3]] w fun e w' => e = .returned (.int .i64 r) ∧ Below w.heap.size w w'
set_option maxHeartbeats 8000000 in
set_option maxRecDepth 100000 in
theorem impl_valueOk.step (k : Nat) (ih_impl_valueOk : ∀ m, m < k → impl_valueOk.Spec m) (ih_impl_Value_37_at_valueOk_1 : ∀ m, m < k → impl_Value_37_at_valueOk_1.Spec m) (ih_impl_valueOk_1 : ∀ m, m < k → impl_valueOk_1.Spec m) (ih_impl_Value_55_at_valueOk_1 : ∀ m, m < k → impl_Value_55_at_valueOk_1.Spec m) : impl_valueOk.Spec k := by
 intro a0_0 a0_1 a0_2 a0_3 A0_4 c0_4 l0_4 A0_5 c0_5 l0_5 a1 A2 c2 l2 r w hr0_4 hc0_4 hr0_5 hc0_5 hr2 hc2 hg2 h
 cases k with
 | zero => exact absurd h (by simp [impl_valueOk.f])
 | succ k =>
 simp only [impl_valueOk.f] at h
 have hu33 := Tryd.underlying33
 have hu30 := Tryd.underlying30
 have HR0_4 := zA hr0_4
 have HC0_4 := zA hc0_4
 clear hr0_4 hc0_4
 have HR0_5 := zA hr0_5
 have HC0_5 := zA hc0_5
 clear hr0_5 hc0_5
 have HG2 := zA hg2
 clear hg2
 have HR2 := zA hr2
 have HC2 := zA hc2
 clear hr2 hc2
 have HB := zA (yG w.heap.size w)
 have H : (if a1 = 0 then (impl_valueOk.j0 k true l2 a0_0 a0_1 a0_2 a0_3 l0_4 l0_5 a1) else (if a0_0 = 3 then (if a0_0 = 4 then (if a0_0 < 5 then (if (l0_4.length : Int) > 0 then (impl_valueOk.j0 k true l2 a0_0 a0_1 a0_2 a0_3 l0_4 l0_5 a1) else (if a0_0 = 6 then (impl_valueOk.j0 k false l2 a0_0 a0_1 a0_2 a0_3 l0_4 l0_5 a1) else (impl_valueOk.j0 k (decide ((l0_5.length : Int) > 0)) l2 a0_0 a0_1 a0_2 a0_3 l0_4 l0_5 a1))) else (if a0_0 = 6 then (impl_valueOk.j0 k false l2 a0_0 a0_1 a0_2 a0_3 l0_4 l0_5 a1) else (impl_valueOk.j0 k (decide ((l0_5.length : Int) > 0)) l2 a0_0 a0_1 a0_2 a0_3 l0_4 l0_5 a1))) else (if a0_3.toList = ([] : List UInt8) then (if a0_0 < 5 then (if (l0_4.length : Int) > 0 then (impl_valueOk.j0 k true l2 a0_0 a0_1 a0_2 a0_3 l0_4 l0_5 a1) else (if a0_0 = 6 then (impl_valueOk.j0 k false l2 a0_0 a0_1 a0_2 a0_3 l0_4 l0_5 a1) else (impl_valueOk.j0 k (decide ((l0_5.length : Int) > 0)) l2 a0_0 a0_1 a0_2 a0_3 l0_4 l0_5 a1))) else (if a0_0 = 6 then (impl_valueOk.j0 k false l2 a0_0 a0_1 a0_2 a0_3 l0_4 l0_5 a1) else (impl_valueOk.j0 k (decide ((l0_5.length : Int) > 0)) l2 a0_0 a0_1 a0_2 a0_3 l0_4 l0_5 a1))) else (impl_valueOk.j0 k true l2 a0_0 a0_1 a0_2 a0_3 l0_4 l0_5 a1))) else (if (!(a0_1 == 0) || (!(a0_2 == 0))) = true then (impl_valueOk.j0 k true l2 a0_0 a0_1 a0_2 a0_3 l0_4 l0_5 a1) else (if a0_0 = 4 then (if a0_0 < 5 then (if (l0_4.length : Int) > 0 then (impl_valueOk.j0 k true l2 a0_0 a0_1 a0_2 a0_3 l0_4 l0_5 a1) else (if a0_0 = 6 then (impl_valueOk.j0 k false l2 a0_0 a0_1 a0_2 a0_3 l0_4 l0_5 a1) else (impl_valueOk.j0 k (decide ((l0_5.length : Int) > 0)) l2 a0_0 a0_1 a0_2 a0_3 l0_4 l0_5 a1))) else (if a0_0 = 6 then (impl_valueOk.j0 k false l2 a0_0 a0_1 a0_2 a0_3 l0_4 l0_5 a1) else (impl_valueOk.j0 k (decide ((l0_5.length : Int) > 0)) l2 a0_0 a0_1 a0_2 a0_3 l0_4 l0_5 a1))) else (if a0_3.toList = ([] : List UInt8) then (if a0_0 < 5 then (if (l0_4.length : Int) > 0 then (impl_valueOk.j0 k true l2 a0_0 a0_1 a0_2 a0_3 l0_4 l0_5 a1) else (if a0_0 = 6 then (impl_valueOk.j0 k false l2 a0_0 a0_1 a0_2 a0_3 l0_4 l0_5 a1) else (impl_valueOk.j0 k (decide ((l0_5.length : Int) > 0)) l2 a0_0 a0_1 a0_2 a0_3 l0_4 l0_5 a1))) else (if a0_0 = 6 then (impl_valueOk.j0 k false l2 a0_0 a0_1 a0_2 a0_3 l0_4 l0_5 a1) else (impl_valueOk.j0 k (decide ((l0_5.length : Int) > 0)) l2 a0_0 a0_1 a0_2 a0_3 l0_4 l0_5 a1))) else (impl_valueOk.j0 k true l2 a0_0 a0_1 a0_2 a0_3 l0_4 l0_5 a1)))))) = some r := h
 clear h
 have HC4 := zA H
 clear H
 go_enter Tryd.func24, Tryd.ntmps24
 go_upto_region 1 with (first | ((with_reducible refine zT (N := 2) rfl ?_); (try (refine gate_guard (by rfl) ?_; dsimp only)); refine zW ?hg (N := 2) ?hd (cs := #[.int .i64 a0_0, .int .i64 a0_1, .int .i64 a0_2, .string a0_3, .slice A0_4 l0_4.length c0_4, .slice A0_5 l0_5.length c0_5]) (t := 33) ?hr ?_; (case hd => rfl); (case hg => rfl); (case hr => first | (go_simp; done) | (go_simp; rfl)); intro gb321 hg w5 hbox hb; have BK321 := zA (hbox); have GW321 := zA ((by rw [hg]; exact (zR apA) : w.heap.size ≤ gb321)); have GE321 := zA ((by rw [hg]; exact (zR apA) : w.heap.size ≤ gb321)); replace HB := zA (zQ apA hb); clear hb hbox hg) | ((with_reducible refine zT (N := 3) rfl ?_); (try (refine gate_guard (by rfl) ?_; dsimp only)); refine zW ?hg (N := 3) ?hd (cs := #[.int .i64 a1]) (t := 3) ?hr ?_; (case hd => rfl); (case hg => rfl); (case hr => first | (go_simp; done) | (go_simp; rfl)); intro gb322 hg w6 hbox hb; have BK322 := zA (hbox); have GW322 := zA ((by rw [hg]; exact (zR (by repeat (first | (with_reducible first | exact HB.out | apply zG | apply zE | apply zF | refine zH ?_ GE321.out) | exact HB.out))) : w.heap.size ≤ gb322)); have GE322 := zA ((by rw [hg]; exact (zR (by repeat (first | (with_reducible first | exact HB.out | apply zG | apply zE | apply zF | refine zH ?_ GE321.out) | exact HB.out))) : w.heap.size ≤ gb322)); replace HB := zA (zQ (by repeat (first | (with_reducible first | exact HB.out | apply zG | apply zE | apply zF | refine zH ?_ GE321.out) | exact HB.out)) hb); have NB321_322 := zA ((by rw [hg]; exact Nat.ne_of_lt (blk_lt (g := gb321) (o := .cells #[.int .i64 a0_0, .int .i64 a0_1, .int .i64 a0_2, .string a0_3, .slice A0_4 l0_4.length c0_4, .slice A0_5 l0_5.length c0_5] 33 (0, 0)) apS) : gb321 ≠ gb322)); have NB322_321 := zA ((by rw [hg]; exact Nat.ne_of_gt (blk_lt (g := gb321) (o := .cells #[.int .i64 a0_0, .int .i64 a0_1, .int .i64 a0_2, .string a0_3, .slice A0_4 l0_4.length c0_4, .slice A0_5 l0_5.length c0_5] 33 (0, 0)) apS) : gb322 ≠ gb321)); replace BK321 := zA (zP (g := gb321) (o := .cells #[.int .i64 a0_0, .int .i64 a0_1, .int .i64 a0_2, .string a0_3, .slice A0_4 l0_4.length c0_4, .slice A0_5 l0_5.length c0_5] 33 (0, 0)) apS hb); clear hb hbox hg))
 (try simp only [Act.put, zL, zM, zN])
 go_cut [51] (fun v51 wc => ∃ (kq : Nat) (x51_3 : Bool), v51 = .bool x51_3 ∧ Aside0 (impl_valueOk.j0 kq x51_3 l2 a0_0 a0_1 a0_2 a0_3 l0_4 l0_5 a1 = some r) ∧ Aside0 (kq ≤ k) ∧ Aside0 (wc.heap[gb321]? = some (.cells #[.int .i64 a0_0, .int .i64 a0_1, .int .i64 a0_2, .string a0_3, (.slice A0_4 l0_4.length c0_4), (.slice A0_5 l0_5.length c0_5)] 33 (0, 0))) ∧ Aside0 (wc.heap[gb322]? = some (.cells #[.int .i64 a1] 3 (0, 0))) ∧ Aside0 (Below w.heap.size w wc))
 case first =>
  have H := HC4.out
  clear HC4
  by_cases c7 : a1 = 0
  ·rw [if_pos c7] at H
   have c7b0 : (a1 == 0) = true := beq_iff_eq.mpr c7
   have c7b1 : (a1 != 0) = false := bne_eq_false_iff_eq.mpr c7
   clear c7
   (first | rw [c7b0] | (simp only [i64_w, i32_w]; rw [c7b0]) | skip)
   have H' := zA H
   clear H
   have hnb8 := NB322_321.out
   have hnc8 := NB321_322.out
   obtain ⟨hcz9_0, hfz9_0⟩ := zb1 BK322.out
   go_wp2
   go_meet
   case rel => exact ⟨_, (true), apB, H', ⟨by first | omega | exact yH _⟩, ⟨apS⟩, ⟨apQ⟩, ⟨apR⟩⟩
  ·rw [if_neg c7] at H
   have c7b0 : (a1 == 0) = false := beq_eq_false_iff_ne.mpr c7
   have c7b1 : (a1 != 0) = true := bne_iff_ne.mpr c7
   (first | rw [c7b0] | (simp only [i64_w, i32_w]; rw [c7b0]) | skip)
   by_cases c10 : a0_0 = 3
   ·rw [if_pos c10] at H
    have c10b0 : (a0_0 == 3) = true := beq_iff_eq.mpr c10
    have c10b1 : (a0_0 != 3) = false := bne_eq_false_iff_eq.mpr c10
    clear c10
    by_cases c11 : a0_0 = 4
    ·rw [if_pos c11] at H
     have c11b0 : (a0_0 == 4) = true := beq_iff_eq.mpr c11
     have c11b1 : (a0_0 != 4) = false := bne_eq_false_iff_eq.mpr c11
     clear c11
     by_cases c12 : a0_0 < 5
     ·rw [if_pos c12] at H
      have c12b0 : decide (a0_0 < 5) = true := yD c12
      clear c12
      by_cases c13 : (l0_4.length : Int) > 0
      ·rw [if_pos c13] at H
       have c13b0 : decide (0 < (l0_4.length : Int)) = true := yD c13
       have c13b1 : decide (0 < l0_4.length) = true := yD (by omega)
       clear c13
       have H' := zA H
       clear H
       have hnb14 := NB322_321.out
       have hnc14 := NB321_322.out
       obtain ⟨hcz15_0, hfz15_0⟩ := zb1 BK322.out
       obtain ⟨hcz16_0, hcz16_1, hcz16_2, hcz16_3, hcz16_4, hcz16_5, hfz16_0, hfz16_1, hfz16_2, hfz16_3, hfz16_4, hfz16_5⟩ := zb6 BK321.out
       go_wp2
       go_meet
       case rel => exact ⟨_, (true), apB, H', ⟨by first | omega | exact yH _⟩, ⟨apS⟩, ⟨apQ⟩, ⟨apR⟩⟩
      ·rw [if_neg c13] at H
       have c13b0 : decide (0 < (l0_4.length : Int)) = false := decide_eq_false c13
       have c13b1 : decide (0 < l0_4.length) = false := decide_eq_false (by omega)
       clear c13
       by_cases c17 : a0_0 = 6
       ·rw [if_pos c17] at H
        have c17b0 : (a0_0 == 6) = true := beq_iff_eq.mpr c17
        have c17b1 : (a0_0 != 6) = false := bne_eq_false_iff_eq.mpr c17
        clear c17
        have H' := zA H
        clear H
        have hnb18 := NB322_321.out
        have hnc18 := NB321_322.out
        obtain ⟨hcz19_0, hfz19_0⟩ := zb1 BK322.out
        obtain ⟨hcz20_0, hcz20_1, hcz20_2, hcz20_3, hcz20_4, hcz20_5, hfz20_0, hfz20_1, hfz20_2, hfz20_3, hfz20_4, hfz20_5⟩ := zb6 BK321.out
        go_wp2
        go_meet
        case rel => exact ⟨_, (false), apB, H', ⟨by first | omega | exact yH _⟩, ⟨apS⟩, ⟨apQ⟩, ⟨apR⟩⟩
       ·rw [if_neg c17] at H
        have c17b0 : (a0_0 == 6) = false := beq_eq_false_iff_ne.mpr c17
        have c17b1 : (a0_0 != 6) = true := bne_iff_ne.mpr c17
        have H' := zA H
        clear H
        have hnb21 := NB322_321.out
        have hnc21 := NB321_322.out
        obtain ⟨hcz22_0, hfz22_0⟩ := zb1 BK322.out
        obtain ⟨hcz23_0, hcz23_1, hcz23_2, hcz23_3, hcz23_4, hcz23_5, hfz23_0, hfz23_1, hfz23_2, hfz23_3, hfz23_4, hfz23_5⟩ := zb6 BK321.out
        go_wp2
        go_meet
        case rel => exact ⟨_, (decide ((l0_5.length : Int) > 0)), apB, H', ⟨by first | omega | exact yH _⟩, ⟨apS⟩, ⟨apQ⟩, ⟨apR⟩⟩
     ·rw [if_neg c12] at H
      have c12b0 : decide (a0_0 < 5) = false := decide_eq_false c12
      clear c12
      by_cases c24 : a0_0 = 6
      ·rw [if_pos c24] at H
       have c24b0 : (a0_0 == 6) = true := beq_iff_eq.mpr c24
       have c24b1 : (a0_0 != 6) = false := bne_eq_false_iff_eq.mpr c24
       clear c24
       have H' := zA H
       clear H
       have hnb25 := NB322_321.out
       have hnc25 := NB321_322.out
       obtain ⟨hcz26_0, hfz26_0⟩ := zb1 BK322.out
       obtain ⟨hcz27_0, hcz27_1, hcz27_2, hcz27_3, hcz27_4, hcz27_5, hfz27_0, hfz27_1, hfz27_2, hfz27_3, hfz27_4, hfz27_5⟩ := zb6 BK321.out
       go_wp2
       go_meet
       case rel => exact ⟨_, (false), apB, H', ⟨by first | omega | exact yH _⟩, ⟨apS⟩, ⟨apQ⟩, ⟨apR⟩⟩
      ·rw [if_neg c24] at H
       have c24b0 : (a0_0 == 6) = false := beq_eq_false_iff_ne.mpr c24
       have c24b1 : (a0_0 != 6) = true := bne_iff_ne.mpr c24
       have H' := zA H
       clear H
       have hnb28 := NB322_321.out
       have hnc28 := NB321_322.out
       obtain ⟨hcz29_0, hfz29_0⟩ := zb1 BK322.out
       obtain ⟨hcz30_0, hcz30_1, hcz30_2, hcz30_3, hcz30_4, hcz30_5, hfz30_0, hfz30_1, hfz30_2, hfz30_3, hfz30_4, hfz30_5⟩ := zb6 BK321.out
       go_wp2
       go_meet
       case rel => exact ⟨_, (decide ((l0_5.length : Int) > 0)), apB, H', ⟨by first | omega | exact yH _⟩, ⟨apS⟩, ⟨apQ⟩, ⟨apR⟩⟩
    ·rw [if_neg c11] at H
     have c11b0 : (a0_0 == 4) = false := beq_eq_false_iff_ne.mpr c11
     have c11b1 : (a0_0 != 4) = true := bne_iff_ne.mpr c11
     by_cases c31 : a0_3.toList = ([] : List UInt8)
     ·rw [if_pos c31] at H
      have c31b0 : (a0_3.toList == ([] : List UInt8)) = true := beq_iff_eq.mpr c31
      have c31b1 : (a0_3.toList != ([] : List UInt8)) = false := bne_eq_false_iff_eq.mpr c31
      clear c31
      by_cases c32 : a0_0 < 5
      ·rw [if_pos c32] at H
       have c32b0 : decide (a0_0 < 5) = true := yD c32
       clear c32
       by_cases c33 : (l0_4.length : Int) > 0
       ·rw [if_pos c33] at H
        have c33b0 : decide (0 < (l0_4.length : Int)) = true := yD c33
        have c33b1 : decide (0 < l0_4.length) = true := yD (by omega)
        clear c33
        have H' := zA H
        clear H
        have hnb34 := NB322_321.out
        have hnc34 := NB321_322.out
        obtain ⟨hcz35_0, hfz35_0⟩ := zb1 BK322.out
        obtain ⟨hcz36_0, hcz36_1, hcz36_2, hcz36_3, hcz36_4, hcz36_5, hfz36_0, hfz36_1, hfz36_2, hfz36_3, hfz36_4, hfz36_5⟩ := zb6 BK321.out
        go_wp2
        go_meet
        case rel => exact ⟨_, (true), apB, H', ⟨by first | omega | exact yH _⟩, ⟨apS⟩, ⟨apQ⟩, ⟨apR⟩⟩
       ·rw [if_neg c33] at H
        have c33b0 : decide (0 < (l0_4.length : Int)) = false := decide_eq_false c33
        have c33b1 : decide (0 < l0_4.length) = false := decide_eq_false (by omega)
        clear c33
        by_cases c37 : a0_0 = 6
        ·rw [if_pos c37] at H
         have c37b0 : (a0_0 == 6) = true := beq_iff_eq.mpr c37
         have c37b1 : (a0_0 != 6) = false := bne_eq_false_iff_eq.mpr c37
         clear c37
         have H' := zA H
         clear H
         have hnb38 := NB322_321.out
         have hnc38 := NB321_322.out
         obtain ⟨hcz39_0, hfz39_0⟩ := zb1 BK322.out
         obtain ⟨hcz40_0, hcz40_1, hcz40_2, hcz40_3, hcz40_4, hcz40_5, hfz40_0, hfz40_1, hfz40_2, hfz40_3, hfz40_4, hfz40_5⟩ := zb6 BK321.out
         go_wp2
         go_meet
         case rel => exact ⟨_, (false), apB, H', ⟨by first | omega | exact yH _⟩, ⟨apS⟩, ⟨apQ⟩, ⟨apR⟩⟩
        ·rw [if_neg c37] at H
         have c37b0 : (a0_0 == 6) = false := beq_eq_false_iff_ne.mpr c37
         have c37b1 : (a0_0 != 6) = true := bne_iff_ne.mpr c37
         have H' := zA H
         clear H
         have hnb41 := NB322_321.out
         have hnc41 := NB321_322.out
         obtain ⟨hcz42_0, hfz42_0⟩ := zb1 BK322.out
         obtain ⟨hcz43_0, hcz43_1, hcz43_2, hcz43_3, hcz43_4, hcz43_5, hfz43_0, hfz43_1, hfz43_2, hfz43_3, hfz43_4, hfz43_5⟩ := zb6 BK321.out
         go_wp2
         go_meet
         case rel => exact ⟨_, (decide ((l0_5.length : Int) > 0)), apB, H', ⟨by first | omega | exact yH _⟩, ⟨apS⟩, ⟨apQ⟩, ⟨apR⟩⟩
      ·rw [if_neg c32] at H
       have c32b0 : decide (a0_0 < 5) = false := decide_eq_false c32
       clear c32
       by_cases c44 : a0_0 = 6
       ·rw [if_pos c44] at H
        have c44b0 : (a0_0 == 6) = true := beq_iff_eq.mpr c44
        have c44b1 : (a0_0 != 6) = false := bne_eq_false_iff_eq.mpr c44
        clear c44
        have H' := zA H
        clear H
        have hnb45 := NB322_321.out
        have hnc45 := NB321_322.out
        obtain ⟨hcz46_0, hfz46_0⟩ := zb1 BK322.out
        obtain ⟨hcz47_0, hcz47_1, hcz47_2, hcz47_3, hcz47_4, hcz47_5, hfz47_0, hfz47_1, hfz47_2, hfz47_3, hfz47_4, hfz47_5⟩ := zb6 BK321.out
        go_wp2
        go_meet
        case rel => exact ⟨_, (false), apB, H', ⟨by first | omega | exact yH _⟩, ⟨apS⟩, ⟨apQ⟩, ⟨apR⟩⟩
       ·rw [if_neg c44] at H
        have c44b0 : (a0_0 == 6) = false := beq_eq_false_iff_ne.mpr c44
        have c44b1 : (a0_0 != 6) = true := bne_iff_ne.mpr c44
        have H' := zA H
        clear H
        have hnb48 := NB322_321.out
        have hnc48 := NB321_322.out
        obtain ⟨hcz49_0, hfz49_0⟩ := zb1 BK322.out
        obtain ⟨hcz50_0, hcz50_1, hcz50_2, hcz50_3, hcz50_4, hcz50_5, hfz50_0, hfz50_1, hfz50_2, hfz50_3, hfz50_4, hfz50_5⟩ := zb6 BK321.out
        go_wp2
        go_meet
        case rel => exact ⟨_, (decide ((l0_5.length : Int) > 0)), apB, H', ⟨by first | omega | exact yH _⟩, ⟨apS⟩, ⟨apQ⟩, ⟨apR⟩⟩
     ·rw [if_neg c31] at H
      have c31b0 : (a0_3.toList == ([] : List UInt8)) = false := beq_eq_false_iff_ne.mpr c31
      have c31b1 : (a0_3.toList != ([] : List UInt8)) = true := bne_iff_ne.mpr c31
      have H' := zA H
      clear H
      have hnb51 := NB322_321.out
      have hnc51 := NB321_322.out
      obtain ⟨hcz52_0, hfz52_0⟩ := zb1 BK322.out
      obtain ⟨hcz53_0, hcz53_1, hcz53_2, hcz53_3, hcz53_4, hcz53_5, hfz53_0, hfz53_1, hfz53_2, hfz53_3, hfz53_4, hfz53_5⟩ := zb6 BK321.out
      go_wp2
      go_meet
      case rel => exact ⟨_, (true), apB, H', ⟨by first | omega | exact yH _⟩, ⟨apS⟩, ⟨apQ⟩, ⟨apR⟩⟩
   ·rw [if_neg c10] at H
    have c10b0 : (a0_0 == 3) = false := beq_eq_false_iff_ne.mpr c10
    have c10b1 : (a0_0 != 3) = true := bne_iff_ne.mpr c10
    by_cases c54 : (!(a0_1 == 0) || (!(a0_2 == 0))) = true
    ·rw [if_pos c54] at H
     have c54b0 : (!(a0_1 == 0) || (!(a0_2 == 0))) = true := c54
     clear c54
     have H' := zA H
     clear H
     have hnb55 := NB322_321.out
     have hnc55 := NB321_322.out
     obtain ⟨hcz56_0, hfz56_0⟩ := zb1 BK322.out
     obtain ⟨hcz57_0, hcz57_1, hcz57_2, hcz57_3, hcz57_4, hcz57_5, hfz57_0, hfz57_1, hfz57_2, hfz57_3, hfz57_4, hfz57_5⟩ := zb6 BK321.out
     go_wp2
     go_meet
     case rel => exact ⟨_, (true), apB, H', ⟨by first | omega | exact yH _⟩, ⟨apS⟩, ⟨apQ⟩, ⟨apR⟩⟩
    ·rw [if_neg c54] at H
     have c54b0 : (!(a0_1 == 0) || (!(a0_2 == 0))) = false := by simpa using c54
     clear c54
     by_cases c58 : a0_0 = 4
     ·rw [if_pos c58] at H
      have c58b0 : (a0_0 == 4) = true := beq_iff_eq.mpr c58
      have c58b1 : (a0_0 != 4) = false := bne_eq_false_iff_eq.mpr c58
      clear c58
      by_cases c59 : a0_0 < 5
      ·rw [if_pos c59] at H
       have c59b0 : decide (a0_0 < 5) = true := yD c59
       clear c59
       by_cases c60 : (l0_4.length : Int) > 0
       ·rw [if_pos c60] at H
        have c60b0 : decide (0 < (l0_4.length : Int)) = true := yD c60
        have c60b1 : decide (0 < l0_4.length) = true := yD (by omega)
        clear c60
        have H' := zA H
        clear H
        have hnb61 := NB322_321.out
        have hnc61 := NB321_322.out
        obtain ⟨hcz62_0, hfz62_0⟩ := zb1 BK322.out
        obtain ⟨hcz63_0, hcz63_1, hcz63_2, hcz63_3, hcz63_4, hcz63_5, hfz63_0, hfz63_1, hfz63_2, hfz63_3, hfz63_4, hfz63_5⟩ := zb6 BK321.out
        go_wp2
        go_meet
        case rel => exact ⟨_, (true), apB, H', ⟨by first | omega | exact yH _⟩, ⟨apS⟩, ⟨apQ⟩, ⟨apR⟩⟩
       ·rw [if_neg c60] at H
        have c60b0 : decide (0 < (l0_4.length : Int)) = false := decide_eq_false c60
        have c60b1 : decide (0 < l0_4.length) = false := decide_eq_false (by omega)
        clear c60
        by_cases c64 : a0_0 = 6
        ·rw [if_pos c64] at H
         have c64b0 : (a0_0 == 6) = true := beq_iff_eq.mpr c64
         have c64b1 : (a0_0 != 6) = false := bne_eq_false_iff_eq.mpr c64
         clear c64
         have H' := zA H
         clear H
         have hnb65 := NB322_321.out
         have hnc65 := NB321_322.out
         obtain ⟨hcz66_0, hfz66_0⟩ := zb1 BK322.out
         obtain ⟨hcz67_0, hcz67_1, hcz67_2, hcz67_3, hcz67_4, hcz67_5, hfz67_0, hfz67_1, hfz67_2, hfz67_3, hfz67_4, hfz67_5⟩ := zb6 BK321.out
         go_wp2
         go_meet
         case rel => exact ⟨_, (false), apB, H', ⟨by first | omega | exact yH _⟩, ⟨apS⟩, ⟨apQ⟩, ⟨apR⟩⟩
        ·rw [if_neg c64] at H
         have c64b0 : (a0_0 == 6) = false := beq_eq_false_iff_ne.mpr c64
         have c64b1 : (a0_0 != 6) = true := bne_iff_ne.mpr c64
         have H' := zA H
         clear H
         have hnb68 := NB322_321.out
         have hnc68 := NB321_322.out
         obtain ⟨hcz69_0, hfz69_0⟩ := zb1 BK322.out
         obtain ⟨hcz70_0, hcz70_1, hcz70_2, hcz70_3, hcz70_4, hcz70_5, hfz70_0, hfz70_1, hfz70_2, hfz70_3, hfz70_4, hfz70_5⟩ := zb6 BK321.out
         go_wp2
         go_meet
         case rel => exact ⟨_, (decide ((l0_5.length : Int) > 0)), apB, H', ⟨by first | omega | exact yH _⟩, ⟨apS⟩, ⟨apQ⟩, ⟨apR⟩⟩
      ·rw [if_neg c59] at H
       have c59b0 : decide (a0_0 < 5) = false := decide_eq_false c59
       clear c59
       by_cases c71 : a0_0 = 6
       ·rw [if_pos c71] at H
        have c71b0 : (a0_0 == 6) = true := beq_iff_eq.mpr c71
        have c71b1 : (a0_0 != 6) = false := bne_eq_false_iff_eq.mpr c71
        clear c71
        have H' := zA H
        clear H
        have hnb72 := NB322_321.out
        have hnc72 := NB321_322.out
        obtain ⟨hcz73_0, hfz73_0⟩ := zb1 BK322.out
        obtain ⟨hcz74_0, hcz74_1, hcz74_2, hcz74_3, hcz74_4, hcz74_5, hfz74_0, hfz74_1, hfz74_2, hfz74_3, hfz74_4, hfz74_5⟩ := zb6 BK321.out
        go_wp2
        go_meet
        case rel => exact ⟨_, (false), apB, H', ⟨by first | omega | exact yH _⟩, ⟨apS⟩, ⟨apQ⟩, ⟨apR⟩⟩
       ·rw [if_neg c71] at H
        have c71b0 : (a0_0 == 6) = false := beq_eq_false_iff_ne.mpr c71
        have c71b1 : (a0_0 != 6) = true := bne_iff_ne.mpr c71
        have H' := zA H
        clear H
        have hnb75 := NB322_321.out
        have hnc75 := NB321_322.out
        obtain ⟨hcz76_0, hfz76_0⟩ := zb1 BK322.out
        obtain ⟨hcz77_0, hcz77_1, hcz77_2, hcz77_3, hcz77_4, hcz77_5, hfz77_0, hfz77_1, hfz77_2, hfz77_3, hfz77_4, hfz77_5⟩ := zb6 BK321.out
        go_wp2
        go_meet
        case rel => exact ⟨_, (decide ((l0_5.length : Int) > 0)), apB, H', ⟨by first | omega | exact yH _⟩, ⟨apS⟩, ⟨apQ⟩, ⟨apR⟩⟩
     ·rw [if_neg c58] at H
      have c58b0 : (a0_0 == 4) = false := beq_eq_false_iff_ne.mpr c58
      have c58b1 : (a0_0 != 4) = true := bne_iff_ne.mpr c58
      by_cases c78 : a0_3.toList = ([] : List UInt8)
      ·rw [if_pos c78] at H
       have c78b0 : (a0_3.toList == ([] : List UInt8)) = true := beq_iff_eq.mpr c78
       have c78b1 : (a0_3.toList != ([] : List UInt8)) = false := bne_eq_false_iff_eq.mpr c78
       clear c78
       by_cases c79 : a0_0 < 5
       ·rw [if_pos c79] at H
        have c79b0 : decide (a0_0 < 5) = true := yD c79
        clear c79
        by_cases c80 : (l0_4.length : Int) > 0
        ·rw [if_pos c80] at H
         have c80b0 : decide (0 < (l0_4.length : Int)) = true := yD c80
         have c80b1 : decide (0 < l0_4.length) = true := yD (by omega)
         clear c80
         have H' := zA H
         clear H
         have hnb81 := NB322_321.out
         have hnc81 := NB321_322.out
         obtain ⟨hcz82_0, hfz82_0⟩ := zb1 BK322.out
         obtain ⟨hcz83_0, hcz83_1, hcz83_2, hcz83_3, hcz83_4, hcz83_5, hfz83_0, hfz83_1, hfz83_2, hfz83_3, hfz83_4, hfz83_5⟩ := zb6 BK321.out
         go_wp2
         go_meet
         case rel => exact ⟨_, (true), apB, H', ⟨by first | omega | exact yH _⟩, ⟨apS⟩, ⟨apQ⟩, ⟨apR⟩⟩
        ·rw [if_neg c80] at H
         have c80b0 : decide (0 < (l0_4.length : Int)) = false := decide_eq_false c80
         have c80b1 : decide (0 < l0_4.length) = false := decide_eq_false (by omega)
         clear c80
         by_cases c84 : a0_0 = 6
         ·rw [if_pos c84] at H
          have c84b0 : (a0_0 == 6) = true := beq_iff_eq.mpr c84
          have c84b1 : (a0_0 != 6) = false := bne_eq_false_iff_eq.mpr c84
          clear c84
          have H' := zA H
          clear H
          have hnb85 := NB322_321.out
          have hnc85 := NB321_322.out
          obtain ⟨hcz86_0, hfz86_0⟩ := zb1 BK322.out
          obtain ⟨hcz87_0, hcz87_1, hcz87_2, hcz87_3, hcz87_4, hcz87_5, hfz87_0, hfz87_1, hfz87_2, hfz87_3, hfz87_4, hfz87_5⟩ := zb6 BK321.out
          go_wp2
          go_meet
          case rel => exact ⟨_, (false), apB, H', ⟨by first | omega | exact yH _⟩, ⟨apS⟩, ⟨apQ⟩, ⟨apR⟩⟩
         ·rw [if_neg c84] at H
          have c84b0 : (a0_0 == 6) = false := beq_eq_false_iff_ne.mpr c84
          have c84b1 : (a0_0 != 6) = true := bne_iff_ne.mpr c84
          have H' := zA H
          clear H
          have hnb88 := NB322_321.out
          have hnc88 := NB321_322.out
          obtain ⟨hcz89_0, hfz89_0⟩ := zb1 BK322.out
          obtain ⟨hcz90_0, hcz90_1, hcz90_2, hcz90_3, hcz90_4, hcz90_5, hfz90_0, hfz90_1, hfz90_2, hfz90_3, hfz90_4, hfz90_5⟩ := zb6 BK321.out
          go_wp2
          go_meet
          case rel => exact ⟨_, (decide ((l0_5.length : Int) > 0)), apB, H', ⟨by first | omega | exact yH _⟩, ⟨apS⟩, ⟨apQ⟩, ⟨apR⟩⟩
       ·rw [if_neg c79] at H
        have c79b0 : decide (a0_0 < 5) = false := decide_eq_false c79
        clear c79
        by_cases c91 : a0_0 = 6
        ·rw [if_pos c91] at H
         have c91b0 : (a0_0 == 6) = true := beq_iff_eq.mpr c91
         have c91b1 : (a0_0 != 6) = false := bne_eq_false_iff_eq.mpr c91
         clear c91
         have H' := zA H
         clear H
         have hnb92 := NB322_321.out
         have hnc92 := NB321_322.out
         obtain ⟨hcz93_0, hfz93_0⟩ := zb1 BK322.out
         obtain ⟨hcz94_0, hcz94_1, hcz94_2, hcz94_3, hcz94_4, hcz94_5, hfz94_0, hfz94_1, hfz94_2, hfz94_3, hfz94_4, hfz94_5⟩ := zb6 BK321.out
         go_wp2
         go_meet
         case rel => exact ⟨_, (false), apB, H', ⟨by first | omega | exact yH _⟩, ⟨apS⟩, ⟨apQ⟩, ⟨apR⟩⟩
        ·rw [if_neg c91] at H
         have c91b0 : (a0_0 == 6) = false := beq_eq_false_iff_ne.mpr c91
         have c91b1 : (a0_0 != 6) = true := bne_iff_ne.mpr c91
         have H' := zA H
         clear H
         have hnb95 := NB322_321.out
         have hnc95 := NB321_322.out
         obtain ⟨hcz96_0, hfz96_0⟩ := zb1 BK322.out
         obtain ⟨hcz97_0, hcz97_1, hcz97_2, hcz97_3, hcz97_4, hcz97_5, hfz97_0, hfz97_1, hfz97_2, hfz97_3, hfz97_4, hfz97_5⟩ := zb6 BK321.out
         go_wp2
         go_meet
         case rel => exact ⟨_, (decide ((l0_5.length : Int) > 0)), apB, H', ⟨by first | omega | exact yH _⟩, ⟨apS⟩, ⟨apQ⟩, ⟨apR⟩⟩
      ·rw [if_neg c78] at H
       have c78b0 : (a0_3.toList == ([] : List UInt8)) = false := beq_eq_false_iff_ne.mpr c78
       have c78b1 : (a0_3.toList != ([] : List UInt8)) = true := bne_iff_ne.mpr c78
       have H' := zA H
       clear H
       have hnb98 := NB322_321.out
       have hnc98 := NB321_322.out
       obtain ⟨hcz99_0, hfz99_0⟩ := zb1 BK322.out
       obtain ⟨hcz100_0, hcz100_1, hcz100_2, hcz100_3, hcz100_4, hcz100_5, hfz100_0, hfz100_1, hfz100_2, hfz100_3, hfz100_4, hfz100_5⟩ := zb6 BK321.out
       go_wp2
       go_meet
       case rel => exact ⟨_, (true), apB, H', ⟨by first | omega | exact yH _⟩, ⟨apS⟩, ⟨apQ⟩, ⟨apR⟩⟩
 case rest =>
  clear HC4
  try clear c1 c2 p2 c3 c4 c5 c6 c7 c8 c9 c10 c10b0 c10b1 c11 c11b0 c11b1 c12 c12b0 c17 c17b0 c17b1 c21 c24 c24b0 c24b1 c25 c28 c31 c31b0 c31b1 c32 c32b0 c33 c33b0 c33b1 c34 c37 c37b0 c37b1 c38 c41 c44 c44b0 c44b1 c45 c48 c51 c54 c54b0 c55 c58 c58b0 c58b1 c59 c59b0 c60 c60b0 c60b1 c61 c64 c64b0 c64b1 c65 c68 c71 c71b0 c71b1 c72 c75 c78 c78b0 c78b1 c79 c79b0 c80 c80b0 c80b1 c81 c84 c84b0 c84b1 c85 c88 c91 c91b0 c91b1 c92 c95 c98 hcz100_0 hcz100_1 hcz100_2 hcz100_3 hcz100_4 hcz100_5 hcz20_5 hcz22_0 hcz23_0 hcz23_1 hcz23_2 hcz23_3 hcz23_4 hcz23_5 hcz26_0 hcz27_0 hcz27_1 hcz27_2 hcz27_3 hcz27_4 hcz27_5 hcz29_0 hcz30_0 hcz30_1 hcz30_2 hcz30_3 hcz30_4 hcz30_5 hcz35_0 hcz36_0 hcz36_1 hcz36_2 hcz36_3 hcz36_4 hcz36_5 hcz39_0 hcz40_0 hcz40_1 hcz40_2 hcz40_3 hcz40_4 hcz40_5 hcz42_0 hcz43_0 hcz43_1 hcz43_2 hcz43_3 hcz43_4 hcz43_5 hcz46_0 hcz47_0 hcz47_1 hcz47_2 hcz47_3 hcz47_4 hcz47_5 hcz49_0 hcz50_0 hcz50_1 hcz50_2 hcz50_3 hcz50_4 hcz50_5 hcz52_0 hcz53_0 hcz53_1 hcz53_2 hcz53_3 hcz53_4 hcz53_5 hcz56_0 hcz57_0 hcz57_1 hcz57_2 hcz57_3 hcz57_4 hcz57_5 hcz62_0 hcz63_0 hcz63_1 hcz63_2 hcz63_3 hcz63_4 hcz63_5 hcz66_0 hcz67_0 hcz67_1 hcz67_2 hcz67_3 hcz67_4 hcz67_5 hcz69_0 hcz70_0 hcz70_1 hcz70_2 hcz70_3 hcz70_4 hcz70_5 hcz73_0 hcz74_0 hcz74_1 hcz74_2 hcz74_3 hcz74_4 hcz74_5 hcz76_0 hcz77_0 hcz77_1 hcz77_2 hcz77_3 hcz77_4 hcz77_5 hcz82_0 hcz83_0 hcz83_1 hcz83_2 hcz83_3 hcz83_4 hcz83_5 hcz86_0 hcz87_0 hcz87_1 hcz87_2 hcz87_3 hcz87_4 hcz87_5 hcz89_0 hcz90_0 hcz90_1 hcz90_2 hcz90_3 hcz90_4 hcz90_5 hcz93_0 hcz94_0 hcz94_1 hcz94_2 hcz94_3 hcz94_4 hcz94_5 hcz96_0 hcz97_0 hcz97_1 hcz97_2 hcz97_3 hcz97_4 hcz97_5 hcz99_0 hfz100_0 hfz100_1 hfz100_2 hfz100_3 hfz100_4 hfz100_5 hfz20_0 hfz20_1 hfz20_2 hfz20_3 hfz20_4 hfz20_5 hfz22_0 hfz23_0 hfz23_1 hfz23_2 hfz23_3 hfz23_4 hfz23_5 hfz26_0 hfz27_0 hfz27_1 hfz27_2 hfz27_3 hfz27_4 hfz27_5 hfz29_0 hfz30_0 hfz30_1 hfz30_2 hfz30_3 hfz30_4 hfz30_5 hfz35_0 hfz36_0 hfz36_1 hfz36_2 hfz36_3 hfz36_4 hfz36_5 hfz39_0 hfz40_0 hfz40_1 hfz40_2 hfz40_3 hfz40_4 hfz40_5 hfz42_0 hfz43_0 hfz43_1 hfz43_2 hfz43_3 hfz43_4 hfz43_5 hfz46_0 hfz47_0 hfz47_1 hfz47_2 hfz47_3 hfz47_4 hfz47_5 hfz49_0 hfz50_0 hfz50_1 hfz50_2 hfz50_3 hfz50_4 hfz50_5 hfz52_0 hfz53_0 hfz53_1 hfz53_2 hfz53_3 hfz53_4 hfz53_5 hfz56_0 hfz57_0 hfz57_1 hfz57_2 hfz57_3 hfz57_4 hfz57_5 hfz62_0 hfz63_0 hfz63_1 hfz63_2 hfz63_3 hfz63_4 hfz63_5 hfz66_0 hfz67_0 hfz67_1 hfz67_2 hfz67_3 hfz67_4 hfz67_5 hfz69_0 hfz70_0 hfz70_1 hfz70_2 hfz70_3 hfz70_4 hfz70_5 hfz73_0 hfz74_0 hfz74_1 hfz74_2 hfz74_3 hfz74_4 hfz74_5 hfz76_0 hfz77_0 hfz77_1 hfz77_2 hfz77_3 hfz77_4 hfz77_5 hfz82_0 hfz83_0 hfz83_1 hfz83_2 hfz83_3 hfz83_4 hfz83_5 hfz86_0 hfz87_0 hfz87_1 hfz87_2 hfz87_3 hfz87_4 hfz87_5 hfz89_0 hfz90_0 hfz90_1 hfz90_2 hfz90_3 hfz90_4 hfz90_5 hfz93_0 hfz94_0 hfz94_1 hfz94_2 hfz94_3 hfz94_4 hfz94_5 hfz96_0 hfz97_0 hfz97_1 hfz97_2 hfz97_3 hfz97_4 hfz97_5 hfz99_0
  obtain ⟨kq, x51_3, rfl, HA, HJ3, BK321, BK322, HB⟩ := hcut
  cases kq with
  | zero => exact absurd HA.out (by simp [impl_valueOk.j0])
  | succ kj3 =>
   have H := HA.out
   clear HA
   simp only [impl_valueOk.j0] at H
   by_cases c101 : x51_3 = true
   ·subst c101
    have H1 := H; rw [if_pos rfl] at H1
    clear H
    have H := H1
    clear H1
    obtain rfl := yF H
    go_wp2
    go_ret
    exact ⟨apE, apR⟩
   ·replace c101 := Bool.eq_false_iff.mpr c101
    subst c101
    have H1 := H; rw [if_neg (show ¬ (false = true) by decide)] at H1
    clear H
    have H := H1
    clear H1
    have HC102 := zA H
    clear H
    have hnb103 := NB321_322.out
    have hnc103 := NB322_321.out
    obtain ⟨hcz104_0, hcz104_1, hcz104_2, hcz104_3, hcz104_4, hcz104_5, hfz104_0, hfz104_1, hfz104_2, hfz104_3, hfz104_4, hfz104_5⟩ := zb6 BK321.out
    go_upto_if 54 with (fail)
    go_cut [54] (fun v54 wc => ∃ (kq : Nat) (x54_101 : Bool), v54 = .bool x54_101 ∧ Aside0 (impl_valueOk.j1 kq a0_0 x54_101 l2 a0_0 a0_1 a0_2 a0_3 l0_4 l0_5 a1 = some r) ∧ Aside0 (kq ≤ kj3) ∧ Aside0 (wc.heap[gb321]? = some (.cells #[.int .i64 a0_0, .int .i64 a0_1, .int .i64 a0_2, .string a0_3, (.slice A0_4 l0_4.length c0_4), (.slice A0_5 l0_5.length c0_5)] 33 (0, 0))) ∧ Aside0 (wc.heap[gb322]? = some (.cells #[.int .i64 a1] 3 (0, 0))) ∧ Aside0 (Below w.heap.size w wc))
    case first =>
     have H := HC102.out
     clear HC102
     by_cases c105 : a0_0 = 0
     ·rw [if_pos c105] at H
      have c105b0 : (a0_0 == 0) = true := beq_iff_eq.mpr c105
      have c105b1 : (a0_0 != 0) = false := bne_eq_false_iff_eq.mpr c105
      clear c105
      (first | rw [c105b0] | (simp only [i64_w, i32_w]; rw [c105b0]) | skip)
      have H' := zA H
      clear H
      go_wp2
      go_meet
      case rel => exact ⟨_, ((a0_0 == 0)), apB, H', ⟨by have := HJ3.out; first | omega | exact yH _⟩, ⟨apS⟩, ⟨apQ⟩, ⟨apR⟩⟩
     ·rw [if_neg c105] at H
      have c105b0 : (a0_0 == 0) = false := beq_eq_false_iff_ne.mpr c105
      have c105b1 : (a0_0 != 0) = true := bne_iff_ne.mpr c105
      (first | rw [c105b0] | (simp only [i64_w, i32_w]; rw [c105b0]) | skip)
      by_cases c106 : a0_0 = 1
      ·rw [if_pos c106] at H
       have c106b0 : (a0_0 == 1) = true := beq_iff_eq.mpr c106
       have c106b1 : (a0_0 != 1) = false := bne_eq_false_iff_eq.mpr c106
       clear c106
       have H' := zA H
       clear H
       go_wp2
       go_meet
       case rel => exact ⟨_, ((a0_0 == 1)), apB, H', ⟨by have := HJ3.out; first | omega | exact yH _⟩, ⟨apS⟩, ⟨apQ⟩, ⟨apR⟩⟩
      ·rw [if_neg c106] at H
       have c106b0 : (a0_0 == 1) = false := beq_eq_false_iff_ne.mpr c106
       have c106b1 : (a0_0 != 1) = true := bne_iff_ne.mpr c106
       by_cases c107 : a0_0 = 2
       ·rw [if_pos c107] at H
        have c107b0 : (a0_0 == 2) = true := beq_iff_eq.mpr c107
        have c107b1 : (a0_0 != 2) = false := bne_eq_false_iff_eq.mpr c107
        clear c107
        have H' := zA H
        clear H
        go_wp2
        go_meet
        case rel => exact ⟨_, ((a0_0 == 2)), apB, H', ⟨by have := HJ3.out; first | omega | exact yH _⟩, ⟨apS⟩, ⟨apQ⟩, ⟨apR⟩⟩
       ·rw [if_neg c107] at H
        have c107b0 : (a0_0 == 2) = false := beq_eq_false_iff_ne.mpr c107
        have c107b1 : (a0_0 != 2) = true := bne_iff_ne.mpr c107
        have H' := zA H
        clear H
        go_wp2
        go_meet
        case rel => exact ⟨_, ((a0_0 == 5)), apB, H', ⟨by have := HJ3.out; first | omega | exact yH _⟩, ⟨apS⟩, ⟨apQ⟩, ⟨apR⟩⟩
    case rest =>
     clear HC102
     try clear c1 c2 p2 c3 c4 c5 c6 c7 c8 c9 c10 c10b0 c10b1 c11 c11b0 c11b1 c12 c12b0 c17 c17b0 c17b1 c21 c24 c24b0 c24b1 c25 c28 c31 c31b0 c31b1 c32 c32b0 c33 c33b0 c33b1 c34 c37 c37b0 c37b1 c38 c41 c44 c44b0 c44b1 c45 c48 c51 c54 c54b0 c55 c58 c58b0 c58b1 c59 c59b0 c60 c60b0 c60b1 c61 c64 c64b0 c64b1 c65 c68 c71 c71b0 c71b1 c72 c75 c78 c78b0 c78b1 c79 c79b0 c80 c80b0 c80b1 c81 c84 c84b0 c84b1 c85 c88 c91 c91b0 c91b1 c92 c95 c98 c101 c103 c105 c105b0 c105b1 c106 c106b0 c106b1 c107 c107b0 c107b1 hcz100_0 hcz100_1 hcz100_2 hcz100_3 hcz100_4 hcz100_5 hcz104_0 hcz104_1 hcz104_2 hcz104_3 hcz104_4 hcz104_5 hcz20_5 hcz22_0 hcz23_0 hcz23_1 hcz23_2 hcz23_3 hcz23_4 hcz23_5 hcz26_0 hcz27_0 hcz27_1 hcz27_2 hcz27_3 hcz27_4 hcz27_5 hcz29_0 hcz30_0 hcz30_1 hcz30_2 hcz30_3 hcz30_4 hcz30_5 hcz35_0 hcz36_0 hcz36_1 hcz36_2 hcz36_3 hcz36_4 hcz36_5 hcz39_0 hcz40_0 hcz40_1 hcz40_2 hcz40_3 hcz40_4 hcz40_5 hcz42_0 hcz43_0 hcz43_1 hcz43_2 hcz43_3 hcz43_4 hcz43_5 hcz46_0 hcz47_0 hcz47_1 hcz47_2 hcz47_3 hcz47_4 hcz47_5 hcz49_0 hcz50_0 hcz50_1 hcz50_2 hcz50_3 hcz50_4 hcz50_5 hcz52_0 hcz53_0 hcz53_1 hcz53_2 hcz53_3 hcz53_4 hcz53_5 hcz56_0 hcz57_0 hcz57_1 hcz57_2 hcz57_3 hcz57_4 hcz57_5 hcz62_0 hcz63_0 hcz63_1 hcz63_2 hcz63_3 hcz63_4 hcz63_5 hcz66_0 hcz67_0 hcz67_1 hcz67_2 hcz67_3 hcz67_4 hcz67_5 hcz69_0 hcz70_0 hcz70_1 hcz70_2 hcz70_3 hcz70_4 hcz70_5 hcz73_0 hcz74_0 hcz74_1 hcz74_2 hcz74_3 hcz74_4 hcz74_5 hcz76_0 hcz77_0 hcz77_1 hcz77_2 hcz77_3 hcz77_4 hcz77_5 hcz82_0 hcz83_0 hcz83_1 hcz83_2 hcz83_3 hcz83_4 hcz83_5 hcz86_0 hcz87_0 hcz87_1 hcz87_2 hcz87_3 hcz87_4 hcz87_5 hcz89_0 hcz90_0 hcz90_1 hcz90_2 hcz90_3 hcz90_4 hcz90_5 hcz93_0 hcz94_0 hcz94_1 hcz94_2 hcz94_3 hcz94_4 hcz94_5 hcz96_0 hcz97_0 hcz97_1 hcz97_2 hcz97_3 hcz97_4 hcz97_5 hcz99_0 hfz100_0 hfz100_1 hfz100_2 hfz100_3 hfz100_4 hfz100_5 hfz104_0 hfz104_1 hfz104_2 hfz104_3 hfz104_4 hfz104_5 hfz20_0 hfz20_1 hfz20_2 hfz20_3 hfz20_4 hfz20_5 hfz22_0 hfz23_0 hfz23_1 hfz23_2 hfz23_3 hfz23_4 hfz23_5 hfz26_0 hfz27_0 hfz27_1 hfz27_2 hfz27_3 hfz27_4 hfz27_5 hfz29_0 hfz30_0 hfz30_1 hfz30_2 hfz30_3 hfz30_4 hfz30_5 hfz35_0 hfz36_0 hfz36_1 hfz36_2 hfz36_3 hfz36_4 hfz36_5 hfz39_0 hfz40_0 hfz40_1 hfz40_2 hfz40_3 hfz40_4 hfz40_5 hfz42_0 hfz43_0 hfz43_1 hfz43_2 hfz43_3 hfz43_4 hfz43_5 hfz46_0 hfz47_0 hfz47_1 hfz47_2 hfz47_3 hfz47_4 hfz47_5 hfz49_0 hfz50_0 hfz50_1 hfz50_2 hfz50_3 hfz50_4 hfz50_5 hfz52_0 hfz53_0 hfz53_1 hfz53_2 hfz53_3 hfz53_4 hfz53_5 hfz56_0 hfz57_0 hfz57_1 hfz57_2 hfz57_3 hfz57_4 hfz57_5 hfz62_0 hfz63_0 hfz63_1 hfz63_2 hfz63_3 hfz63_4 hfz63_5 hfz66_0 hfz67_0 hfz67_1 hfz67_2 hfz67_3 hfz67_4 hfz67_5 hfz69_0 hfz70_0 hfz70_1 hfz70_2 hfz70_3 hfz70_4 hfz70_5 hfz73_0 hfz74_0 hfz74_1 hfz74_2 hfz74_3 hfz74_4 hfz74_5 hfz76_0 hfz77_0 hfz77_1 hfz77_2 hfz77_3 hfz77_4 hfz77_5 hfz82_0 hfz83_0 hfz83_1 hfz83_2 hfz83_3 hfz83_4 hfz83_5 hfz86_0 hfz87_0 hfz87_1 hfz87_2 hfz87_3 hfz87_4 hfz87_5 hfz89_0 hfz90_0 hfz90_1 hfz90_2 hfz90_3 hfz90_4 hfz90_5 hfz93_0 hfz94_0 hfz94_1 hfz94_2 hfz94_3 hfz94_4 hfz94_5 hfz96_0 hfz97_0 hfz97_1 hfz97_2 hfz97_3 hfz97_4 hfz97_5 hfz99_0 p2
     obtain ⟨kq, x54_101, rfl, HA, HJ101, BK321, BK322, HB⟩ := hcut
     cases kq with
     | zero => exact absurd HA.out (by simp [impl_valueOk.j1])
     | succ kj101 =>
      have H := HA.out
      clear HA
      simp only [impl_valueOk.j1] at H
      by_cases c108 : x54_101 = true
      ·subst c108
       have H1 := H; rw [if_pos rfl] at H1
       clear H
       have H := H1
       clear H1
       replace H := Option.bind_eq_some_iff.mp H
       obtain ⟨t323, A1090, H⟩ := H
       have A109 := zA A1090
       clear A1090
       obtain rfl := yF H
       have hnb110 := NB321_322.out
       have hnc110 := NB322_321.out
       obtain ⟨hcz111_0, hcz111_1, hcz111_2, hcz111_3, hcz111_4, hcz111_5, hfz111_0, hfz111_1, hfz111_2, hfz111_3, hfz111_4, hfz111_5⟩ := zb6 BK321.out
       go_wp2_with (first | ((with_reducible refine zV (f := 37) rfl ?_); refine goesL_ (some 108) rfl rfl Tryd.func37 (by kernel_rfl) rfl #[.slice A0_4 l0_4.length c0_4, .func (.func 38) #[] #[.pointer (some ⟨gb322, 0, none⟩)]] rfl apD ?_; (with_reducible refine (ih_impl_Value_37_at_valueOk_1 kj101 (by have := HJ3.out; have := HJ101.out; omega) _ _ l0_4 A2 c2 l2 (some ⟨gb322, 0, none⟩) 1 [a1] t323 _ ?side1 ?side2 ?side3 ?side4 ?side5 ?side6 ?side7 A109.out).mono ?_); (case side1 => exact vc (Kd.C_below HR0_4.out HB.out)); (case side2 => exact HC0_4.out); (case side3 => exact vc (Kd.C_below HR2.out HB.out)); (case side4 => exact HC2.out); (case side5 => exact cap_mk apQ); (case side6 => exact yH _); (case side7 => exact HG2.out); rintro e w112 ⟨rfl, hb⟩; refine ⟨_, rfl, ?_⟩; replace BK322 := zA (zP (g := gb322) (o := .cells #[.int .i64 a1] 3 (0, 0)) apQ hb); replace HB := zA (zQ (by repeat (first | (with_reducible first | exact HB.out | apply zG | apply zE | apply zF | refine zH ?_ GE322.out) | exact HB.out)) hb); (try clear hb); (try clear hb2); (try clear hk); (try clear hi)))
       go_ret
       exact ⟨apE, by repeat (first | (with_reducible first | exact HB.out | apply zG | apply zE | apply zF | refine zH ?_ GE322.out) | exact HB.out)⟩
      ·replace c108 := Bool.eq_false_iff.mpr c108
       subst c108
       have H1 := H; rw [if_neg (show ¬ (false = true) by decide)] at H1
       clear H
       have H := H1
       clear H1
       by_cases c113 : a0_0 = 3
       ·rw [if_pos c113] at H
        have c113b0 : (a0_0 == 3) = true := beq_iff_eq.mpr c113
        have c113b1 : (a0_0 != 3) = false := bne_eq_false_iff_eq.mpr c113
        clear c113
        replace H := Option.bind_eq_some_iff.mp H
        obtain ⟨t324, A1140, H⟩ := H
        have A114 := zA A1140
        clear A1140
        obtain rfl := yF H
        have hnb115 := NB321_322.out
        have hnc115 := NB322_321.out
        obtain ⟨hcz116_0, hcz116_1, hcz116_2, hcz116_3, hcz116_4, hcz116_5, hfz116_0, hfz116_1, hfz116_2, hfz116_3, hfz116_4, hfz116_5⟩ := zb6 BK321.out
        go_wp2_with (first | ((with_reducible refine zV (f := 35) rfl ?_); refine goesL_ (some 63) rfl rfl Tryd.func35 (by kernel_rfl) rfl #[.agg #[.int .i64 a0_1, .int .i64 a0_2]] rfl apD ?_; (with_reducible refine (impl_DecOk.calls a0_1 a0_2 t324 _ A114.out).mono ?_); rintro e w117 ⟨rfl, hb⟩; refine ⟨_, rfl, ?_⟩; replace HB := zA (zQ apA hb); (try clear hb); (try clear hb2); (try clear hk); (try clear hi)))
        go_ret
        exact ⟨apE, apA⟩
       ·rw [if_neg c113] at H
        have c113b0 : (a0_0 == 3) = false := beq_eq_false_iff_ne.mpr c113
        have c113b1 : (a0_0 != 3) = true := bne_iff_ne.mpr c113
        by_cases c118 : a0_0 = 4
        ·rw [if_pos c118] at H
         have c118b0 : (a0_0 == 4) = true := beq_iff_eq.mpr c118
         have c118b1 : (a0_0 != 4) = false := bne_eq_false_iff_eq.mpr c118
         clear c118
         obtain rfl := yF H
         have hnb119 := NB321_322.out
         have hnc119 := NB322_321.out
         obtain ⟨hcz120_0, hcz120_1, hcz120_2, hcz120_3, hcz120_4, hcz120_5, hfz120_0, hfz120_1, hfz120_2, hfz120_3, hfz120_4, hfz120_5⟩ := zb6 BK321.out
         go_wp2
         go_ret
         exact ⟨apE, apR⟩
        ·rw [if_neg c118] at H
         have c118b0 : (a0_0 == 4) = false := beq_eq_false_iff_ne.mpr c118
         have c118b1 : (a0_0 != 4) = true := bne_iff_ne.mpr c118
         by_cases c121 : a0_0 = 6
         ·rw [if_pos c121] at H
          have c121b0 : (a0_0 == 6) = true := beq_iff_eq.mpr c121
          have c121b1 : (a0_0 != 6) = false := bne_eq_false_iff_eq.mpr c121
          clear c121
          have H' := zA H
          clear H
          have hnb122 := NB321_322.out
          have hnc122 := NB322_321.out
          obtain ⟨hcz123_0, hcz123_1, hcz123_2, hcz123_3, hcz123_4, hcz123_5, hfz123_0, hfz123_1, hfz123_2, hfz123_3, hfz123_4, hfz123_5⟩ := zb6 BK321.out
          go_wp2
          go_loopg [75] kj101 (fun kq v75 w' => ∃ (x75_3 : Int), v75 = .int .i64 x75_3 ∧ Aside0 (impl_valueOk.l0 kq l0_5 (l0_5.length : Int) x75_3 l2 a0_0 a0_1 a0_2 a0_3 l0_4 l0_5 a1 = some r) ∧ Aside0 (kq ≤ kj101) ∧ Aside0 (w'.heap[gb321]? = some (.cells #[.int .i64 a0_0, .int .i64 a0_1, .int .i64 a0_2, .string a0_3, (.slice A0_4 l0_4.length c0_4), (.slice A0_5 l0_5.length c0_5)] 33 (0, 0))) ∧ Aside0 (w'.heap[gb322]? = some (.cells #[.int .i64 a1] 3 (0, 0))) ∧ Aside0 (Below w.heap.size w w'))
          case atStart => exact ⟨(0), apB, H', ⟨yH _⟩, ⟨apS⟩, ⟨apQ⟩, ⟨apR⟩⟩
          case round =>
           clear H'
           try clear c1 c2 p2 c3 c4 c5 c6 c7 c8 c9 c10 c10b0 c10b1 c11 c11b0 c11b1 c12 c12b0 c17 c17b0 c17b1 c21 c24 c24b0 c24b1 c25 c28 c31 c31b0 c31b1 c32 c32b0 c33 c33b0 c33b1 c34 c35 c37 c37b0 c37b1 c38 c41 c44 c44b0 c44b1 c45 c48 c51 c54 c54b0 c55 c58 c58b0 c58b1 c59 c59b0 c60 c60b0 c60b1 c61 c64 c64b0 c64b1 c65 c68 c71 c71b0 c71b1 c72 c75 c78 c78b0 c78b1 c79 c79b0 c80 c80b0 c80b1 c81 c84 c84b0 c84b1 c85 c88 c91 c91b0 c91b1 c92 c95 c98 c101 c103 c105 c105b0 c105b1 c106 c106b0 c106b1 c107 c107b0 c107b1 c108 c110 c113 c113b0 c113b1 c115 c118 c118b0 c118b1 c119 c121 c121b0 c121b1 c122 hcz100_0 hcz100_1 hcz100_2 hcz100_3 hcz100_4 hcz100_5 hcz104_0 hcz104_1 hcz104_2 hcz104_3 hcz104_4 hcz104_5 hcz111_0 hcz111_1 hcz111_2 hcz111_3 hcz111_4 hcz111_5 hcz116_0 hcz116_1 hcz116_2 hcz116_3 hcz116_4 hcz116_5 hcz120_0 hcz120_1 hcz120_2 hcz120_3 hcz120_4 hcz120_5 hcz123_0 hcz123_1 hcz123_2 hcz123_3 hcz123_4 hcz123_5 hcz20_5 hcz22_0 hcz23_0 hcz23_1 hcz23_2 hcz23_3 hcz23_4 hcz23_5 hcz26_0 hcz27_0 hcz27_1 hcz27_2 hcz27_3 hcz27_4 hcz27_5 hcz29_0 hcz30_0 hcz30_1 hcz30_2 hcz30_3 hcz30_4 hcz30_5 hcz35_0 hcz36_0 hcz36_1 hcz36_2 hcz36_3 hcz36_4 hcz36_5 hcz39_0 hcz40_0 hcz40_1 hcz40_2 hcz40_3 hcz40_4 hcz40_5 hcz42_0 hcz43_0 hcz43_1 hcz43_2 hcz43_3 hcz43_4 hcz43_5 hcz46_0 hcz47_0 hcz47_1 hcz47_2 hcz47_3 hcz47_4 hcz47_5 hcz49_0 hcz50_0 hcz50_1 hcz50_2 hcz50_3 hcz50_4 hcz50_5 hcz52_0 hcz53_0 hcz53_1 hcz53_2 hcz53_3 hcz53_4 hcz53_5 hcz56_0 hcz57_0 hcz57_1 hcz57_2 hcz57_3 hcz57_4 hcz57_5 hcz62_0 hcz63_0 hcz63_1 hcz63_2 hcz63_3 hcz63_4 hcz63_5 hcz66_0 hcz67_0 hcz67_1 hcz67_2 hcz67_3 hcz67_4 hcz67_5 hcz69_0 hcz70_0 hcz70_1 hcz70_2 hcz70_3 hcz70_4 hcz70_5 hcz73_0 hcz74_0 hcz74_1 hcz74_2 hcz74_3 hcz74_4 hcz74_5 hcz76_0 hcz77_0 hcz77_1 hcz77_2 hcz77_3 hcz77_4 hcz77_5 hcz82_0 hcz83_0 hcz83_1 hcz83_2 hcz83_3 hcz83_4 hcz83_5 hcz86_0 hcz87_0 hcz87_1 hcz87_2 hcz87_3 hcz87_4 hcz87_5 hcz89_0 hcz90_0 hcz90_1 hcz90_2 hcz90_3 hcz90_4 hcz90_5 hcz93_0 hcz94_0 hcz94_1 hcz94_2 hcz94_3 hcz94_4 hcz94_5 hcz96_0 hcz97_0 hcz97_1 hcz97_2 hcz97_3 hcz97_4 hcz97_5 hcz99_0 hfz100_0 hfz100_1 hfz100_2 hfz100_3 hfz100_4 hfz100_5 hfz104_0 hfz104_1 hfz104_2 hfz104_3 hfz104_4 hfz104_5 hfz111_0 hfz111_1 hfz111_2 hfz111_3 hfz111_4 hfz111_5 hfz116_0 hfz116_1 hfz116_2 hfz116_3 hfz116_4 hfz116_5 hfz120_0 hfz120_1 hfz120_2 hfz120_3 hfz120_4 hfz120_5 hfz123_0 hfz123_1 hfz123_2 hfz123_3 hfz123_4 hfz123_5 hfz20_0 hfz20_1 hfz20_2 hfz20_3 hfz20_4 hfz20_5 hfz22_0 hfz23_0 hfz23_1 hfz23_2 hfz23_3 hfz23_4 hfz23_5 hfz26_0 hfz27_0 hfz27_1 hfz27_2 hfz27_3 hfz27_4 hfz27_5 hfz29_0 hfz30_0 hfz30_1 hfz30_2 hfz30_3 hfz30_4 hfz30_5 hfz35_0 hfz36_0 hfz36_1 hfz36_2 hfz36_3 hfz36_4 hfz36_5 hfz39_0 hfz40_0 hfz40_1 hfz40_2 hfz40_3 hfz40_4 hfz40_5 hfz42_0 hfz43_0 hfz43_1 hfz43_2 hfz43_3 hfz43_4 hfz43_5 hfz46_0 hfz47_0 hfz47_1 hfz47_2 hfz47_3 hfz47_4 hfz47_5 hfz49_0 hfz50_0 hfz50_1 hfz50_2 hfz50_3 hfz50_4 hfz50_5 hfz52_0 hfz53_0 hfz53_1 hfz53_2 hfz53_3 hfz53_4 hfz53_5 hfz56_0 hfz57_0 hfz57_1 hfz57_2 hfz57_3 hfz57_4 hfz57_5 hfz62_0 hfz63_0 hfz63_1 hfz63_2 hfz63_3 hfz63_4 hfz63_5 hfz66_0 hfz67_0 hfz67_1 hfz67_2 hfz67_3 hfz67_4 hfz67_5 hfz69_0 hfz70_0 hfz70_1 hfz70_2 hfz70_3 hfz70_4 hfz70_5 hfz73_0 hfz74_0 hfz74_1 hfz74_2 hfz74_3 hfz74_4 hfz74_5 hfz76_0 hfz77_0 hfz77_1 hfz77_2 hfz77_3 hfz77_4 hfz77_5 hfz82_0 hfz83_0 hfz83_1 hfz83_2 hfz83_3 hfz83_4 hfz83_5 hfz86_0 hfz87_0 hfz87_1 hfz87_2 hfz87_3 hfz87_4 hfz87_5 hfz89_0 hfz90_0 hfz90_1 hfz90_2 hfz90_3 hfz90_4 hfz90_5 hfz93_0 hfz94_0 hfz94_1 hfz94_2 hfz94_3 hfz94_4 hfz94_5 hfz96_0 hfz97_0 hfz97_1 hfz97_2 hfz97_3 hfz97_4 hfz97_5 hfz99_0 p2
           obtain ⟨x75_3, rfl, HA, HK3, BK321, BK322, HB⟩ := hrel
           cases gk with
           | zero => exact absurd HA.out (by simp [impl_valueOk.l0])
           | succ k3 =>
            have H := HA.out
            clear HA
            simp only [impl_valueOk.l0] at H
            by_cases c124 : x75_3 < (l0_5.length : Int)
            ·rw [if_pos c124] at H
             have c124b0 : decide (x75_3 < (l0_5.length : Int)) = true := yD c124
             clear c124
             by_cases c125 : 0 ≤ x75_3
             ·rw [if_pos c125] at H
              have c125b0 : decide (0 ≤ x75_3) = true := yD c125
              clear c125
              by_cases c126 : x75_3 < (l0_5.length : Int)
              ·rw [if_pos c126] at H
               have c126b0 : decide (x75_3 < (l0_5.length : Int)) = true := yD c126
               clear c126
               replace H := Option.bind_eq_some_iff.mp H
               obtain ⟨t326, A1270, H⟩ := H
               have A127 := zA A1270
               clear A1270
               by_cases c128 : t326 = true
               ·subst c128
                have H1 := H; rw [if_pos rfl] at H1
                clear H
                have H := H1
                clear H1
                by_cases c129 : x75_3 > 0
                ·rw [if_pos c129] at H
                 have c129b0 : decide (0 < x75_3) = true := yD c129
                 clear c129
                 obtain ⟨ji130, hji130⟩ : ∃ j_ : Int, (wrap64 (x75_3 - 1)) = j_ := ⟨_, rfl⟩
                 replace H : (if 0 ≤ (ji130) then (if (ji130) < (l0_5.length : Int) then (if ((Op.bytesLess ((rdOf ByteArray.empty l0_5 (ji130)).toList) ((rdOf ByteArray.empty l0_5 x75_3).toList)) = true) then (impl_valueOk.l0 k3 l0_5 (l0_5.length : Int) (wrap64 (x75_3 + 1)) l2 a0_0 a0_1 a0_2 a0_3 l0_4 l0_5 a1) else (some false)) else (none)) else (none)) = some r := by first | (rw [hji130] at H; exact H) | (simp only [hji130] at H ⊢; exact H)
                 (try rw [hji130] at A127)
                 have hji130w : (IntKind.i64.wrap (x75_3 - 1)) = ji130 := (i64_w _).trans hji130
                 by_cases c131 : 0 ≤ (ji130)
                 ·rw [if_pos c131] at H
                  have c131b0 : decide (0 ≤ (ji130)) = true := yD c131
                  clear c131
                  by_cases c132 : (ji130) < (l0_5.length : Int)
                  ·rw [if_pos c132] at H
                   have c132b0 : decide ((ji130) < (l0_5.length : Int)) = true := yD c132
                   clear c132
                   by_cases c133 : ((Op.bytesLess ((rdOf ByteArray.empty l0_5 (ji130)).toList) ((rdOf ByteArray.empty l0_5 x75_3).toList)) = true)
                   ·rw [if_pos c133] at H
                    have c133b0 : (Op.bytesLess ((rdOf ByteArray.empty l0_5 (ji130)).toList) ((rdOf ByteArray.empty l0_5 x75_3).toList)) = true := c133
                    clear c133
                    have H' := zA H
                    clear H
                    have p325 : 0 ≤ (x75_3 : Int) := yE apC
                    have q325 : x75_3 < (l0_5.length : Int) := yE apC
                    obtain ⟨ad325, e325, hx325_0⟩ := Kd.at_string HR0_5.out x75_3 p325 q325
                    cases e325
                    replace hx325_0 := (HB.out.cell (zS w _ hx325_0)).trans hx325_0
                    replace p325 := eq_true p325
                    replace q325 := eq_true q325
                    go_wp2_with (first | ((with_reducible refine zV (f := 36) rfl ?_); refine goesL_ (some 81) rfl rfl Tryd.func36 (by kernel_rfl) rfl #[.string (rdOf ByteArray.empty l0_5 x75_3)] rfl apD ?_; (with_reducible refine (impl_NameOk.calls k3 (rdOf ByteArray.empty l0_5 x75_3) A2 c2 l2 true _ ?side1 ?side2 ?side3 A127.out).mono ?_); (case side1 => exact vc (Kd.C_below HR2.out HB.out)); (case side2 => exact HC2.out); (case side3 => exact HG2.out); rintro e w' ⟨rfl, ⟨nd, rfl⟩⟩; refine ⟨_, rfl, ?_⟩; have hnb134 := NB321_322.out; have hnc134 := NB322_321.out; obtain ⟨hcz135_0, hcz135_1, hcz135_2, hcz135_3, hcz135_4, hcz135_5, hfz135_0, hfz135_1, hfz135_2, hfz135_3, hfz135_4, hfz135_5⟩ := zb6 BK321.out; have p327 : 0 ≤ ((ji130) : Int) := yE apC; have q327 : (ji130) < (l0_5.length : Int) := yE apC; obtain ⟨ad327, e327, hx327_0⟩ := Kd.at_string HR0_5.out (ji130) p327 q327; obtain rfl : ad325 = ad327 := (by injection e327); replace hx327_0 := (HB.out.cell (zS w _ hx327_0)).trans hx327_0; replace p327 := eq_true p327; replace q327 := eq_true q327))
                    go_roundg k3
                    case measure => have := HJ3.out; have := HJ101.out; have := HK3.out; omega
                    case rel => exact ⟨(wrap64 (x75_3 + 1)), apB, H', ⟨by have := HJ3.out; have := HJ101.out; have := HK3.out; omega⟩, ⟨apS⟩, ⟨apQ⟩, ⟨apR⟩⟩
                   ·rw [if_neg c133] at H
                    have c133b0 : (Op.bytesLess ((rdOf ByteArray.empty l0_5 (ji130)).toList) ((rdOf ByteArray.empty l0_5 x75_3).toList)) = false := by simpa using c133
                    clear c133
                    obtain rfl := yF H
                    have p325 : 0 ≤ (x75_3 : Int) := yE apC
                    have q325 : x75_3 < (l0_5.length : Int) := yE apC
                    obtain ⟨ad325, e325, hx325_0⟩ := Kd.at_string HR0_5.out x75_3 p325 q325
                    cases e325
                    replace hx325_0 := (HB.out.cell (zS w _ hx325_0)).trans hx325_0
                    replace p325 := eq_true p325
                    replace q325 := eq_true q325
                    go_wp2_with (first | ((with_reducible refine zV (f := 36) rfl ?_); refine goesL_ (some 81) rfl rfl Tryd.func36 (by kernel_rfl) rfl #[.string (rdOf ByteArray.empty l0_5 x75_3)] rfl apD ?_; (with_reducible refine (impl_NameOk.calls k3 (rdOf ByteArray.empty l0_5 x75_3) A2 c2 l2 true _ ?side1 ?side2 ?side3 A127.out).mono ?_); (case side1 => exact vc (Kd.C_below HR2.out HB.out)); (case side2 => exact HC2.out); (case side3 => exact HG2.out); rintro e w' ⟨rfl, ⟨nd, rfl⟩⟩; refine ⟨_, rfl, ?_⟩; obtain ⟨hcz136_0, hcz136_1, hcz136_2, hcz136_3, hcz136_4, hcz136_5, hfz136_0, hfz136_1, hfz136_2, hfz136_3, hfz136_4, hfz136_5⟩ := zb6 BK321.out; have p327 : 0 ≤ ((ji130) : Int) := yE apC; have q327 : (ji130) < (l0_5.length : Int) := yE apC; obtain ⟨ad327, e327, hx327_0⟩ := Kd.at_string HR0_5.out (ji130) p327 q327; obtain rfl : ad325 = ad327 := (by injection e327); replace hx327_0 := (HB.out.cell (zS w _ hx327_0)).trans hx327_0; replace p327 := eq_true p327; replace q327 := eq_true q327))
                    go_ret
                    exact ⟨by first | rfl | (simp [errW_none, errW_some] <;> rfl) | (simp only [← hji130]; first | rfl | (simp [errW_none, errW_some] <;> rfl)) | (simp [*, errW_none, errW_some] <;> rfl), by repeat (first | (with_reducible first | exact HB.out | apply zG | apply zE | apply zF | refine zH ?_ GE321.out) | exact HB.out)⟩
                  ·rw [if_neg c132] at H
                   exact absurd H (by simp)
                 ·rw [if_neg c131] at H
                  exact absurd H (by simp)
                ·rw [if_neg c129] at H
                 have c129b0 : decide (0 < x75_3) = false := decide_eq_false c129
                 clear c129
                 have H' := zA H
                 clear H
                 have p325 : 0 ≤ (x75_3 : Int) := yE apC
                 have q325 : x75_3 < (l0_5.length : Int) := yE apC
                 obtain ⟨ad325, e325, hx325_0⟩ := Kd.at_string HR0_5.out x75_3 p325 q325
                 cases e325
                 replace hx325_0 := (HB.out.cell (zS w _ hx325_0)).trans hx325_0
                 replace p325 := eq_true p325
                 replace q325 := eq_true q325
                 go_wp2_with (first | ((with_reducible refine zV (f := 36) rfl ?_); refine goesL_ (some 81) rfl rfl Tryd.func36 (by kernel_rfl) rfl #[.string (rdOf ByteArray.empty l0_5 x75_3)] rfl apD ?_; (with_reducible refine (impl_NameOk.calls k3 (rdOf ByteArray.empty l0_5 x75_3) A2 c2 l2 true _ ?side1 ?side2 ?side3 A127.out).mono ?_); (case side1 => exact vc (Kd.C_below HR2.out HB.out)); (case side2 => exact HC2.out); (case side3 => exact HG2.out); rintro e w' ⟨rfl, ⟨nd, rfl⟩⟩; refine ⟨_, rfl, ?_⟩))
                 go_roundg k3
                 case measure => have := HJ3.out; have := HJ101.out; have := HK3.out; omega
                 case rel => exact ⟨(wrap64 (x75_3 + 1)), apB, H', ⟨by have := HJ3.out; have := HJ101.out; have := HK3.out; omega⟩, ⟨apS⟩, ⟨apQ⟩, ⟨apR⟩⟩
               ·replace c128 := Bool.eq_false_iff.mpr c128
                subst c128
                have H1 := H; rw [if_neg (show ¬ (false = true) by decide)] at H1
                clear H
                have H := H1
                clear H1
                obtain rfl := yF H
                have p325 : 0 ≤ (x75_3 : Int) := yE apC
                have q325 : x75_3 < (l0_5.length : Int) := yE apC
                obtain ⟨ad325, e325, hx325_0⟩ := Kd.at_string HR0_5.out x75_3 p325 q325
                cases e325
                replace hx325_0 := (HB.out.cell (zS w _ hx325_0)).trans hx325_0
                replace p325 := eq_true p325
                replace q325 := eq_true q325
                go_wp2_with (first | ((with_reducible refine zV (f := 36) rfl ?_); refine goesL_ (some 81) rfl rfl Tryd.func36 (by kernel_rfl) rfl #[.string (rdOf ByteArray.empty l0_5 x75_3)] rfl apD ?_; (with_reducible refine (impl_NameOk.calls k3 (rdOf ByteArray.empty l0_5 x75_3) A2 c2 l2 false _ ?side1 ?side2 ?side3 A127.out).mono ?_); (case side1 => exact vc (Kd.C_below HR2.out HB.out)); (case side2 => exact HC2.out); (case side3 => exact HG2.out); rintro e w' ⟨rfl, ⟨nd, rfl⟩⟩; refine ⟨_, rfl, ?_⟩))
                go_ret
                exact ⟨apE, apA⟩
              ·rw [if_neg c126] at H
               exact absurd H (by simp)
             ·rw [if_neg c125] at H
              exact absurd H (by simp)
            ·rw [if_neg c124] at H
             have c124b0 : decide (x75_3 < (l0_5.length : Int)) = false := decide_eq_false c124
             clear c124
             by_cases c137 : (l0_5.length : Int) = (l0_4.length : Int)
             ·rw [if_pos c137] at H
              have c137b0 : ((l0_5.length : Int) == (l0_4.length : Int)) = true := beq_iff_eq.mpr c137
              have c137b1 : ((l0_5.length : Int) != (l0_4.length : Int)) = false := bne_eq_false_iff_eq.mpr c137
              have c137b2 : (l0_5.length == l0_4.length) = true := by first | simpa using c137 | (simp at c137 ⊢; omega)
              clear c137
              replace H := Option.bind_eq_some_iff.mp H
              obtain ⟨t328, A1380, H⟩ := H
              have A138 := zA A1380
              clear A1380
              obtain rfl := yF H
              have hnb139 := NB321_322.out
              have hnc139 := NB322_321.out
              obtain ⟨hcz140_0, hcz140_1, hcz140_2, hcz140_3, hcz140_4, hcz140_5, hfz140_0, hfz140_1, hfz140_2, hfz140_3, hfz140_4, hfz140_5⟩ := zb6 BK321.out
              go_wp2_with (first | ((with_reducible refine zV (f := 37) rfl ?_); refine goesL_ (some 108) rfl rfl Tryd.func37 (by kernel_rfl) rfl #[.slice A0_4 l0_4.length c0_4, .func (.func 38) #[] #[.pointer (some ⟨gb322, 0, none⟩)]] rfl apD ?_; (with_reducible refine (ih_impl_Value_37_at_valueOk_1 k3 (by have := HJ3.out; have := HJ101.out; have := HK3.out; omega) _ _ l0_4 A2 c2 l2 (some ⟨gb322, 0, none⟩) 1 [a1] t328 _ ?side1 ?side2 ?side3 ?side4 ?side5 ?side6 ?side7 A138.out).mono ?_); (case side1 => exact vc (Kd.C_below HR0_4.out HB.out)); (case side2 => exact HC0_4.out); (case side3 => exact vc (Kd.C_below HR2.out HB.out)); (case side4 => exact HC2.out); (case side5 => exact cap_mk apQ); (case side6 => exact yH _); (case side7 => exact HG2.out); rintro e w141 ⟨rfl, hb⟩; refine ⟨_, rfl, ?_⟩; replace BK322 := zA (zP (g := gb322) (o := .cells #[.int .i64 a1] 3 (0, 0)) apQ hb); replace HB := zA (zQ (by repeat (first | (with_reducible first | exact HB.out | apply zG | apply zE | apply zF | refine zH ?_ GE322.out) | exact HB.out)) hb); (try clear hb); (try clear hb2); (try clear hk); (try clear hi)))
              go_ret
              exact ⟨apE, by repeat (first | (with_reducible first | exact HB.out | apply zG | apply zE | apply zF | refine zH ?_ GE322.out) | exact HB.out)⟩
             ·rw [if_neg c137] at H
              have c137b0 : ((l0_5.length : Int) == (l0_4.length : Int)) = false := beq_eq_false_iff_ne.mpr c137
              have c137b1 : ((l0_5.length : Int) != (l0_4.length : Int)) = true := bne_iff_ne.mpr c137
              have c137b2 : (l0_5.length == l0_4.length) = false := by first | simpa using c137 | (simp at c137 ⊢; omega)
              obtain rfl := yF H
              have hnb142 := NB321_322.out
              have hnc142 := NB322_321.out
              obtain ⟨hcz143_0, hcz143_1, hcz143_2, hcz143_3, hcz143_4, hcz143_5, hfz143_0, hfz143_1, hfz143_2, hfz143_3, hfz143_4, hfz143_5⟩ := zb6 BK321.out
              go_wp2
              go_ret
              exact ⟨apE, apR⟩
         ·rw [if_neg c121] at H
          have c121b0 : (a0_0 == 6) = false := beq_eq_false_iff_ne.mpr c121
          have c121b1 : (a0_0 != 6) = true := bne_iff_ne.mpr c121
          obtain rfl := yF H
          go_wp2
          go_ret
          exact ⟨apE, apR⟩

set_option maxHeartbeats 8000000 in
set_option maxRecDepth 100000 in
theorem impl_Value_37_at_valueOk_1.step (k : Nat) (ih_impl_valueOk : ∀ m, m < k → impl_valueOk.Spec m) (ih_impl_Value_37_at_valueOk_1 : ∀ m, m < k → impl_Value_37_at_valueOk_1.Spec m) (ih_impl_valueOk_1 : ∀ m, m < k → impl_valueOk_1.Spec m) (ih_impl_Value_55_at_valueOk_1 : ∀ m, m < k → impl_Value_55_at_valueOk_1.Spec m) : impl_Value_37_at_valueOk_1.Spec k := by
 intro A0 c0 l0 A2 c2 l2 A3 c3 l3 r w hr0 hc0 hr2 hc2 hr3 hc3 hg2 h
 cases k with
 | zero => exact absurd h (by simp [impl_Value_37_at_valueOk_1.f])
 | succ k =>
 simp only [impl_Value_37_at_valueOk_1.f] at h
 have HR0 := zA hr0
 have HC0 := zA hc0
 clear hr0 hc0
 have HG2 := zA hg2
 clear hg2
 have HR2 := zA hr2
 have HC2 := zA hc2
 clear hr2 hc2
 have HR3 := zA hr3
 have HC3 := zA hc3
 clear hr3 hc3
 have HB := zA (yG w.heap.size w)
 have H : ((impl_Value_55_at_valueOk_1.f k l0 l2 l3).bind fun t329 => (some (decide (t329 ≥ 0)))) = some r := h
 clear h
 replace H := Option.bind_eq_some_iff.mp H
 obtain ⟨t329, A50, H⟩ := H
 have A5 := zA A50
 clear A50
 obtain rfl := yF H
 go_enter Tryd.func37, Tryd.ntmps37
 go_wp2_with (first | ((with_reducible refine zV (f := 55) rfl ?_); refine goesL_ (some 7) rfl rfl Tryd.func55 (by kernel_rfl) rfl #[.slice A0 l0.length c0, .func (.func 38) #[] #[.pointer A3]] rfl apD ?_; (with_reducible refine (ih_impl_Value_55_at_valueOk_1 k (by omega) _ _ l0 A2 c2 l2 A3 c3 l3 t329 _ ?side1 ?side2 ?side3 ?side4 ?side5 ?side6 ?side7 A5.out).mono ?_); (case side1 => repeat (first | exact HR0.out | (with_reducible refine Kd.C_alloc ?_ _) | (with_reducible refine Kd.C_drewN ?_ _) | (with_reducible refine Kd.C_drew ?_))); (case side2 => exact HC0.out); (case side3 => repeat (first | exact HR2.out | (with_reducible refine Kd.C_alloc ?_ _) | (with_reducible refine Kd.C_drewN ?_ _) | (with_reducible refine Kd.C_drew ?_))); (case side4 => exact HC2.out); (case side5 => repeat (first | exact HR3.out | (with_reducible refine Kd.C_alloc ?_ _) | (with_reducible refine Kd.C_drewN ?_ _) | (with_reducible refine Kd.C_drew ?_))); (case side6 => exact HC3.out); (case side7 => exact HG2.out); rintro e w6 ⟨rfl, hb⟩; refine ⟨_, rfl, ?_⟩; replace HB := zA (zQ apA hb); (try clear hb); (try clear hb2); (try clear hk); (try clear hi)))
 go_ret
 exact ⟨apE, apA⟩

set_option maxHeartbeats 8000000 in
set_option maxRecDepth 100000 in
theorem impl_valueOk_1.step (k : Nat) (ih_impl_valueOk : ∀ m, m < k → impl_valueOk.Spec m) (ih_impl_Value_37_at_valueOk_1 : ∀ m, m < k → impl_Value_37_at_valueOk_1.Spec m) (ih_impl_valueOk_1 : ∀ m, m < k → impl_valueOk_1.Spec m) (ih_impl_Value_55_at_valueOk_1 : ∀ m, m < k → impl_Value_55_at_valueOk_1.Spec m) : impl_valueOk_1.Spec k := by
 intro a0_0 a0_1 a0_2 a0_3 A0_4 c0_4 l0_4 A0_5 c0_5 l0_5 A1 c1 l1 A2 c2 l2 r w hr0_4 hc0_4 hr0_5 hc0_5 hr1 hc1 hr2 hc2 hg1 h
 cases k with
 | zero => exact absurd h (by simp [impl_valueOk_1.f])
 | succ k =>
 simp only [impl_valueOk_1.f] at h
 have hu33 := Tryd.underlying33
 have HR0_4 := zA hr0_4
 have HC0_4 := zA hc0_4
 clear hr0_4 hc0_4
 have HR0_5 := zA hr0_5
 have HC0_5 := zA hc0_5
 clear hr0_5 hc0_5
 have HG1 := zA hg1
 clear hg1
 have HR1 := zA hr1
 have HC1 := zA hc1
 clear hr1 hc1
 have HR2 := zA hr2
 have HC2 := zA hc2
 clear hr2 hc2
 have HB := zA (yG w.heap.size w)
 have H : (if 0 < (l2.length : Int) then ((impl_valueOk.f k a0_0 a0_1 a0_2 a0_3 l0_4 l0_5 (wrap64 ((rd l2 0) - 1)) l1).bind fun t332 => (some (!t332))) else (none)) = some r := h
 clear h
 by_cases c4 : 0 < (l2.length : Int)
 ·rw [if_pos c4] at H
  have c4b0 : decide (0 < (l2.length : Int)) = true := yD c4
  have c4b1 : decide (0 < l2.length) = true := yD (by omega)
  clear c4
  replace H := Option.bind_eq_some_iff.mp H
  obtain ⟨t332, A50, H⟩ := H
  have A5 := zA A50
  clear A50
  obtain rfl := yF H
  go_enter Tryd.func38, Tryd.ntmps38
  go_wp2_with (first | ((with_reducible refine zT (N := 2) rfl ?_); refine zW ?hg (N := 2) ?hd (cs := #[.int .i64 a0_0, .int .i64 a0_1, .int .i64 a0_2, .string a0_3, .slice A0_4 l0_4.length c0_4, .slice A0_5 l0_5.length c0_5]) (t := 33) ?hr ?_; (case hd => rfl); (case hg => rfl); (case hr => first | (go_simp; done) | (go_simp; rfl)); intro gb330 hg w6 hbox hb; have BK330 := zA (hbox); have GW330 := zA ((by rw [hg]; exact (zR apA) : w.heap.size ≤ gb330)); have GE330 := zA ((by rw [hg]; exact (zR apA) : w.heap.size ≤ gb330)); replace HB := zA (zQ apA hb); clear hb hbox hg; obtain ⟨hcz7_0, hcz7_1, hcz7_2, hcz7_3, hcz7_4, hcz7_5, hfz7_0, hfz7_1, hfz7_2, hfz7_3, hfz7_4, hfz7_5⟩ := zb6 BK330.out; have p331 : 0 ≤ (0 : Int) := (by omega); have q331 : 0 < (l2.length : Int) := yE apC; obtain ⟨ad331, e331, hx331_0⟩ := Kd.at_int HR2.out 0 p331 q331; cases e331; have qi331 : (0 < l2.length) = True := eq_true (by omega); (try rw [show ((0 : Int)).toNat = 0 from rfl] at hx331_0); (try rw [Addr.add_zero'] at hx331_0); replace hx331_0 := (HB.out.cell (zS w _ hx331_0)).trans hx331_0; replace p331 := eq_true p331; replace q331 := eq_true q331) | ((with_reducible refine zV (f := 24) rfl ?_); refine goesL_ (some 7) rfl rfl Tryd.func24 (by kernel_rfl) rfl #[.agg #[.int .i64 a0_0, .int .i64 a0_1, .int .i64 a0_2, .string a0_3, .slice A0_4 l0_4.length c0_4, .slice A0_5 l0_5.length c0_5], .int .i64 (wrap64 ((rd l2 0) - 1))] rfl apD ?_; (with_reducible refine (ih_impl_valueOk k (by omega) a0_0 a0_1 a0_2 a0_3 _ _ l0_4 _ _ l0_5 (wrap64 ((rd l2 0) - 1)) A1 c1 l1 t332 _ ?side1 ?side2 ?side3 ?side4 ?side5 ?side6 ?side7 A5.out).mono ?_); (case side1 => exact vc (Kd.C_below HR0_4.out HB.out)); (case side2 => exact HC0_4.out); (case side3 => exact vc (Kd.C_below HR0_5.out HB.out)); (case side4 => exact HC0_5.out); (case side5 => exact vc (Kd.C_below HR1.out HB.out)); (case side6 => exact HC1.out); (case side7 => exact HG1.out); rintro e w8 ⟨rfl, hb⟩; refine ⟨_, rfl, ?_⟩; replace HB := zA (zQ apA hb); (try clear hb); (try clear hb2); (try clear hk); (try clear hi)))
  go_ret
  exact ⟨apE, apA⟩
 ·rw [if_neg c4] at H
  exact absurd H (by simp)

set_option maxHeartbeats 8000000 in
set_option maxRecDepth 100000 in
theorem impl_Value_55_at_valueOk_1.step (k : Nat) (ih_impl_valueOk : ∀ m, m < k → impl_valueOk.Spec m) (ih_impl_Value_37_at_valueOk_1 : ∀ m, m < k → impl_Value_37_at_valueOk_1.Spec m) (ih_impl_valueOk_1 : ∀ m, m < k → impl_valueOk_1.Spec m) (ih_impl_Value_55_at_valueOk_1 : ∀ m, m < k → impl_Value_55_at_valueOk_1.Spec m) : impl_Value_55_at_valueOk_1.Spec k := by
 intro A0 c0 l0 A2 c2 l2 A3 c3 l3 r w hr0 hc0 hr2 hc2 hr3 hc3 hg2 h
 cases k with
 | zero => exact absurd h (by simp [impl_Value_55_at_valueOk_1.f])
 | succ k =>
 simp only [impl_Value_55_at_valueOk_1.f] at h
 have hu33 := Tryd.underlying33
 have HR0 := zA hr0
 have HC0 := zA hc0
 clear hr0 hc0
 have HG2 := zA hg2
 clear hg2
 have HR2 := zA hr2
 have HC2 := zA hc2
 clear hr2 hc2
 have HR3 := zA hr3
 have HC3 := zA hc3
 clear hr3 hc3
 have HB := zA (yG w.heap.size w)
 have H : (impl_Value_55_at_valueOk_1.l0 k l0 (l0.length : Int) 0 l3 l2) = some r := h
 clear h
 have H' := zA H
 clear H
 go_enter Tryd.func55, Tryd.ntmps55
 go_wp2
 go_loopg [8] k (fun kq v8 w' => ∃ (x8_1 : Int), v8 = .int .i64 x8_1 ∧ Aside0 (impl_Value_55_at_valueOk_1.l0 kq l0 (l0.length : Int) x8_1 l3 l2 = some r) ∧ Aside0 (kq ≤ k) ∧ Aside0 (Below w.heap.size w w'))
 case atStart => exact ⟨(0), apB, H', ⟨yH _⟩, ⟨apA⟩⟩
 case round =>
  clear H'
  try clear c2 p2 c3
  obtain ⟨x8_1, rfl, HA, HK1, HB⟩ := hrel
  cases gk with
  | zero => exact absurd HA.out (by simp [impl_Value_55_at_valueOk_1.l0])
  | succ k1 =>
   have H := HA.out
   clear HA
   simp only [impl_Value_55_at_valueOk_1.l0] at H
   by_cases c5 : x8_1 < (l0.length : Int)
   ·rw [if_pos c5] at H
    have c5b0 : decide (x8_1 < (l0.length : Int)) = true := yD c5
    clear c5
    by_cases c6 : 0 ≤ x8_1
    ·rw [if_pos c6] at H
     have c6b0 : decide (0 ≤ x8_1) = true := yD c6
     clear c6
     by_cases c7 : x8_1 < (l0.length : Int)
     ·rw [if_pos c7] at H
      have c7b0 : decide (x8_1 < (l0.length : Int)) = true := yD c7
      clear c7
      replace H := Option.bind_eq_some_iff.mp H
      obtain ⟨t334, A80, H⟩ := H
      have A8 := zA A80
      clear A80
      by_cases c9 : t334 = true
      ·subst c9
       have H1 := H; rw [if_pos rfl] at H1
       clear H
       have H := H1
       clear H1
       obtain rfl := yF H
       have p333 : 0 ≤ (x8_1 : Int) := yE apC
       have q333 : x8_1 < (l0.length : Int) := yE apC
       obtain ⟨ad333, A333_4, c333_4, A333_5, c333_5, e333, hx333_0, hx333_1, hx333_2, hx333_3, hx333_4, hx333_5, hl333_4, hi333_4, hl333_5, hi333_5⟩ := at_T33 HR0.out x8_1 p333 q333
       cases e333
       replace hx333_0 := (HB.out.cell (zS w _ hx333_0)).trans hx333_0
       replace hx333_1 := (HB.out.cell (zS w _ hx333_1)).trans hx333_1
       replace hx333_2 := (HB.out.cell (zS w _ hx333_2)).trans hx333_2
       replace hx333_3 := (HB.out.cell (zS w _ hx333_3)).trans hx333_3
       replace hx333_4 := (HB.out.cell (zS w _ hx333_4)).trans hx333_4
       replace hx333_5 := (HB.out.cell (zS w _ hx333_5)).trans hx333_5
       have HR333_4 := zA hi333_4
       have HC333_4 := zA hl333_4
       clear hi333_4 hl333_4
       have HR333_5 := zA hi333_5
       have HC333_5 := zA hl333_5
       clear hi333_5 hl333_5
       replace p333 := eq_true p333
       replace q333 := eq_true q333
       go_wp2_with (first | ((refine gate_calleevc (f := 38) rfl rfl ?_); refine goesvcL_ (some 16) rfl rfl Tryd.func38 (by kernel_rfl) rfl #[.agg #[.int .i64 ((rd_T33 l0 x8_1).f0), .int .i64 ((rd_T33 l0 x8_1).f1.f0), .int .i64 ((rd_T33 l0 x8_1).f1.f1), .string ((rd_T33 l0 x8_1).f2), .slice A333_4 ((rd_T33 l0 x8_1).f3).length c333_4, .slice A333_5 ((rd_T33 l0 x8_1).f4).length c333_5], .pointer A3] rfl rfl apD ?_; (with_reducible refine (ih_impl_valueOk_1 k1 (by have := HK1.out; omega) ((rd_T33 l0 x8_1).f0) ((rd_T33 l0 x8_1).f1.f0) ((rd_T33 l0 x8_1).f1.f1) ((rd_T33 l0 x8_1).f2) _ _ ((rd_T33 l0 x8_1).f3) _ _ ((rd_T33 l0 x8_1).f4) A2 c2 l2 A3 c3 l3 true _ ?side1 ?side2 ?side3 ?side4 ?side5 ?side6 ?side7 ?side8 ?side9 A8.out).mono ?_); (case side1 => exact vc (Kd.C_below HR333_4.out HB.out)); (case side2 => exact HC333_4.out); (case side3 => exact vc (Kd.C_below HR333_5.out HB.out)); (case side4 => exact HC333_5.out); (case side5 => exact vc (Kd.C_below HR2.out HB.out)); (case side6 => exact HC2.out); (case side7 => exact vc (Kd.C_below HR3.out HB.out)); (case side8 => exact HC3.out); (case side9 => exact HG2.out); rintro e w10 ⟨rfl, hb⟩; refine ⟨_, rfl, ?_⟩; replace HB := zA (zQ apA hb); (try clear hb); (try clear hb2); (try clear hk); (try clear hi)))
       go_ret
       exact ⟨apE, apA⟩
      ·replace c9 := Bool.eq_false_iff.mpr c9
       subst c9
       have H1 := H; rw [if_neg (show ¬ (false = true) by decide)] at H1
       clear H
       have H := H1
       clear H1
       have H' := zA H
       clear H
       have p333 : 0 ≤ (x8_1 : Int) := yE apC
       have q333 : x8_1 < (l0.length : Int) := yE apC
       obtain ⟨ad333, A333_4, c333_4, A333_5, c333_5, e333, hx333_0, hx333_1, hx333_2, hx333_3, hx333_4, hx333_5, hl333_4, hi333_4, hl333_5, hi333_5⟩ := at_T33 HR0.out x8_1 p333 q333
       cases e333
       replace hx333_0 := (HB.out.cell (zS w _ hx333_0)).trans hx333_0
       replace hx333_1 := (HB.out.cell (zS w _ hx333_1)).trans hx333_1
       replace hx333_2 := (HB.out.cell (zS w _ hx333_2)).trans hx333_2
       replace hx333_3 := (HB.out.cell (zS w _ hx333_3)).trans hx333_3
       replace hx333_4 := (HB.out.cell (zS w _ hx333_4)).trans hx333_4
       replace hx333_5 := (HB.out.cell (zS w _ hx333_5)).trans hx333_5
       have HR333_4 := zA hi333_4
       have HC333_4 := zA hl333_4
       clear hi333_4 hl333_4
       have HR333_5 := zA hi333_5
       have HC333_5 := zA hl333_5
       clear hi333_5 hl333_5
       replace p333 := eq_true p333
       replace q333 := eq_true q333
       go_wp2_with (first | ((refine gate_calleevc (f := 38) rfl rfl ?_); refine goesvcL_ (some 16) rfl rfl Tryd.func38 (by kernel_rfl) rfl #[.agg #[.int .i64 ((rd_T33 l0 x8_1).f0), .int .i64 ((rd_T33 l0 x8_1).f1.f0), .int .i64 ((rd_T33 l0 x8_1).f1.f1), .string ((rd_T33 l0 x8_1).f2), .slice A333_4 ((rd_T33 l0 x8_1).f3).length c333_4, .slice A333_5 ((rd_T33 l0 x8_1).f4).length c333_5], .pointer A3] rfl rfl apD ?_; (with_reducible refine (ih_impl_valueOk_1 k1 (by have := HK1.out; omega) ((rd_T33 l0 x8_1).f0) ((rd_T33 l0 x8_1).f1.f0) ((rd_T33 l0 x8_1).f1.f1) ((rd_T33 l0 x8_1).f2) _ _ ((rd_T33 l0 x8_1).f3) _ _ ((rd_T33 l0 x8_1).f4) A2 c2 l2 A3 c3 l3 false _ ?side1 ?side2 ?side3 ?side4 ?side5 ?side6 ?side7 ?side8 ?side9 A8.out).mono ?_); (case side1 => exact vc (Kd.C_below HR333_4.out HB.out)); (case side2 => exact HC333_4.out); (case side3 => exact vc (Kd.C_below HR333_5.out HB.out)); (case side4 => exact HC333_5.out); (case side5 => exact vc (Kd.C_below HR2.out HB.out)); (case side6 => exact HC2.out); (case side7 => exact vc (Kd.C_below HR3.out HB.out)); (case side8 => exact HC3.out); (case side9 => exact HG2.out); rintro e w11 ⟨rfl, hb⟩; refine ⟨_, rfl, ?_⟩; replace HB := zA (zQ apA hb); (try clear hb); (try clear hb2); (try clear hk); (try clear hi)))
       go_roundg k1
       case measure => have := HK1.out; omega
       case rel => exact ⟨(wrap64 (x8_1 + 1)), apB, H', ⟨by have := HK1.out; omega⟩, ⟨apA⟩⟩
     ·rw [if_neg c7] at H
      exact absurd H (by simp)
    ·rw [if_neg c6] at H
     exact absurd H (by simp)
   ·rw [if_neg c5] at H
    have c5b0 : decide (x8_1 < (l0.length : Int)) = false := decide_eq_false c5
    clear c5
    obtain rfl := yF H
    go_wp2
    go_ret
    exact ⟨apE, apA⟩

theorem impl_valueOk.G.all (k : Nat) : impl_valueOk.Spec k ∧ impl_Value_37_at_valueOk_1.Spec k ∧ impl_valueOk_1.Spec k ∧ impl_Value_55_at_valueOk_1.Spec k := by
 induction k using Nat.strongRecOn with
 | _ k ih =>
  exact ⟨impl_valueOk.step k (fun m hm => (ih m hm).1) (fun m hm => (ih m hm).2.1) (fun m hm => (ih m hm).2.2.1) (fun m hm => (ih m hm).2.2.2), impl_Value_37_at_valueOk_1.step k (fun m hm => (ih m hm).1) (fun m hm => (ih m hm).2.1) (fun m hm => (ih m hm).2.2.1) (fun m hm => (ih m hm).2.2.2), impl_valueOk_1.step k (fun m hm => (ih m hm).1) (fun m hm => (ih m hm).2.1) (fun m hm => (ih m hm).2.2.1) (fun m hm => (ih m hm).2.2.2), impl_Value_55_at_valueOk_1.step k (fun m hm => (ih m hm).1) (fun m hm => (ih m hm).2.1) (fun m hm => (ih m hm).2.2.1) (fun m hm => (ih m hm).2.2.2)⟩
theorem impl_valueOk.calls (k : Nat) : impl_valueOk.Spec k := (impl_valueOk.G.all k).1
theorem impl_Value_37_at_valueOk_1.calls (k : Nat) : impl_Value_37_at_valueOk_1.Spec k := (impl_valueOk.G.all k).2.1
theorem impl_valueOk_1.calls (k : Nat) : impl_valueOk_1.Spec k := (impl_valueOk.G.all k).2.2.1
theorem impl_Value_55_at_valueOk_1.calls (k : Nat) : impl_Value_55_at_valueOk_1.Spec k := (impl_valueOk.G.all k).2.2.2

end Go.Proofs.YtoajejdicfabmaaDoor.Q

namespace Go.Proofs.YtoajejdicfabmaaDoor.Q
open Go.RowKit Go.Proofs.YtoajejdicfabmaaDoorW.PrintWords Go.Proofs.YtoajejdicfabmaaDoorW.PrintLast Go.Proofs.YtoajejdicfabmaaDoorW.PrintMore Go.Proofs.YtoajejdicfabmaaDoorX
attribute [local go_sem] max2_int min2_int max_two min_two max_three min_three max_four min_four   -- for this text's walks alone
set_option linter.unusedVariables false
set_option linter.unusedSimpArgs false

def impl_ValueOk.f (k : Nat) (a0_0 : Int) (a0_1 : Int) (a0_2 : Int) (a0_3 : ByteArray) (l0_4 : List (S33)) (l0_5 : List ByteArray) (l1 : List (List ByteArray)) : Option (Bool) := (impl_valueOk.f k a0_0 a0_1 a0_2 a0_3 l0_4 l0_5 20 l1).bind fun t340 => (if t340 = true then ((impl_ValueSize.f k a0_0 a0_1 a0_2 a0_3 l0_4 l0_5).bind fun t341 => (some (decide (t341 ≤ 200)))) else (some false))
theorem impl_ValueOk.mono : ∀ a0 a1 a2 a3 a4 a5 a6 k, LeO (impl_ValueOk.f k a0 a1 a2 a3 a4 a5 a6) (impl_ValueOk.f (k + 1) a0 a1 a2 a3 a4 a5 a6) := by
 intro a0 a1 a2 a3 a4 a5 a6 k
 unfold impl_ValueOk.f
 repeat' first
   | (with_reducible exact impl_ValueSize.mono _ _ _ _ _ _ _)
   | (with_reducible exact impl_valueOk.mono _ _ _ _ _ _ _ _ _)
   | (with_reducible exact LeO.refl _)
   | (with_reducible exact LeO.none _)
   | (with_reducible refine LeO.ite ?_ ?_)
   | (with_reducible refine LeO.bind ?_ (fun _ => ?_))
set_option maxHeartbeats 8000000 in
set_option maxRecDepth 100000 in
theorem impl_ValueOk.calls (k : Nat) (a0_0 : Int) (a0_1 : Int) (a0_2 : Int) (a0_3 : ByteArray) (A0_4 : Option Addr) (c0_4 : Nat) (l0_4 : List (S33)) (A0_5 : Option Addr) (c0_5 : Nat) (l0_5 : List ByteArray) (A1 : Option Addr) (c1 : Nat) (l1 : List (List ByteArray)) (r : Bool) (w : World) (hr0_4 : Kd.C k33 w A0_4 l0_4.length l0_4) (hc0_4 : l0_4.length ≤ c0_4) (hr0_5 : Kd.C Kd.string w A0_5 l0_5.length l0_5) (hc0_5 : l0_5.length ≤ c0_5) (hr1 : Kd.C (Kd.slice 9 Kd.string) w A1 l1.length l1) (hc1 : l1.length ≤ c1) (hg1 : A1 = some ⟨0, 0, none⟩) (h : impl_ValueOk.f k a0_0 a0_1 a0_2 a0_3 l0_4 l0_5 l1 = some r) :
  Calls Tryd.prog 9 #[.agg #[.int .i64 a0_0, .int .i64 a0_1, .int .i64 a0_2, .string a0_3, .slice A0_4 l0_4.length c0_4, .slice A0_5 l0_5.length c0_5]] w fun e w' => e = .returned (.bool r) ∧ Below w.heap.size w w' := by
 have hu33 := Tryd.underlying33
 have HR0_4 := zA hr0_4
 have HC0_4 := zA hc0_4
 clear hr0_4 hc0_4
 have HR0_5 := zA hr0_5
 have HC0_5 := zA hc0_5
 clear hr0_5 hc0_5
 have HG1 := zA hg1
 clear hg1
 have HR1 := zA hr1
 have HC1 := zA hc1
 clear hr1 hc1
 have HB := zA (yG w.heap.size w)
 have H : ((impl_valueOk.f k a0_0 a0_1 a0_2 a0_3 l0_4 l0_5 20 l1).bind fun t340 => (if t340 = true then ((impl_ValueSize.f k a0_0 a0_1 a0_2 a0_3 l0_4 l0_5).bind fun t341 => (some (decide (t341 ≤ 200)))) else (some false))) = some r := h
 clear h
 replace H := Option.bind_eq_some_iff.mp H
 obtain ⟨t340, A30, H⟩ := H
 have A3 := zA A30
 clear A30
 by_cases c4 : t340 = true
 ·subst c4
  have H1 := H; rw [if_pos rfl] at H1
  clear H
  have H := H1
  clear H1
  replace H := Option.bind_eq_some_iff.mp H
  obtain ⟨t341, A50, H⟩ := H
  have A5 := zA A50
  clear A50
  obtain rfl := yF H
  go_enter Tryd.func9, Tryd.ntmps9
  go_wp2_with (first | ((with_reducible refine zT (N := 1) rfl ?_); refine zW ?hg (N := 1) ?hd (cs := #[.int .i64 a0_0, .int .i64 a0_1, .int .i64 a0_2, .string a0_3, .slice A0_4 l0_4.length c0_4, .slice A0_5 l0_5.length c0_5]) (t := 33) ?hr ?_; (case hd => rfl); (case hg => rfl); (case hr => first | (go_simp; done) | (go_simp; rfl)); intro gb339 hg w6 hbox hb; have BK339 := zA (hbox); have GW339 := zA ((by rw [hg]; exact (zR apA) : w.heap.size ≤ gb339)); have GE339 := zA ((by rw [hg]; exact (zR apA) : w.heap.size ≤ gb339)); replace HB := zA (zQ apA hb); clear hb hbox hg; obtain ⟨hcz7_0, hcz7_1, hcz7_2, hcz7_3, hcz7_4, hcz7_5, hfz7_0, hfz7_1, hfz7_2, hfz7_3, hfz7_4, hfz7_5⟩ := zb6 BK339.out) | ((with_reducible refine zV (f := 24) rfl ?_); refine goesL_ (some 4) rfl rfl Tryd.func24 (by kernel_rfl) rfl #[.agg #[.int .i64 a0_0, .int .i64 a0_1, .int .i64 a0_2, .string a0_3, .slice A0_4 l0_4.length c0_4, .slice A0_5 l0_5.length c0_5], .int .i64 20] rfl apD ?_; (with_reducible refine (impl_valueOk.calls k a0_0 a0_1 a0_2 a0_3 _ _ l0_4 _ _ l0_5 20 A1 c1 l1 true _ ?side1 ?side2 ?side3 ?side4 ?side5 ?side6 ?side7 A3.out).mono ?_); (case side1 => exact vc (Kd.C_below HR0_4.out HB.out)); (case side2 => exact HC0_4.out); (case side3 => exact vc (Kd.C_below HR0_5.out HB.out)); (case side4 => exact HC0_5.out); (case side5 => exact vc (Kd.C_below HR1.out HB.out)); (case side6 => exact HC1.out); (case side7 => exact HG1.out); rintro e w8 ⟨rfl, hb⟩; refine ⟨_, rfl, ?_⟩; replace BK339 := zA (zP (g := gb339) (o := .cells #[.int .i64 a0_0, .int .i64 a0_1, .int .i64 a0_2, .string a0_3, .slice A0_4 l0_4.length c0_4, .slice A0_5 l0_5.length c0_5] 33 (0, 0)) (by (with_reducible repeat (first | refine zB ?_ _ | refine zD ?_ | refine zC ?_ _)); exact BK339.out) hb); replace HB := zA (zQ (by repeat (first | (with_reducible first | exact HB.out | apply zG | apply zE | apply zF | refine zH ?_ GE339.out) | exact HB.out)) hb); (try clear hb); (try clear hb2); (try clear hk); (try clear hi); obtain ⟨hcz9_0, hcz9_1, hcz9_2, hcz9_3, hcz9_4, hcz9_5, hfz9_0, hfz9_1, hfz9_2, hfz9_3, hfz9_4, hfz9_5⟩ := zb6 BK339.out) | (go_at_call 12; (with_reducible refine (impl_ValueSize.calls k a0_0 a0_1 a0_2 a0_3 _ _ l0_4 _ _ l0_5 t341 _ ?side1 ?side2 ?side3 ?side4 A5.out).mono ?_); (case side1 => exact vc (Kd.C_below HR0_4.out HB.out)); (case side2 => exact HC0_4.out); (case side3 => exact vc (Kd.C_below HR0_5.out HB.out)); (case side4 => exact HC0_5.out); rintro e w10 ⟨rfl, hb⟩; replace HB := zA (zQ apA hb); (try clear hb); (try clear hb2); (try clear hk); (try clear hi)))
  go_ret
  exact ⟨apE, apA⟩
 ·replace c4 := Bool.eq_false_iff.mpr c4
  subst c4
  have H1 := H; rw [if_neg (show ¬ (false = true) by decide)] at H1
  clear H
  have H := H1
  clear H1
  obtain rfl := yF H
  go_enter Tryd.func9, Tryd.ntmps9
  go_wp2_with (first | ((with_reducible refine zT (N := 1) rfl ?_); refine zW ?hg (N := 1) ?hd (cs := #[.int .i64 a0_0, .int .i64 a0_1, .int .i64 a0_2, .string a0_3, .slice A0_4 l0_4.length c0_4, .slice A0_5 l0_5.length c0_5]) (t := 33) ?hr ?_; (case hd => rfl); (case hg => rfl); (case hr => first | (go_simp; done) | (go_simp; rfl)); intro gb339 hg w11 hbox hb; have BK339 := zA (hbox); have GW339 := zA ((by rw [hg]; exact (zR apA) : w.heap.size ≤ gb339)); have GE339 := zA ((by rw [hg]; exact (zR apA) : w.heap.size ≤ gb339)); replace HB := zA (zQ apA hb); clear hb hbox hg; obtain ⟨hcz12_0, hcz12_1, hcz12_2, hcz12_3, hcz12_4, hcz12_5, hfz12_0, hfz12_1, hfz12_2, hfz12_3, hfz12_4, hfz12_5⟩ := zb6 BK339.out) | ((with_reducible refine zV (f := 24) rfl ?_); refine goesL_ (some 4) rfl rfl Tryd.func24 (by kernel_rfl) rfl #[.agg #[.int .i64 a0_0, .int .i64 a0_1, .int .i64 a0_2, .string a0_3, .slice A0_4 l0_4.length c0_4, .slice A0_5 l0_5.length c0_5], .int .i64 20] rfl apD ?_; (with_reducible refine (impl_valueOk.calls k a0_0 a0_1 a0_2 a0_3 _ _ l0_4 _ _ l0_5 20 A1 c1 l1 false _ ?side1 ?side2 ?side3 ?side4 ?side5 ?side6 ?side7 A3.out).mono ?_); (case side1 => exact vc (Kd.C_below HR0_4.out HB.out)); (case side2 => exact HC0_4.out); (case side3 => exact vc (Kd.C_below HR0_5.out HB.out)); (case side4 => exact HC0_5.out); (case side5 => exact vc (Kd.C_below HR1.out HB.out)); (case side6 => exact HC1.out); (case side7 => exact HG1.out); rintro e w13 ⟨rfl, hb⟩; refine ⟨_, rfl, ?_⟩; replace HB := zA (zQ apA hb); (try clear hb); (try clear hb2); (try clear hk); (try clear hi)))
  go_ret
  exact ⟨apE, apA⟩


/-- A state of type 66 at block g of W; what its slices lead to came in by w0. -/
def IsS66 (w0 W : World) (g : Nat) (f0 : List Int) (f1 : Int) : Prop := ∃ A0 c0, W.heap[g]? = some (.cells #[.slice A0 f0.length c0, .int .i64 f1] 66 (0, 0)) ∧ w0.heap.size ≤ g ∧ Kd.C (Kd.int .u8) w0 A0 f0.length f0
theorem IsS66.grown {w0 W : World} {g : Nat} {f0 : List Int} {f1 : Int} {W1 : World} {row : Option Nat} (h : IsS66 w0 W g f0 f1) (hw : W.grownBy W1 row) (hne : some g ≠ row) : IsS66 w0 W1 g f0 f1 := by
 obtain ⟨A0, c0, hb, hg, hr0⟩ := h
 exact ⟨A0, c0, blk_grown hb hw hne, hg, hr0⟩
theorem IsS66.own_neN {w0 W : World} {g : Nat} {f0 : List Int} {f1 : Int} {α : Type} {d : Kd α} {e : Nat} {base : Nat} {ok : Nat → Prop} {v : Value} {xs : List α} (h : IsS66 w0 W g f0 f1) (ho : Kd.N d e W base ok v xs) (ht : e ≠ 66) : some g ≠ v.ownBlock := by
 obtain ⟨A0, c0, hb, hg, hr0⟩ := h
 exact Kd.N_ne ho hb ht
theorem IsS66.fresh {w0 W : World} {g : Nat} {f0 : List Int} {f1 : Int} (h : IsS66 w0 W g f0 f1) : ∀ k, W.heap.size ≤ k → k ≠ g := by
 obtain ⟨A0, c0, hb, hg, hr0⟩ := h
 exact Kd.freshB hb
theorem IsS66.kept {w0 W : World} {g : Nat} {f0 : List Int} {f1 : Int} {W1 : World} {S : Nat → Prop} (h : IsS66 w0 W g f0 f1) (hk : Kept W W1 S) (hne : ¬ S g) : IsS66 w0 W1 g f0 f1 := by
 obtain ⟨A0, c0, hb, hg, hr0⟩ := h
 exact ⟨A0, c0, blk_kept hb hk hne, hg, hr0⟩
theorem IsS66.below {w0 W : World} {g : Nat} {f0 : List Int} {f1 : Int} {W1 : World} (h : IsS66 w0 W g f0 f1) (hw : Below W.heap.size W W1) : IsS66 w0 W1 g f0 f1 := h.grown (grown_of_below hw none) (by simp)
theorem IsS66.alloc {w0 W : World} {g : Nat} {f0 : List Int} {f1 : Int} (h : IsS66 w0 W g f0 f1) (o : Obj) : IsS66 w0 (W.alloc o) g f0 f1 := h.below (zG (yG _ _) o)
theorem IsS66.drewN {w0 W : World} {g : Nat} {f0 : List Int} {f1 : Int} (h : IsS66 w0 W g f0 f1) (m : Nat) : IsS66 w0 (W.drewN m) g f0 f1 := h
theorem IsS66.drew {w0 W : World} {g : Nat} {f0 : List Int} {f1 : Int} (h : IsS66 w0 W g f0 f1) : IsS66 w0 W.drew g f0 f1 := h
theorem IsS66.at_ {w0 W : World} {g : Nat} {f0 : List Int} {f1 : Int} {w' : World} {m : Nat} (hq : W.drewN m = w') (h : IsS66 w0 W g f0 f1) : IsS66 w0 w' g f0 f1 := by subst hq; exact IsS66.drewN h m
theorem IsS66.apart {w0 W : World} {g : Nat} {f0 : List Int} {f1 : Int} {α : Type} {d : Kd α} {e : Nat} {base : Nat} {ok : Nat → Prop} {v : Value} {xs : List α} (h : IsS66 w0 W g f0 f1) (ho : d.R e W base ok v xs) (ht : ∀ q, q ∈ e :: d.E → q ≠ 66) : d.R e W base (fun k => ok k ∧ k ≠ g) v xs := by
 obtain ⟨A0, c0, hb, hg, hr0⟩ := h
 exact Kd.R_types ho hb ht
theorem IsS66.own_ne {w0 W : World} {g : Nat} {f0 : List Int} {f1 : Int} {α : Type} {d : Kd α} {e : Nat} {base : Nat} {ok : Nat → Prop} {v : Value} {xs : List α} (h : IsS66 w0 W g f0 f1) (ho : d.R e W base ok v xs) (ht : e ≠ 66) : some g ≠ v.ownBlock := by
 obtain ⟨A0, c0, hb, hg, hr0⟩ := h
 exact Kd.R_ne ho hb ht
theorem IsS66.apartQ {w0 W : World} {g : Nat} {f0 : List Int} {f1 : Int} {α : Type} {d : Kd α} {e : Nat} {base : Nat} {ok : Nat → Prop} {v : Value} {xs : List α} (h : IsS66 w0 W g f0 f1) (ho : d.Q e W base ok v xs) (ht : ∀ q, q ∈ e :: d.E → q ≠ 66) : d.Q e W base (fun k => ok k ∧ k ≠ g) v xs := by
 obtain ⟨A0, c0, hb, hg, hr0⟩ := h
 exact Kd.Q_types ho hb ht
theorem IsS66.own_neQ {w0 W : World} {g : Nat} {f0 : List Int} {f1 : Int} {α : Type} {d : Kd α} {e : Nat} {base : Nat} {ok : Nat → Prop} {v : Value} {xs : List α} (h : IsS66 w0 W g f0 f1) (ho : d.Q e W base ok v xs) (ht : e ≠ 66) : some g ≠ v.ownBlock := by
 obtain ⟨A0, c0, hb, hg, hr0⟩ := h
 exact Kd.Q_ne ho hb ht
theorem IsS66.apartS {w0 W : World} {g : Nat} {f0 : List Int} {f1 : Int} {α : Type} {d : Kd α} {e : Nat} {base : Nat} {ok : Nat → Prop} {v : Value} {xs : List α} (h : IsS66 w0 W g f0 f1) (ho : d.S e W base ok v xs) (ht : ∀ q, q ∈ e :: d.E → q ≠ 66) : d.S e W base (fun k => ok k ∧ k ≠ g) v xs := by
 obtain ⟨A0, c0, hb, hg, hr0⟩ := h
 exact Kd.S_types ho hb ht
theorem IsS66.own_neS {w0 W : World} {g : Nat} {f0 : List Int} {f1 : Int} {α : Type} {d : Kd α} {e : Nat} {base : Nat} {ok : Nat → Prop} {v : Value} {xs : List α} (h : IsS66 w0 W g f0 f1) (ho : d.S e W base ok v xs) (ht : e ≠ 66) : some g ≠ v.ownBlock := by
 obtain ⟨A0, c0, hb, hg, hr0⟩ := h
 exact Kd.S_ne ho hb ht
theorem IsS66.lt {w0 W : World} {g : Nat} {f0 : List Int} {f1 : Int} (h : IsS66 w0 W g f0 f1) : g < W.heap.size := by
 obtain ⟨A0, c0, hb, hg, hr0⟩ := h
 exact blk_lt hb
theorem IsS66.ge {w0 W : World} {g : Nat} {f0 : List Int} {f1 : Int} (h : IsS66 w0 W g f0 f1) : w0.heap.size ≤ g := by
 obtain ⟨A0, c0, hb, hg, hr0⟩ := h
 exact hg
theorem IsS66.ne_blk {w0 W : World} {g : Nat} {f0 : List Int} {f1 : Int} {a : Nat} {cs : Array Value} {t : TypeId} {fr : Nat × Nat} (h : IsS66 w0 W g f0 f1) (hb2 : W.heap[a]? = some (.cells cs t fr)) (ht : t ≠ 66) : g ≠ a := by
 obtain ⟨A0, c0, hb, hg, hr0⟩ := h
 rintro rfl
 rw [hb] at hb2
 injection hb2 with hb2
 injection hb2 with _ ht2
 exact ht ht2.symm
theorem IsS66.far {w0 W : World} {g : Nat} {f0 : List Int} {f1 : Int} {p : Addr} (h : IsS66 w0 W g f0 f1) (hne : g ≠ p.block) (u : Value) : IsS66 w0 (W.setCell p u) g f0 f1 := by
 obtain ⟨A0, c0, hb, hg, hr0⟩ := h
 exact ⟨A0, c0, blk_far hb hne u, hg, hr0⟩
theorem cellS66_0 {W : World} {g : Nat} {A0 : Option Addr} {c0 : Nat} {f0 : List Int} {f1 : Int} (h : W.heap[g]? = some (.cells #[.slice A0 f0.length c0, .int .i64 f1] 66 (0, 0))) : W.cell? ⟨g, 0, none⟩ = some (.slice A0 f0.length c0) := (zJ h 0).trans rfl
theorem cellS66_1 {W : World} {g : Nat} {A0 : Option Addr} {c0 : Nat} {f0 : List Int} {f1 : Int} (h : W.heap[g]? = some (.cells #[.slice A0 f0.length c0, .int .i64 f1] 66 (0, 0))) : W.cell? ⟨g, 1, none⟩ = some (.int .i64 f1) := (zJ h 1).trans rfl
theorem IsS66.set_1 {w0 W : World} {g : Nat} {f0 : List Int} {f1 : Int} (h : IsS66 w0 W g f0 f1) (x : Int) : IsS66 w0 (W.setCell ⟨g, 1, none⟩ (.int .i64 x)) g f0 x := by
 obtain ⟨A0, c0, hb, hg, hr0⟩ := h
 exact ⟨A0, c0, by simpa using blk_set hb 1 (.int .i64 x), hg, hr0⟩
theorem IsS66.new (w0 W : World) (A0 : Option Addr) (c0 : Nat) (f0 : List Int) (f1 : Int) (hB : Below w0.heap.size w0 W) (hr0 : Kd.C (Kd.int .u8) w0 A0 f0.length f0) : IsS66 w0 (W.alloc (.cells #[.slice A0 f0.length c0, .int .i64 f1] 66)) W.heap.size f0 f1 := ⟨A0, c0, by simpa using heap_alloc_new W _, hB.size, hr0⟩

def spec_l1Open.f (l0 : List Int) : Option (List Int × Int) := if (l0.length : Int) > 2000 then (if 2000 ≤ (l0.length : Int) then (some (l0.take 2000, 0)) else (none)) else (some (l0, 0))
set_option maxHeartbeats 8000000 in
set_option maxRecDepth 100000 in
theorem spec_l1Open.calls (A0 : Option Addr) (c0 : Nat) (l0 : List Int) (r1 : List Int) (r2 : Int) (w0 w : World) (hB : Below w0.heap.size w0 w) (hr0 : Kd.C (Kd.int .u8) w0 A0 l0.length l0) (hc0 : l0.length ≤ c0) (h : spec_l1Open.f l0 = some (r1, r2)) :
  Calls Tryd.prog 29 #[.slice A0 l0.length c0] w fun e w' => ∃ g_ : Nat, e = .returned (.pointer (some ⟨g_, 0, none⟩)) ∧ IsS66 w0 w' g_ r1 r2 ∧ Below w0.heap.size w0 w' ∧ Below w.heap.size w w' := by
 have hu66 := Tryd.underlying66
 have HR0 := zA hr0
 have HC0 := zA hc0
 clear hr0 hc0
 have HBW := zA (yG w.heap.size w)
 have HW0 := zA hB.size
 have HB := zA hB
 clear hB
 have H : (if (l0.length : Int) > 2000 then (if 2000 ≤ (l0.length : Int) then (some (l0.take 2000, 0)) else (none)) else (some (l0, 0))) = some (r1, r2) := h
 clear h
 by_cases c2 : (l0.length : Int) > 2000
 ·rw [if_pos c2] at H
  have c2b0 : decide (2000 < (l0.length : Int)) = true := yD c2
  have c2b1 : decide (2000 < l0.length) = true := yD (by omega)
  clear c2
  by_cases c3 : 2000 ≤ (l0.length : Int)
  ·rw [if_pos c3] at H
   have c3b0 := eq_true c3
   have c3b1 : decide (2000 ≤ (l0.length : Int)) = true := yD c3
   clear c3
   simp only [Option.some.injEq, Prod.mk.injEq] at H
   obtain ⟨rfl, rfl⟩ := H
   obtain ⟨i04, hi04, _, hsz4, _⟩ := info_parts info5
   obtain ⟨hcut4, hA4, hC4⟩ := print_take_of (P := Tryd.prog) (Value.int .u8) 0 37 5 .i64 Tryd.underlying37 hi04 hsz4 A0 c0 l0 2000 (by omega) (yE apC) HC0.out
   have HR101 := zA (Kd.C_of_reads (h1 := fun _ => rfl) (hA4 _ (Kd.reads_of_C HR0.out)))
   have HC101 := zA hC4
   clear hA4 hC4 hi04 hsz4
   go_enter Tryd.func29, Tryd.ntmps29
   go_wp2_with (first | ((with_reducible refine zT (N := 10) rfl ?_); refine zW ?hg (N := 10) ?hd (cs := #[.slice A0 (l0.take 2000).length c0, .int .i64 0]) (t := 66) ?hr ?_; (case hd => rfl); (case hg => rfl); (case hr => first | (go_simp; done) | (go_simp; rfl)); intro gb102 hg w5 hbox hb; replace HB := zA (zQ apA hb); have BK102 := zA (hbox); have GW102 := zA ((by rw [hg]; exact (zR (by repeat (first | (with_reducible first | exact HBW.out | apply zG | apply zE | apply zF) | exact HBW.out))) : w.heap.size ≤ gb102)); have GE102 := zA ((Nat.le_trans HW0.out (by rw [hg]; exact (zR (by repeat (first | (with_reducible first | exact HBW.out | apply zG | apply zE | apply zF) | exact HBW.out))) : w.heap.size ≤ gb102) : w0.heap.size ≤ gb102)); replace HBW := zA (zQ HBW.out hb); clear hb hbox hg))
   go_ret
   exact ⟨_, rfl, (show IsS66 w0 _ gb102 (l0.take 2000) 0 from ⟨_, _, by (with_reducible repeat (first | refine zB ?_ _ | refine zD ?_ | refine zC ?_ _)); exact BK102.out, GE102.out, HR101.out⟩), by repeat (first | (with_reducible first | exact HB.out | apply zG | apply zE | apply zF | refine zH ?_ GE102.out) | exact HB.out), by repeat (first | (with_reducible first | exact HBW.out | apply zG | apply zE | apply zF | refine zH ?_ GW102.out) | exact HBW.out)⟩
  ·rw [if_neg c3] at H
   exact absurd H (by simp)
 ·rw [if_neg c2] at H
  have c2b0 : decide (2000 < (l0.length : Int)) = false := decide_eq_false c2
  have c2b1 : decide (2000 < l0.length) = false := decide_eq_false (by omega)
  clear c2
  simp only [Option.some.injEq, Prod.mk.injEq] at H
  obtain ⟨rfl, rfl⟩ := H
  go_enter Tryd.func29, Tryd.ntmps29
  go_wp2_with (first | ((with_reducible refine zT (N := 10) rfl ?_); refine zW ?hg (N := 10) ?hd (cs := #[.slice A0 l0.length c0, .int .i64 0]) (t := 66) ?hr ?_; (case hd => rfl); (case hg => rfl); (case hr => first | (go_simp; done) | (go_simp; rfl)); intro gb103 hg w6 hbox hb; replace HB := zA (zQ apA hb); have BK103 := zA (hbox); have GW103 := zA ((by rw [hg]; exact (zR (by repeat (first | (with_reducible first | exact HBW.out | apply zG | apply zE | apply zF) | exact HBW.out))) : w.heap.size ≤ gb103)); have GE103 := zA ((Nat.le_trans HW0.out (by rw [hg]; exact (zR (by repeat (first | (with_reducible first | exact HBW.out | apply zG | apply zE | apply zF) | exact HBW.out))) : w.heap.size ≤ gb103) : w0.heap.size ≤ gb103)); replace HBW := zA (zQ HBW.out hb); clear hb hbox hg))
  go_ret
  exact ⟨_, rfl, (show IsS66 w0 _ gb103 l0 0 from ⟨_, _, by (with_reducible repeat (first | refine zB ?_ _ | refine zD ?_ | refine zC ?_ _)); exact BK103.out, GE103.out, HR0.out⟩), by repeat (first | (with_reducible first | exact HB.out | apply zG | apply zE | apply zF | refine zH ?_ GE103.out) | exact HB.out), by repeat (first | (with_reducible first | exact HBW.out | apply zG | apply zE | apply zF | refine zH ?_ GW103.out) | exact HBW.out)⟩


def spec_l1Rd_pick.j0 : Nat → Int → Bool → List Int → Int → Option (Int × Int)
 | 0, _, _, _, _ => none
 | k + 1, x1, x24, x1000, x1001 => if x24 = true then (some (0, x1001)) else (if (wrap64 (x1001 - 1)) < (x1000.length : Int) then (if 0 ≤ (wrap64 (x1001 - 1)) then (if x1 = 0 then (none) else (some (Int.tmod (wrap64 (rd x1000 (wrap64 (x1001 - 1)))) x1, x1001))) else (none)) else (if (x1000.length : Int) = 0 then (none) else (if 0 ≤ (Int.tmod (wrap64 (x1001 - 1)) (x1000.length : Int)) then (if (Int.tmod (wrap64 (x1001 - 1)) (x1000.length : Int)) < (x1000.length : Int) then (if 0 ≤ (Int.tmod (wrap64 ((wrap64 ((wrap64 (x1001 - 1)) * 7)) + 3)) (x1000.length : Int)) then (if (Int.tmod (wrap64 ((wrap64 ((wrap64 (x1001 - 1)) * 7)) + 3)) (x1000.length : Int)) < (x1000.length : Int) then (if x1 = 0 then (none) else (some (Int.tmod (Go.bits .xor .i64 (wrap64 ((wrap64 ((wrap64 ((wrap64 ((wrap64 (rd x1000 (Int.tmod (wrap64 (x1001 - 1)) (x1000.length : Int)))) * 131)) + (wrap64 ((wrap64 (rd x1000 (Int.tmod (wrap64 ((wrap64 ((wrap64 (x1001 - 1)) * 7)) + 3)) (x1000.length : Int)))) * 1117)))) + (wrap64 ((wrap64 (x1001 - 1)) * 29)))) + (wrap64 ((wrap64 (Int.tdiv (wrap64 (x1001 - 1)) (x1000.length : Int))) * 53)))) (wrap64 (Int.tdiv (wrap64 ((wrap64 ((wrap64 ((wrap64 ((wrap64 (rd x1000 (Int.tmod (wrap64 (x1001 - 1)) (x1000.length : Int)))) * 131)) + (wrap64 ((wrap64 (rd x1000 (Int.tmod (wrap64 ((wrap64 ((wrap64 (x1001 - 1)) * 7)) + 3)) (x1000.length : Int)))) * 1117)))) + (wrap64 ((wrap64 (x1001 - 1)) * 29)))) + (wrap64 ((wrap64 (Int.tdiv (wrap64 (x1001 - 1)) (x1000.length : Int))) * 53)))) 64))) x1, x1001))) else (none)) else (none)) else (none)) else (none))))
def spec_l1Rd_pick.f (k : Nat) (s0_0 : List Int) (s0_1 : Int) (a1 : Int) : Option (Int × Int) := if a1 < 1 then (spec_l1Rd_pick.j0 k a1 true s0_0 (wrap64 (s0_1 + 1))) else (spec_l1Rd_pick.j0 k a1 ((s0_0.length : Int) == 0) s0_0 (wrap64 (s0_1 + 1)))
theorem spec_l1Rd_pick.mono_l : ∀ k, (∀ y0 y1 y2 y3, LeO (spec_l1Rd_pick.j0 k y0 y1 y2 y3) (spec_l1Rd_pick.j0 (k + 1) y0 y1 y2 y3))
 | 0 => fun _ _ _ _ r h => by simp [spec_l1Rd_pick.j0] at h
 | k + 1 => by
  have ih0 := spec_l1Rd_pick.mono_l k
  ·intro y0 y1 y2 y3
   unfold spec_l1Rd_pick.j0
   repeat' first
   | (with_reducible exact ih0 _ _ _ _)
   | (with_reducible exact LeO.refl _)
   | (with_reducible exact LeO.none _)
   | (with_reducible refine LeO.ite ?_ ?_)
   | (with_reducible refine LeO.bind ?_ (fun _ => ?_))
   | exact ih0 _ _ _ _
theorem spec_l1Rd_pick.mono : ∀ a0 a1 a2 k, LeO (spec_l1Rd_pick.f k a0 a1 a2) (spec_l1Rd_pick.f (k + 1) a0 a1 a2) := by
 intro a0 a1 a2 k
 have ih0 := spec_l1Rd_pick.mono_l k
 unfold spec_l1Rd_pick.f
 repeat' first
   | (with_reducible exact ih0 _ _ _ _)
   | (with_reducible exact LeO.refl _)
   | (with_reducible exact LeO.none _)
   | (with_reducible refine LeO.ite ?_ ?_)
   | (with_reducible refine LeO.bind ?_ (fun _ => ?_))
   | exact ih0 _ _ _ _
set_option maxHeartbeats 8000000 in
set_option maxRecDepth 100000 in
theorem spec_l1Rd_pick.calls (k : Nat) (g : Nat) (s0_0 : List Int) (s0_1 : Int) (a1 : Int) (r1 : Int) (r2 : Int) (w0 w : World) (hI : IsS66 w0 w g s0_0 s0_1) (hB : Below w0.heap.size w0 w) (h : spec_l1Rd_pick.f k s0_0 s0_1 a1 = some (r1, r2)) :
  Calls Tryd.prog 30 #[.pointer (some ⟨g, 0, none⟩), .int .i64 a1] w fun e w' => e = .returned (.int .i64 r1) ∧ IsS66 w0 w' g s0_0 r2 ∧ Below w0.heap.size w0 w' ∧ KeepBut w w' g none := by
 have HI0 := zA hI
 have HK := zA (KeepBut.refl w g none)
 have HL := zA hB.size
 clear hI
 have HW0 := zA hB.size
 have HB := zA hB
 clear hB
 have H : (if a1 < 1 then (spec_l1Rd_pick.j0 k a1 true s0_0 (wrap64 (s0_1 + 1))) else (spec_l1Rd_pick.j0 k a1 ((s0_0.length : Int) == 0) s0_0 (wrap64 (s0_1 + 1)))) = some (r1, r2) := h
 clear h
 have HC3 := zA H
 clear H
 obtain ⟨ASz4_0, cSz4_0, HGz4, hgz4, HSz4_0⟩ := HI0.out
 have hcz4_0 := cellS66_0 HGz4
 have hcz4_1 := cellS66_1 HGz4
 have hfz4_1 := zK HGz4 1
 clear HGz4 hgz4
 go_enter Tryd.func30, Tryd.ntmps30
 go_upto_region 2 with (fail)
 repeat (go_quiet (fail); go_upto_region 2 with (fail))
 go_cut [24] (fun v24 wc => ∃ (kq : Nat) (x24_2 : Bool), v24 = .bool x24_2 ∧ Aside0 (spec_l1Rd_pick.j0 kq a1 x24_2 s0_0 (wrap64 (s0_1 + 1)) = some (r1, r2)) ∧ Aside0 (kq ≤ k) ∧ Aside0 (IsS66 w0 wc g s0_0 (wrap64 (s0_1 + 1))) ∧ Aside0 (KeepBut w wc g none) ∧ Aside0 (Below w0.heap.size w0 wc))
 case first =>
  have H := HC3.out
  clear HC3
  by_cases c5 : a1 < 1
  ·rw [if_pos c5] at H
   have c5b0 : decide (a1 < 1) = true := yD c5
   clear c5
   (first | rw [c5b0] | (simp only [i64_w, i32_w]; rw [c5b0]) | skip)
   have H' := zA H
   clear H
   go_wp2
   repeat (go_quiet (fail); try go_wp2)
   go_meet
   case rel => exact ⟨_, (true), apB, H', ⟨by first | omega | exact yH _⟩, ⟨apL⟩, ⟨apJ⟩, ⟨apb⟩⟩
  ·rw [if_neg c5] at H
   have c5b0 : decide (a1 < 1) = false := decide_eq_false c5
   clear c5
   (first | rw [c5b0] | (simp only [i64_w, i32_w]; rw [c5b0]) | skip)
   have H' := zA H
   clear H
   obtain ⟨ASz6_0, cSz6_0, HGz6, hgz6, HSz6_0⟩ := HI0.out
   have hcz6_0 := cellS66_0 HGz6
   have hcz6_1 := cellS66_1 HGz6
   have hfz6_1 := zK HGz6 1
   clear HGz6 hgz6
   go_wp2
   repeat (go_quiet (fail); try go_wp2)
   go_meet
   case rel => exact ⟨_, (((s0_0.length : Int) == 0)), apB, H', ⟨by first | omega | exact yH _⟩, ⟨apL⟩, ⟨apJ⟩, ⟨apb⟩⟩
 case rest =>
  clear HC3
  try clear p2 c3 c5 c5b0 p6 hcz4_0 hcz4_1 hcz6_0 hcz6_1 hfz4_1 hfz6_1
  obtain ⟨kq, x24_2, rfl, HA, HJ2, HI0, HK, HB⟩ := hcut
  cases kq with
  | zero => exact absurd HA.out (by simp [spec_l1Rd_pick.j0])
  | succ kj2 =>
   have H := HA.out
   clear HA
   simp only [spec_l1Rd_pick.j0] at H
   by_cases c7 : x24_2 = true
   ·subst c7
    have H1 : (some (0, (wrap64 (s0_1 + 1)))) = some (r1, r2) := by rw [if_pos rfl] at H; exact H
    clear H
    have H := H1
    clear H1
    simp only [Option.some.injEq, Prod.mk.injEq] at H
    obtain ⟨rfl, rfl⟩ := H
    go_wp2
    repeat (go_quiet (fail); try go_wp2)
    go_ret
    exact ⟨apE, apL, apb, apJ⟩
   ·replace c7 := Bool.eq_false_iff.mpr c7
    subst c7
    have H1 : (if (wrap64 ((wrap64 (s0_1 + 1)) - 1)) < (s0_0.length : Int) then (if 0 ≤ (wrap64 ((wrap64 (s0_1 + 1)) - 1)) then (if a1 = 0 then (none) else (some (Int.tmod (wrap64 (rd s0_0 (wrap64 ((wrap64 (s0_1 + 1)) - 1)))) a1, (wrap64 (s0_1 + 1))))) else (none)) else (if (s0_0.length : Int) = 0 then (none) else (if 0 ≤ (Int.tmod (wrap64 ((wrap64 (s0_1 + 1)) - 1)) (s0_0.length : Int)) then (if (Int.tmod (wrap64 ((wrap64 (s0_1 + 1)) - 1)) (s0_0.length : Int)) < (s0_0.length : Int) then (if 0 ≤ (Int.tmod (wrap64 ((wrap64 ((wrap64 ((wrap64 (s0_1 + 1)) - 1)) * 7)) + 3)) (s0_0.length : Int)) then (if (Int.tmod (wrap64 ((wrap64 ((wrap64 ((wrap64 (s0_1 + 1)) - 1)) * 7)) + 3)) (s0_0.length : Int)) < (s0_0.length : Int) then (if a1 = 0 then (none) else (some (Int.tmod (Go.bits .xor .i64 (wrap64 ((wrap64 ((wrap64 ((wrap64 ((wrap64 (rd s0_0 (Int.tmod (wrap64 ((wrap64 (s0_1 + 1)) - 1)) (s0_0.length : Int)))) * 131)) + (wrap64 ((wrap64 (rd s0_0 (Int.tmod (wrap64 ((wrap64 ((wrap64 ((wrap64 (s0_1 + 1)) - 1)) * 7)) + 3)) (s0_0.length : Int)))) * 1117)))) + (wrap64 ((wrap64 ((wrap64 (s0_1 + 1)) - 1)) * 29)))) + (wrap64 ((wrap64 (Int.tdiv (wrap64 ((wrap64 (s0_1 + 1)) - 1)) (s0_0.length : Int))) * 53)))) (wrap64 (Int.tdiv (wrap64 ((wrap64 ((wrap64 ((wrap64 ((wrap64 (rd s0_0 (Int.tmod (wrap64 ((wrap64 (s0_1 + 1)) - 1)) (s0_0.length : Int)))) * 131)) + (wrap64 ((wrap64 (rd s0_0 (Int.tmod (wrap64 ((wrap64 ((wrap64 ((wrap64 (s0_1 + 1)) - 1)) * 7)) + 3)) (s0_0.length : Int)))) * 1117)))) + (wrap64 ((wrap64 ((wrap64 (s0_1 + 1)) - 1)) * 29)))) + (wrap64 ((wrap64 (Int.tdiv (wrap64 ((wrap64 (s0_1 + 1)) - 1)) (s0_0.length : Int))) * 53)))) 64))) a1, (wrap64 (s0_1 + 1))))) else (none)) else (none)) else (none)) else (none)))) = some (r1, r2) := by rw [if_neg (show ¬ (false = true) by decide)] at H; exact H
    clear H
    have H := H1
    clear H1
    by_cases c8 : (wrap64 ((wrap64 (s0_1 + 1)) - 1)) < (s0_0.length : Int)
    ·rw [if_pos c8] at H
     have c8b0 : decide ((wrap64 ((wrap64 (s0_1 + 1)) - 1)) < (s0_0.length : Int)) = true := yD c8
     clear c8
     obtain ⟨ji9, hji9⟩ : ∃ j_ : Int, (wrap64 ((wrap64 (s0_1 + 1)) - 1)) = j_ := ⟨_, rfl⟩
     replace H : (if 0 ≤ (ji9) then (if a1 = 0 then (none) else (some (Int.tmod (wrap64 (rd s0_0 (ji9))) a1, (wrap64 (s0_1 + 1))))) else (none)) = some (r1, r2) := by first | (rw [hji9] at H; exact H) | (simp only [hji9] at H ⊢; exact H)
     (try rw [hji9] at c8b0)
     have hji9w : (IntKind.i64.wrap ((wrap64 (s0_1 + 1)) - 1)) = ji9 := (i64_w _).trans hji9
     by_cases c10 : 0 ≤ (ji9)
     ·rw [if_pos c10] at H
      have c10b0 : decide (0 ≤ (ji9)) = true := yD c10
      clear c10
      by_cases c11 : a1 = 0
      ·rw [if_pos c11] at H
       exact absurd H (by simp)
      ·rw [if_neg c11] at H
       have c11b0 : (a1 == 0) = false := beq_eq_false_iff_ne.mpr c11
       have c11b1 : (a1 != 0) = true := bne_iff_ne.mpr c11
       simp only [Option.some.injEq, Prod.mk.injEq] at H
       obtain ⟨rfl, rfl⟩ := H
       obtain ⟨ASz12_0, cSz12_0, HGz12, hgz12, HSz12_0⟩ := HI0.out
       have hcz12_0 := cellS66_0 HGz12
       have hcz12_1 := cellS66_1 HGz12
       have hfz12_1 := zK HGz12 1
       clear HGz12 hgz12
       have p104 : 0 ≤ ((ji9) : Int) := yE apC
       have q104 : (ji9) < (s0_0.length : Int) := yE apC
       obtain ⟨ad104, e104, hx104_0⟩ := Kd.at_int HSz12_0 (ji9) p104 q104
       cases e104
       replace hx104_0 := pw_cell_below HB.out hx104_0
       replace p104 := eq_true p104
       replace q104 := eq_true q104
       go_wp2
       repeat (go_quiet (fail); try go_wp2)
       go_ret
       exact ⟨by first | rfl | (simp [errW_none, errW_some] <;> rfl) | (simp only [← hji9]; first | rfl | (simp [errW_none, errW_some] <;> rfl)) | (simp [*, errW_none, errW_some] <;> rfl), apL, apb, apJ⟩
     ·rw [if_neg c10] at H
      exact absurd H (by simp)
    ·rw [if_neg c8] at H
     have c8b0 : decide ((wrap64 ((wrap64 (s0_1 + 1)) - 1)) < (s0_0.length : Int)) = false := decide_eq_false c8
     clear c8
     by_cases c13 : (s0_0.length : Int) = 0
     ·rw [if_pos c13] at H
      exact absurd H (by simp)
     ·rw [if_neg c13] at H
      have c13b0 : ((s0_0.length : Int) == 0) = false := beq_eq_false_iff_ne.mpr c13
      have c13b1 : ((s0_0.length : Int) != 0) = true := bne_iff_ne.mpr c13
      have c13b2 : ¬ (s0_0 = []) := fun h_ => c13 (by rw [h_]; rfl)
      obtain ⟨ji14, hji14⟩ : ∃ j_ : Int, (Int.tmod (wrap64 ((wrap64 (s0_1 + 1)) - 1)) (s0_0.length : Int)) = j_ := ⟨_, rfl⟩
      replace H : (if 0 ≤ (ji14) then (if (ji14) < (s0_0.length : Int) then (if 0 ≤ (Int.tmod (wrap64 ((wrap64 ((wrap64 ((wrap64 (s0_1 + 1)) - 1)) * 7)) + 3)) (s0_0.length : Int)) then (if (Int.tmod (wrap64 ((wrap64 ((wrap64 ((wrap64 (s0_1 + 1)) - 1)) * 7)) + 3)) (s0_0.length : Int)) < (s0_0.length : Int) then (if a1 = 0 then (none) else (some (Int.tmod (Go.bits .xor .i64 (wrap64 ((wrap64 ((wrap64 ((wrap64 ((wrap64 (rd s0_0 (ji14))) * 131)) + (wrap64 ((wrap64 (rd s0_0 (Int.tmod (wrap64 ((wrap64 ((wrap64 ((wrap64 (s0_1 + 1)) - 1)) * 7)) + 3)) (s0_0.length : Int)))) * 1117)))) + (wrap64 ((wrap64 ((wrap64 (s0_1 + 1)) - 1)) * 29)))) + (wrap64 ((wrap64 (Int.tdiv (wrap64 ((wrap64 (s0_1 + 1)) - 1)) (s0_0.length : Int))) * 53)))) (wrap64 (Int.tdiv (wrap64 ((wrap64 ((wrap64 ((wrap64 ((wrap64 (rd s0_0 (ji14))) * 131)) + (wrap64 ((wrap64 (rd s0_0 (Int.tmod (wrap64 ((wrap64 ((wrap64 ((wrap64 (s0_1 + 1)) - 1)) * 7)) + 3)) (s0_0.length : Int)))) * 1117)))) + (wrap64 ((wrap64 ((wrap64 (s0_1 + 1)) - 1)) * 29)))) + (wrap64 ((wrap64 (Int.tdiv (wrap64 ((wrap64 (s0_1 + 1)) - 1)) (s0_0.length : Int))) * 53)))) 64))) a1, (wrap64 (s0_1 + 1))))) else (none)) else (none)) else (none)) else (none)) = some (r1, r2) := by first | (rw [hji14] at H; exact H) | (simp only [hji14] at H ⊢; exact H)
      by_cases c15 : 0 ≤ (ji14)
      ·rw [if_pos c15] at H
       have c15b0 : decide (0 ≤ (ji14)) = true := yD c15
       clear c15
       by_cases c16 : (ji14) < (s0_0.length : Int)
       ·rw [if_pos c16] at H
        have c16b0 : decide ((ji14) < (s0_0.length : Int)) = true := yD c16
        clear c16
        obtain ⟨ji17, hji17⟩ : ∃ j_ : Int, (Int.tmod (wrap64 ((wrap64 ((wrap64 ((wrap64 (s0_1 + 1)) - 1)) * 7)) + 3)) (s0_0.length : Int)) = j_ := ⟨_, rfl⟩
        replace H : (if 0 ≤ (ji17) then (if (ji17) < (s0_0.length : Int) then (if a1 = 0 then (none) else (some (Int.tmod (Go.bits .xor .i64 (wrap64 ((wrap64 ((wrap64 ((wrap64 ((wrap64 (rd s0_0 (ji14))) * 131)) + (wrap64 ((wrap64 (rd s0_0 (ji17))) * 1117)))) + (wrap64 ((wrap64 ((wrap64 (s0_1 + 1)) - 1)) * 29)))) + (wrap64 ((wrap64 (Int.tdiv (wrap64 ((wrap64 (s0_1 + 1)) - 1)) (s0_0.length : Int))) * 53)))) (wrap64 (Int.tdiv (wrap64 ((wrap64 ((wrap64 ((wrap64 ((wrap64 (rd s0_0 (ji14))) * 131)) + (wrap64 ((wrap64 (rd s0_0 (ji17))) * 1117)))) + (wrap64 ((wrap64 ((wrap64 (s0_1 + 1)) - 1)) * 29)))) + (wrap64 ((wrap64 (Int.tdiv (wrap64 ((wrap64 (s0_1 + 1)) - 1)) (s0_0.length : Int))) * 53)))) 64))) a1, (wrap64 (s0_1 + 1))))) else (none)) else (none)) = some (r1, r2) := by first | (rw [hji17] at H; exact H) | (simp only [hji17] at H ⊢; exact H)
        by_cases c18 : 0 ≤ (ji17)
        ·rw [if_pos c18] at H
         have c18b0 : decide (0 ≤ (ji17)) = true := yD c18
         clear c18
         by_cases c19 : (ji17) < (s0_0.length : Int)
         ·rw [if_pos c19] at H
          have c19b0 : decide ((ji17) < (s0_0.length : Int)) = true := yD c19
          clear c19
          by_cases c20 : a1 = 0
          ·rw [if_pos c20] at H
           exact absurd H (by simp)
          ·rw [if_neg c20] at H
           have c20b0 : (a1 == 0) = false := beq_eq_false_iff_ne.mpr c20
           have c20b1 : (a1 != 0) = true := bne_iff_ne.mpr c20
           simp only [Option.some.injEq, Prod.mk.injEq] at H
           obtain ⟨rfl, rfl⟩ := H
           obtain ⟨ASz21_0, cSz21_0, HGz21, hgz21, HSz21_0⟩ := HI0.out
           have hcz21_0 := cellS66_0 HGz21
           have hcz21_1 := cellS66_1 HGz21
           have hfz21_1 := zK HGz21 1
           clear HGz21 hgz21
           have p105 : 0 ≤ ((ji14) : Int) := yE apC
           have q105 : (ji14) < (s0_0.length : Int) := yE apC
           obtain ⟨ad105, e105, hx105_0⟩ := Kd.at_int HSz21_0 (ji14) p105 q105
           cases e105
           replace hx105_0 := pw_cell_below HB.out hx105_0
           replace p105 := eq_true p105
           replace q105 := eq_true q105
           have p106 : 0 ≤ ((ji17) : Int) := yE apC
           have q106 : (ji17) < (s0_0.length : Int) := yE apC
           obtain ⟨ad106, e106, hx106_0⟩ := Kd.at_int HSz21_0 (ji17) p106 q106
           obtain rfl : ad105 = ad106 := (by injection e106)
           replace hx106_0 := pw_cell_below HB.out hx106_0
           replace p106 := eq_true p106
           replace q106 := eq_true q106
           go_wp2
           repeat (go_quiet (fail); try go_wp2)
           go_ret
           exact ⟨by first | rfl | (simp [errW_none, errW_some] <;> rfl) | (simp only [← hji14, ← hji17]; first | rfl | (simp [errW_none, errW_some] <;> rfl)) | (simp [*, errW_none, errW_some] <;> rfl), apL, apb, apJ⟩
         ·rw [if_neg c19] at H
          exact absurd H (by simp)
        ·rw [if_neg c18] at H
         exact absurd H (by simp)
       ·rw [if_neg c16] at H
        exact absurd H (by simp)
      ·rw [if_neg c15] at H
       exact absurd H (by simp)


def spec_l1Rd_one.f (k : Nat) (s0_0 : List Int) (s0_1 : Int) (l1 : List Int) : Option (Int × Int) := (spec_l1Rd_pick.f k s0_0 s0_1 (l1.length : Int)).bind fun bt107 => (if 0 ≤ bt107.1 then (if bt107.1 < (l1.length : Int) then (some (rd l1 bt107.1, bt107.2)) else (none)) else (none))
theorem spec_l1Rd_one.mono : ∀ a0 a1 a2 k, LeO (spec_l1Rd_one.f k a0 a1 a2) (spec_l1Rd_one.f (k + 1) a0 a1 a2) := by
 intro a0 a1 a2 k
 unfold spec_l1Rd_one.f
 repeat' first
   | (with_reducible exact spec_l1Rd_pick.mono _ _ _ _)
   | (with_reducible exact LeO.refl _)
   | (with_reducible exact LeO.none _)
   | (with_reducible refine LeO.ite ?_ ?_)
   | (with_reducible refine LeO.bind ?_ (fun _ => ?_))
set_option maxHeartbeats 8000000 in
set_option maxRecDepth 100000 in
theorem spec_l1Rd_one.calls (k : Nat) (g : Nat) (s0_0 : List Int) (s0_1 : Int) (A1 : Option Addr) (c1 : Nat) (l1 : List Int) (r1 : Int) (r2 : Int) (w0 w : World) (hI : IsS66 w0 w g s0_0 s0_1) (hB : Below w0.heap.size w0 w) (hr1 : Kd.C (Kd.int .i64) w A1 l1.length l1) (hc1 : l1.length ≤ c1) (hf1 : ∀ ad, A1 = some ad → 0 < l1.length → ad.block ≠ g) (h : spec_l1Rd_one.f k s0_0 s0_1 l1 = some (r1, r2)) :
  Calls Tryd.prog 40 #[.pointer (some ⟨g, 0, none⟩), .slice A1 l1.length c1] w fun e w' => e = .returned (.int .i64 r1) ∧ IsS66 w0 w' g s0_0 r2 ∧ Below w0.heap.size w0 w' ∧ KeepBut w w' g none := by
 have HR1 := zA hr1
 have HC1 := zA hc1
 clear hr1 hc1
 have HI0 := zA hI
 have HK := zA (KeepBut.refl w g none)
 have HL := zA hB.size
 clear hI
 have HW0 := zA hB.size
 have HB := zA hB
 clear hB
 have H : ((spec_l1Rd_pick.f k s0_0 s0_1 (l1.length : Int)).bind fun bt107 => (if 0 ≤ bt107.1 then (if bt107.1 < (l1.length : Int) then (some (rd l1 bt107.1, bt107.2)) else (none)) else (none))) = some (r1, r2) := h
 clear h
 replace H := Option.bind_eq_some_iff.mp H
 obtain ⟨⟨t107, t108⟩, A30, H⟩ := H
 replace H : (if 0 ≤ t107 then (if t107 < (l1.length : Int) then (some (rd l1 t107, t108)) else (none)) else (none)) = some (r1, r2) := H
 have A3 := zA A30
 clear A30
 by_cases c4 : 0 ≤ t107
 ·rw [if_pos c4] at H
  have c4b0 : decide (0 ≤ t107) = true := yD c4
  clear c4
  by_cases c5 : t107 < (l1.length : Int)
  ·rw [if_pos c5] at H
   have c5b0 : decide (t107 < (l1.length : Int)) = true := yD c5
   clear c5
   simp only [Option.some.injEq, Prod.mk.injEq] at H
   obtain ⟨rfl, rfl⟩ := H
   go_enter Tryd.func40, Tryd.ntmps40
   go_wp2_with (first | ((with_reducible refine zV (f := 30) rfl ?_); refine goesL_ (some 9) rfl rfl Tryd.func30 (by kernel_rfl) rfl #[.pointer (some ⟨g, 0, none⟩), .int .i64 (l1.length : Int)] rfl apD ?_; (with_reducible refine (spec_l1Rd_pick.calls k g s0_0 s0_1 (l1.length : Int) t107 t108 w0 _ ?side1 ?side2 A3.out).mono ?_); (case side1 => repeat (first | (with_reducible first | exact HI0.out | apply IsS66.alloc | apply IsS66.drewN | apply IsS66.drew | apply IsS66.set_1) | exact HI0.out)); (case side2 => repeat (first | (with_reducible first | exact HB.out | apply zG | apply zE | apply zF | refine zH ?_ (IsS66.ge HI0.out)) | exact HB.out)); rintro e w6 ⟨rfl, hi, hb, hk⟩; refine ⟨_, rfl, ?_⟩; replace HK := zA (KeepBut.trans apJ hk (.inl rfl)); replace HB := zA (hb); replace HI0 := zA (hi); (try clear hb); (try clear hb2); (try clear hk); (try clear hi); have p109 : 0 ≤ (t107 : Int) := yE apC; have q109 : t107 < (l1.length : Int) := yE apC; obtain ⟨ad109, e109, hx109_0⟩ := Kd.at_int HR1.out t107 p109 q109; cases e109; replace hx109_0 := keep_cell HK.out hx109_0 (by first | (rw [add_block]; exact hf1 _ rfl (by omega)) | exact hf1 _ rfl (by omega) | exact hf1 ad109 rfl (by omega)); replace p109 := eq_true p109; replace q109 := eq_true q109))
   go_ret
   exact ⟨apE, apL, apb, apJ⟩
  ·rw [if_neg c5] at H
   exact absurd H (by simp)
 ·rw [if_neg c4] at H
  exact absurd H (by simp)


def spec_l1New.l0 : Nat → Int → Int → Option (Int × Int × Bool)
 | 0, _, _ => none
 | k + 1, x0, x1 => if (Int.tmod x0 10) = 0 then (spec_l1New.l0 k (wrap64 (Int.tdiv x0 10)) (wrap64 (x1 + 1))) else ((spec_DecOk.f x0 x1).bind fun t115 => (if t115 = true then (some (x0, x1, true)) else (some (0, 0, false))))
def spec_l1New.f (k : Nat) (a0 : Int) (a1 : Int) : Option (Int × Int × Bool) := if a0 = 0 then (some (0, 0, true)) else (spec_l1New.l0 k a0 a1)
theorem spec_l1New.mono_l : ∀ k, (∀ y0 y1, LeO (spec_l1New.l0 k y0 y1) (spec_l1New.l0 (k + 1) y0 y1))
 | 0 => fun _ _ r h => by simp [spec_l1New.l0] at h
 | k + 1 => by
  have ih0 := spec_l1New.mono_l k
  ·intro y0 y1
   unfold spec_l1New.l0
   repeat' first
   | (with_reducible exact ih0 _ _)
   | (with_reducible exact LeO.refl _)
   | (with_reducible exact LeO.none _)
   | (with_reducible refine LeO.ite ?_ ?_)
   | (with_reducible refine LeO.bind ?_ (fun _ => ?_))
   | exact ih0 _ _
theorem spec_l1New.mono : ∀ a0 a1 k, LeO (spec_l1New.f k a0 a1) (spec_l1New.f (k + 1) a0 a1) := by
 intro a0 a1 k
 have ih0 := spec_l1New.mono_l k
 unfold spec_l1New.f
 repeat' first
   | (with_reducible exact ih0 _ _)
   | (with_reducible exact LeO.refl _)
   | (with_reducible exact LeO.none _)
   | (with_reducible refine LeO.ite ?_ ?_)
   | (with_reducible refine LeO.bind ?_ (fun _ => ?_))
   | exact ih0 _ _
set_option maxHeartbeats 8000000 in
set_option maxRecDepth 100000 in
theorem spec_l1New.calls (k : Nat) (a0 : Int) (a1 : Int) (r1 : Int) (r2 : Int) (r3 : Bool) (w : World) (h : spec_l1New.f k a0 a1 = some (r1, r2, r3)) :
  Calls Tryd.prog 70 #[.int .i64 a0, .int .i64 a1] w fun e w' => e = .returned (.tuple #[.agg #[.int .i64 r1, .int .i64 r2], .bool r3]) ∧ Below w.heap.size w w' := by
 have hu30 := Tryd.underlying30
 have HB := zA (yG w.heap.size w)
 have H : (if a0 = 0 then (some (0, 0, true)) else (spec_l1New.l0 k a0 a1)) = some (r1, r2, r3) := h
 clear h
 by_cases c3 : a0 = 0
 ·rw [if_pos c3] at H
  have c3b0 : (a0 == 0) = true := beq_iff_eq.mpr c3
  have c3b1 : (a0 != 0) = false := bne_eq_false_iff_eq.mpr c3
  clear c3
  simp only [Option.some.injEq, Prod.mk.injEq] at H
  obtain ⟨rfl, rfl, rfl⟩ := H
  go_enter Tryd.func70, Tryd.ntmps70
  go_wp2_with (first | ((with_reducible refine zT (N := 4) rfl ?_); refine zW ?hg (N := 4) ?hd (cs := #[.int .i64 0, .int .i64 0]) (t := 30) ?hr ?_; (case hd => rfl); (case hg => rfl); (case hr => first | (go_simp; done) | (go_simp; rfl)); intro gb113 hg w4 hbox hb; have BK113 := zA (hbox); have GW113 := zA ((by rw [hg]; exact (zR apA) : w.heap.size ≤ gb113)); have GE113 := zA ((by rw [hg]; exact (zR apA) : w.heap.size ≤ gb113)); replace HB := zA (zQ apA hb); clear hb hbox hg; obtain ⟨hcz5_0, hcz5_1, hfz5_0, hfz5_1⟩ := zb2 BK113.out))
  refine bodyPost_ret (results_ct rfl _ _ gb113 30 #[.int .i64 0, .int .i64 0] (0, 0) _ rfl (by (with_reducible repeat (first | refine zB ?_ _ | refine zD ?_ | refine zC ?_ _)); refine blk_put (cs := #[.int .i64 0, .int .i64 0]) ?_ 1 _ rfl; (with_reducible repeat (first | refine zB ?_ _ | refine zD ?_ | refine zC ?_ _)); refine blk_put (cs := #[.int .i64 0, .int .i64 0]) ?_ 0 _ rfl; (with_reducible repeat (first | refine zB ?_ _ | refine zD ?_ | refine zC ?_ _)); exact BK113.out) Tryd.underlying30 rfl (by kernel_rfl)) rfl ?_
  exact ⟨apE, by repeat (first | (with_reducible first | exact HB.out | apply zG | apply zE | apply zF | refine zH ?_ GE113.out) | exact HB.out)⟩
 ·rw [if_neg c3] at H
  have c3b0 : (a0 == 0) = false := beq_eq_false_iff_ne.mpr c3
  have c3b1 : (a0 != 0) = true := bne_iff_ne.mpr c3
  have H' := zA H
  clear H
  go_enter Tryd.func70, Tryd.ntmps70
  go_wp2_with (first | ((with_reducible refine zT (N := 4) rfl ?_); refine zW ?hg (N := 4) ?hd (cs := #[.int .i64 0, .int .i64 0]) (t := 30) ?hr ?_; (case hd => rfl); (case hg => rfl); (case hr => first | (go_simp; done) | (go_simp; rfl)); intro gb113 hg w6 hbox hb; have BK113 := zA (hbox); have GW113 := zA ((by rw [hg]; exact (zR apA) : w.heap.size ≤ gb113)); have GE113 := zA ((by rw [hg]; exact (zR apA) : w.heap.size ≤ gb113)); replace HB := zA (zQ apA hb); clear hb hbox hg))
  go_loopg [0, 1] k (fun kq v0 v1 w' => ∃ (x0_1 : Int) (x1_1 : Int), v0 = .int .i64 x0_1 ∧ v1 = .int .i64 x1_1 ∧ Aside0 (spec_l1New.l0 kq x0_1 x1_1 = some (r1, r2, r3)) ∧ Aside0 (kq ≤ k) ∧ Aside0 (w'.heap[gb113]? = some (.cells #[.int .i64 0, .int .i64 0] 30 (0, 0))) ∧ Aside0 (Below w.heap.size w w'))
  case atStart => exact ⟨(a0), (a1), apB, apB, H', ⟨yH _⟩, ⟨by (with_reducible repeat (first | refine zB ?_ _ | refine zD ?_ | refine zC ?_ _)); exact BK113.out⟩, ⟨by repeat (first | (with_reducible first | exact HB.out | apply zG | apply zE | apply zF | refine zH ?_ GE113.out) | exact HB.out)⟩⟩
  case round =>
   clear H'
   try clear p2 c3 c3b0 c3b1 hcz5_0 hcz5_1 hfz5_0 hfz5_1
   obtain ⟨x0_1, x1_1, rfl, rfl, HA, HK1, BK113, HB⟩ := hrel
   cases gk with
   | zero => exact absurd HA.out (by simp [spec_l1New.l0])
   | succ k1 =>
    have H := HA.out
    clear HA
    simp only [spec_l1New.l0] at H
    by_cases c7 : (Int.tmod x0_1 10) = 0
    ·rw [if_pos c7] at H
     have c7b0 : ((Int.tmod x0_1 10) == 0) = true := beq_iff_eq.mpr c7
     have c7b1 : ((Int.tmod x0_1 10) != 0) = false := bne_eq_false_iff_eq.mpr c7
     clear c7
     have H' := zA H
     clear H
     go_wp2
     go_roundg k1
     case measure => have := HK1.out; omega
     case rel => exact ⟨(wrap64 (Int.tdiv x0_1 10)), (wrap64 (x1_1 + 1)), apB, apB, H', ⟨by have := HK1.out; omega⟩, ⟨by (with_reducible repeat (first | refine zB ?_ _ | refine zD ?_ | refine zC ?_ _)); exact BK113.out⟩, ⟨by repeat (first | (with_reducible first | exact HB.out | apply zG | apply zE | apply zF | refine zH ?_ GE113.out) | exact HB.out)⟩⟩
    ·rw [if_neg c7] at H
     have c7b0 : ((Int.tmod x0_1 10) == 0) = false := beq_eq_false_iff_ne.mpr c7
     have c7b1 : ((Int.tmod x0_1 10) != 0) = true := bne_iff_ne.mpr c7
     replace H := Option.bind_eq_some_iff.mp H
     obtain ⟨t115, A80, H⟩ := H
     replace H : (if t115 = true then (some (x0_1, x1_1, true)) else (some (0, 0, false))) = some (r1, r2, r3) := H
     have A8 := zA A80
     clear A80
     by_cases c9 : t115 = true
     ·subst c9
      have H1 : (some (x0_1, x1_1, true)) = some (r1, r2, r3) := by rw [if_pos rfl] at H; exact H
      clear H
      have H := H1
      clear H1
      simp only [Option.some.injEq, Prod.mk.injEq] at H
      obtain ⟨rfl, rfl, rfl⟩ := H
      go_wp2_with (first | ((with_reducible refine zT (N := 6) rfl ?_); refine zW ?hg (N := 6) ?hd (cs := #[.int .i64 0, .int .i64 0]) (t := 30) ?hr ?_; (case hd => rfl); (case hg => rfl); (case hr => first | (go_simp; done) | (go_simp; rfl)); intro gb114 hg w10 hbox hb; have BK114 := zA (hbox); have GW114 := zA ((by rw [hg]; exact (zR (by repeat (first | (with_reducible first | exact HB.out | apply zG | apply zE | apply zF | refine zH ?_ GE113.out) | exact HB.out))) : w.heap.size ≤ gb114)); have GE114 := zA ((by rw [hg]; exact (zR (by repeat (first | (with_reducible first | exact HB.out | apply zG | apply zE | apply zF | refine zH ?_ GE113.out) | exact HB.out))) : w.heap.size ≤ gb114)); replace HB := zA (zQ (by repeat (first | (with_reducible first | exact HB.out | apply zG | apply zE | apply zF | refine zH ?_ GE113.out) | exact HB.out)) hb); have NB113_114 := zA ((by rw [hg]; exact Nat.ne_of_lt (blk_lt (g := gb113) (o := .cells #[.int .i64 0, .int .i64 0] 30 (0, 0)) (by (with_reducible repeat (first | refine zB ?_ _ | refine zD ?_ | refine zC ?_ _)); exact BK113.out)) : gb113 ≠ gb114)); have NB114_113 := zA ((by rw [hg]; exact Nat.ne_of_gt (blk_lt (g := gb113) (o := .cells #[.int .i64 0, .int .i64 0] 30 (0, 0)) (by (with_reducible repeat (first | refine zB ?_ _ | refine zD ?_ | refine zC ?_ _)); exact BK113.out)) : gb114 ≠ gb113)); replace BK113 := zA (zP (g := gb113) (o := .cells #[.int .i64 0, .int .i64 0] 30 (0, 0)) (by (with_reducible repeat (first | refine zB ?_ _ | refine zD ?_ | refine zC ?_ _)); exact BK113.out) hb); clear hb hbox hg; have hnb11 := NB114_113.out; have hnc11 := NB113_114.out; obtain ⟨hcz12_0, hcz12_1, hfz12_0, hfz12_1⟩ := zb2 BK114.out) | ((with_reducible refine zV (f := 49) rfl ?_); refine goesL_ (some 21) rfl rfl Tryd.func49 (by kernel_rfl) rfl #[.agg #[.int .i64 x0_1, .int .i64 x1_1]] rfl apD ?_; (with_reducible refine (spec_DecOk.calls x0_1 x1_1 true _ A8.out).mono ?_); rintro e w13 ⟨rfl, hb⟩; refine ⟨_, rfl, ?_⟩; replace BK113 := zA (zP (g := gb113) (o := .cells #[.int .i64 0, .int .i64 0] 30 (0, 0)) (by (with_reducible repeat (first | refine zB ?_ _ | refine zD ?_ | refine zC ?_ _)); refine blk_far ?_ NB113_114.out _; (with_reducible repeat (first | refine zB ?_ _ | refine zD ?_ | refine zC ?_ _)); refine blk_far ?_ NB113_114.out _; (with_reducible repeat (first | refine zB ?_ _ | refine zD ?_ | refine zC ?_ _)); exact BK113.out) hb); replace BK114 := zA (zP (g := gb114) (o := .cells #[.int .i64 x0_1, .int .i64 x1_1] 30 (0, 0)) (by (with_reducible repeat (first | refine zB ?_ _ | refine zD ?_ | refine zC ?_ _)); refine blk_put (cs := #[.int .i64 x0_1, .int .i64 0]) ?_ 1 _ rfl; (with_reducible repeat (first | refine zB ?_ _ | refine zD ?_ | refine zC ?_ _)); refine blk_put (cs := #[.int .i64 0, .int .i64 0]) ?_ 0 _ rfl; (with_reducible repeat (first | refine zB ?_ _ | refine zD ?_ | refine zC ?_ _)); exact BK114.out) hb); replace HB := zA (zQ (by repeat (first | (with_reducible first | exact HB.out | apply zG | apply zE | apply zF | refine zH ?_ GE113.out | refine zH ?_ GE114.out) | exact HB.out)) hb); (try clear hb); (try clear hb2); (try clear hk); (try clear hi); obtain ⟨hcz14_0, hcz14_1, hfz14_0, hfz14_1⟩ := zb2 BK114.out; obtain ⟨hcz15_0, hcz15_1, hfz15_0, hfz15_1⟩ := zb2 BK113.out))
      refine bodyPost_ret (results_ct rfl _ _ gb113 30 #[.int .i64 x0_1, .int .i64 x1_1] (0, 0) _ rfl (by (with_reducible repeat (first | refine zB ?_ _ | refine zD ?_ | refine zC ?_ _)); refine blk_put (cs := #[.int .i64 x0_1, .int .i64 0]) ?_ 1 _ rfl; (with_reducible repeat (first | refine zB ?_ _ | refine zD ?_ | refine zC ?_ _)); refine blk_put (cs := #[.int .i64 0, .int .i64 0]) ?_ 0 _ rfl; (with_reducible repeat (first | refine zB ?_ _ | refine zD ?_ | refine zC ?_ _)); exact BK113.out) Tryd.underlying30 rfl (by kernel_rfl)) rfl ?_
      exact ⟨apE, by repeat (first | (with_reducible first | exact HB.out | apply zG | apply zE | apply zF | refine zH ?_ GE113.out | refine zH ?_ GE114.out) | exact HB.out)⟩
     ·replace c9 := Bool.eq_false_iff.mpr c9
      subst c9
      have H1 : (some (0, 0, false)) = some (r1, r2, r3) := by rw [if_neg (show ¬ (false = true) by decide)] at H; exact H
      clear H
      have H := H1
      clear H1
      simp only [Option.some.injEq, Prod.mk.injEq] at H
      obtain ⟨rfl, rfl, rfl⟩ := H
      go_wp2_with (first | ((with_reducible refine zT (N := 6) rfl ?_); refine zW ?hg (N := 6) ?hd (cs := #[.int .i64 0, .int .i64 0]) (t := 30) ?hr ?_; (case hd => rfl); (case hg => rfl); (case hr => first | (go_simp; done) | (go_simp; rfl)); intro gb114 hg w16 hbox hb; have BK114 := zA (hbox); have GW114 := zA ((by rw [hg]; exact (zR (by repeat (first | (with_reducible first | exact HB.out | apply zG | apply zE | apply zF | refine zH ?_ GE113.out) | exact HB.out))) : w.heap.size ≤ gb114)); have GE114 := zA ((by rw [hg]; exact (zR (by repeat (first | (with_reducible first | exact HB.out | apply zG | apply zE | apply zF | refine zH ?_ GE113.out) | exact HB.out))) : w.heap.size ≤ gb114)); replace HB := zA (zQ (by repeat (first | (with_reducible first | exact HB.out | apply zG | apply zE | apply zF | refine zH ?_ GE113.out) | exact HB.out)) hb); have NB113_114 := zA ((by rw [hg]; exact Nat.ne_of_lt (blk_lt (g := gb113) (o := .cells #[.int .i64 0, .int .i64 0] 30 (0, 0)) (by (with_reducible repeat (first | refine zB ?_ _ | refine zD ?_ | refine zC ?_ _)); exact BK113.out)) : gb113 ≠ gb114)); have NB114_113 := zA ((by rw [hg]; exact Nat.ne_of_gt (blk_lt (g := gb113) (o := .cells #[.int .i64 0, .int .i64 0] 30 (0, 0)) (by (with_reducible repeat (first | refine zB ?_ _ | refine zD ?_ | refine zC ?_ _)); exact BK113.out)) : gb114 ≠ gb113)); replace BK113 := zA (zP (g := gb113) (o := .cells #[.int .i64 0, .int .i64 0] 30 (0, 0)) (by (with_reducible repeat (first | refine zB ?_ _ | refine zD ?_ | refine zC ?_ _)); exact BK113.out) hb); clear hb hbox hg; have hnb17 := NB114_113.out; have hnc17 := NB113_114.out; obtain ⟨hcz18_0, hcz18_1, hfz18_0, hfz18_1⟩ := zb2 BK114.out) | ((with_reducible refine zV (f := 49) rfl ?_); refine goesL_ (some 21) rfl rfl Tryd.func49 (by kernel_rfl) rfl #[.agg #[.int .i64 x0_1, .int .i64 x1_1]] rfl apD ?_; (with_reducible refine (spec_DecOk.calls x0_1 x1_1 false _ A8.out).mono ?_); rintro e w19 ⟨rfl, hb⟩; refine ⟨_, rfl, ?_⟩; replace BK113 := zA (zP (g := gb113) (o := .cells #[.int .i64 0, .int .i64 0] 30 (0, 0)) (by (with_reducible repeat (first | refine zB ?_ _ | refine zD ?_ | refine zC ?_ _)); refine blk_far ?_ NB113_114.out _; (with_reducible repeat (first | refine zB ?_ _ | refine zD ?_ | refine zC ?_ _)); refine blk_far ?_ NB113_114.out _; (with_reducible repeat (first | refine zB ?_ _ | refine zD ?_ | refine zC ?_ _)); exact BK113.out) hb); replace BK114 := zA (zP (g := gb114) (o := .cells #[.int .i64 x0_1, .int .i64 x1_1] 30 (0, 0)) (by (with_reducible repeat (first | refine zB ?_ _ | refine zD ?_ | refine zC ?_ _)); refine blk_put (cs := #[.int .i64 x0_1, .int .i64 0]) ?_ 1 _ rfl; (with_reducible repeat (first | refine zB ?_ _ | refine zD ?_ | refine zC ?_ _)); refine blk_put (cs := #[.int .i64 0, .int .i64 0]) ?_ 0 _ rfl; (with_reducible repeat (first | refine zB ?_ _ | refine zD ?_ | refine zC ?_ _)); exact BK114.out) hb); replace HB := zA (zQ (by repeat (first | (with_reducible first | exact HB.out | apply zG | apply zE | apply zF | refine zH ?_ GE113.out | refine zH ?_ GE114.out) | exact HB.out)) hb); (try clear hb); (try clear hb2); (try clear hk); (try clear hi); obtain ⟨hcz20_0, hcz20_1, hfz20_0, hfz20_1⟩ := zb2 BK113.out))
      refine bodyPost_ret (results_ct rfl _ _ gb113 30 #[.int .i64 0, .int .i64 0] (0, 0) _ rfl (by (with_reducible repeat (first | refine zB ?_ _ | refine zD ?_ | refine zC ?_ _)); refine blk_put (cs := #[.int .i64 0, .int .i64 0]) ?_ 1 _ rfl; (with_reducible repeat (first | refine zB ?_ _ | refine zD ?_ | refine zC ?_ _)); refine blk_put (cs := #[.int .i64 0, .int .i64 0]) ?_ 0 _ rfl; (with_reducible repeat (first | refine zB ?_ _ | refine zD ?_ | refine zC ?_ _)); exact BK113.out) Tryd.underlying30 rfl (by kernel_rfl)) rfl ?_
      exact ⟨apE, by repeat (first | (with_reducible first | exact HB.out | apply zG | apply zE | apply zF | refine zH ?_ GE113.out | refine zH ?_ GE114.out) | exact HB.out)⟩


def spec_l14Dec.f (k : Nat) (s0_0 : List Int) (s0_1 : Int) : Option (Int × Int × Int) := (spec_l1Rd_pick.f k s0_0 s0_1 20).bind fun bt117 => ((spec_l1Rd_pick.f k s0_0 bt117.2 256).bind fun bt119 => ((spec_l1Rd_pick.f k s0_0 bt119.2 256).bind fun bt121 => ((spec_l1Rd_pick.f k s0_0 bt121.2 256).bind fun bt123 => ((spec_l1Rd_one.f k s0_0 bt123.2 (([bt117.1, wrap64 ((wrap64 (bt119.1 * 256)) + bt121.1), 99999999, 0, wrap64 (-bt123.1), 25, (-99999999)] : List Int))).bind fun bt128 => ((spec_l1Rd_one.f k s0_0 bt128.2 (([0, 0, (-1), (-2), 2, (-8), 8] : List Int))).bind fun bt133 => ((spec_l1New.f k bt128.1 bt133.1).bind fun bt135 => (if bt135.2.2 = true then (some (bt135.1, bt135.2.1, bt133.2)) else (some (1, 0, bt133.2)))))))))
theorem spec_l14Dec.mono : ∀ a0 a1 k, LeO (spec_l14Dec.f k a0 a1) (spec_l14Dec.f (k + 1) a0 a1) := by
 intro a0 a1 k
 unfold spec_l14Dec.f
 repeat' first
   | (with_reducible exact spec_l1New.mono _ _ _)
   | (with_reducible exact spec_l1Rd_one.mono _ _ _ _)
   | (with_reducible exact spec_l1Rd_pick.mono _ _ _ _)
   | (with_reducible exact LeO.refl _)
   | (with_reducible exact LeO.none _)
   | (with_reducible refine LeO.ite ?_ ?_)
   | (with_reducible refine LeO.bind ?_ (fun _ => ?_))
set_option maxHeartbeats 8000000 in
set_option maxRecDepth 100000 in
theorem spec_l14Dec.calls (k : Nat) (g : Nat) (s0_0 : List Int) (s0_1 : Int) (r1 : Int) (r2 : Int) (r3 : Int) (w0 w : World) (hI : IsS66 w0 w g s0_0 s0_1) (hB : Below w0.heap.size w0 w) (h : spec_l14Dec.f k s0_0 s0_1 = some (r1, r2, r3)) :
  Calls Tryd.prog 56 #[.pointer (some ⟨g, 0, none⟩)] w fun e w' => e = .returned (.agg #[.int .i64 r1, .int .i64 r2]) ∧ IsS66 w0 w' g s0_0 r3 ∧ Below w0.heap.size w0 w' ∧ KeepBut w w' g none := by
 have hu30 := Tryd.underlying30
 have HI0 := zA hI
 have HK := zA (KeepBut.refl w g none)
 have HL := zA hB.size
 clear hI
 have HW0 := zA hB.size
 have HB := zA hB
 clear hB
 have H : ((spec_l1Rd_pick.f k s0_0 s0_1 20).bind fun bt117 => ((spec_l1Rd_pick.f k s0_0 bt117.2 256).bind fun bt119 => ((spec_l1Rd_pick.f k s0_0 bt119.2 256).bind fun bt121 => ((spec_l1Rd_pick.f k s0_0 bt121.2 256).bind fun bt123 => ((spec_l1Rd_one.f k s0_0 bt123.2 (([bt117.1, wrap64 ((wrap64 (bt119.1 * 256)) + bt121.1), 99999999, 0, wrap64 (-bt123.1), 25, (-99999999)] : List Int))).bind fun bt128 => ((spec_l1Rd_one.f k s0_0 bt128.2 (([0, 0, (-1), (-2), 2, (-8), 8] : List Int))).bind fun bt133 => ((spec_l1New.f k bt128.1 bt133.1).bind fun bt135 => (if bt135.2.2 = true then (some (bt135.1, bt135.2.1, bt133.2)) else (some (1, 0, bt133.2)))))))))) = some (r1, r2, r3) := h
 clear h
 replace H := Option.bind_eq_some_iff.mp H
 obtain ⟨⟨t117, t118⟩, A20, H⟩ := H
 replace H : ((spec_l1Rd_pick.f k s0_0 t118 256).bind fun bt119 => ((spec_l1Rd_pick.f k s0_0 bt119.2 256).bind fun bt121 => ((spec_l1Rd_pick.f k s0_0 bt121.2 256).bind fun bt123 => ((spec_l1Rd_one.f k s0_0 bt123.2 (([t117, wrap64 ((wrap64 (bt119.1 * 256)) + bt121.1), 99999999, 0, wrap64 (-bt123.1), 25, (-99999999)] : List Int))).bind fun bt128 => ((spec_l1Rd_one.f k s0_0 bt128.2 (([0, 0, (-1), (-2), 2, (-8), 8] : List Int))).bind fun bt133 => ((spec_l1New.f k bt128.1 bt133.1).bind fun bt135 => (if bt135.2.2 = true then (some (bt135.1, bt135.2.1, bt133.2)) else (some (1, 0, bt133.2))))))))) = some (r1, r2, r3) := H
 have A2 := zA A20
 clear A20
 replace H := Option.bind_eq_some_iff.mp H
 obtain ⟨⟨t119, t120⟩, A30, H⟩ := H
 replace H : ((spec_l1Rd_pick.f k s0_0 t120 256).bind fun bt121 => ((spec_l1Rd_pick.f k s0_0 bt121.2 256).bind fun bt123 => ((spec_l1Rd_one.f k s0_0 bt123.2 (([t117, wrap64 ((wrap64 (t119 * 256)) + bt121.1), 99999999, 0, wrap64 (-bt123.1), 25, (-99999999)] : List Int))).bind fun bt128 => ((spec_l1Rd_one.f k s0_0 bt128.2 (([0, 0, (-1), (-2), 2, (-8), 8] : List Int))).bind fun bt133 => ((spec_l1New.f k bt128.1 bt133.1).bind fun bt135 => (if bt135.2.2 = true then (some (bt135.1, bt135.2.1, bt133.2)) else (some (1, 0, bt133.2)))))))) = some (r1, r2, r3) := H
 have A3 := zA A30
 clear A30
 replace H := Option.bind_eq_some_iff.mp H
 obtain ⟨⟨t121, t122⟩, A40, H⟩ := H
 replace H : ((spec_l1Rd_pick.f k s0_0 t122 256).bind fun bt123 => ((spec_l1Rd_one.f k s0_0 bt123.2 (([t117, wrap64 ((wrap64 (t119 * 256)) + t121), 99999999, 0, wrap64 (-bt123.1), 25, (-99999999)] : List Int))).bind fun bt128 => ((spec_l1Rd_one.f k s0_0 bt128.2 (([0, 0, (-1), (-2), 2, (-8), 8] : List Int))).bind fun bt133 => ((spec_l1New.f k bt128.1 bt133.1).bind fun bt135 => (if bt135.2.2 = true then (some (bt135.1, bt135.2.1, bt133.2)) else (some (1, 0, bt133.2))))))) = some (r1, r2, r3) := H
 have A4 := zA A40
 clear A40
 replace H := Option.bind_eq_some_iff.mp H
 obtain ⟨⟨t123, t124⟩, A50, H⟩ := H
 replace H : ((spec_l1Rd_one.f k s0_0 t124 (([t117, wrap64 ((wrap64 (t119 * 256)) + t121), 99999999, 0, wrap64 (-t123), 25, (-99999999)] : List Int))).bind fun bt128 => ((spec_l1Rd_one.f k s0_0 bt128.2 (([0, 0, (-1), (-2), 2, (-8), 8] : List Int))).bind fun bt133 => ((spec_l1New.f k bt128.1 bt133.1).bind fun bt135 => (if bt135.2.2 = true then (some (bt135.1, bt135.2.1, bt133.2)) else (some (1, 0, bt133.2)))))) = some (r1, r2, r3) := H
 have A5 := zA A50
 clear A50
 first | (replace H := Option.bind_eq_some_iff.mp H; obtain ⟨y125, hy125, H⟩ := H; replace hy125 : y125 = (([t117, wrap64 ((wrap64 (t119 * 256)) + t121), 99999999, 0, wrap64 (-t123), 25, (-99999999)] : List Int)) := (yF hy125).symm) | (obtain ⟨y125, hy125⟩ : ∃ y_ : List Int, y_ = (([t117, wrap64 ((wrap64 (t119 * 256)) + t121), 99999999, 0, wrap64 (-t123), 25, (-99999999)] : List Int)) := ⟨_, rfl⟩; rw [← hy125] at H)
 have Ny125 := zA hy125
 clear hy125
 replace H := Option.bind_eq_some_iff.mp H
 obtain ⟨⟨t128, t129⟩, A60, H⟩ := H
 replace H : ((spec_l1Rd_one.f k s0_0 t129 (([0, 0, (-1), (-2), 2, (-8), 8] : List Int))).bind fun bt133 => ((spec_l1New.f k t128 bt133.1).bind fun bt135 => (if bt135.2.2 = true then (some (bt135.1, bt135.2.1, bt133.2)) else (some (1, 0, bt133.2))))) = some (r1, r2, r3) := H
 have A6 := zA A60
 clear A60
 obtain ⟨y130, hy130⟩ : ∃ y_ : List Int, y_ = (([0, 0, (-1), (-2), 2, (-8), 8] : List Int)) := ⟨_, rfl⟩
 replace H : ((spec_l1Rd_one.f k s0_0 t129 y130).bind fun bt133 => ((spec_l1New.f k t128 bt133.1).bind fun bt135 => (if bt135.2.2 = true then (some (bt135.1, bt135.2.1, bt133.2)) else (some (1, 0, bt133.2))))) = some (r1, r2, r3) := by first | (rw [hy130]; with_reducible exact H) | (have H2_ := (Option.bind_some _ _).symm.trans H; rw [hy130]; with_reducible exact H2_) | (have H2_ := (Option.bind_some _ _).symm.trans H; with_reducible exact H2_) | with_reducible exact H | (rw [hy130]; exact H) | exact H
 have Ny130 := zA hy130
 clear hy130
 replace H := Option.bind_eq_some_iff.mp H
 obtain ⟨⟨t133, t134⟩, A70, H⟩ := H
 replace H : ((spec_l1New.f k t128 t133).bind fun bt135 => (if bt135.2.2 = true then (some (bt135.1, bt135.2.1, t134)) else (some (1, 0, t134)))) = some (r1, r2, r3) := H
 have A7 := zA A70
 clear A70
 replace H := Option.bind_eq_some_iff.mp H
 obtain ⟨⟨t135, t136, t137⟩, A80, H⟩ := H
 replace H : (if t137 = true then (some (t135, t136, t134)) else (some (1, 0, t134))) = some (r1, r2, r3) := H
 have A8 := zA A80
 clear A80
 by_cases c9 : t137 = true
 ·subst c9
  have H1 : (some (t135, t136, t134)) = some (r1, r2, r3) := by rw [if_pos rfl] at H; exact H
  clear H
  have H := H1
  clear H1
  simp only [Option.some.injEq, Prod.mk.injEq] at H
  obtain ⟨rfl, rfl, rfl⟩ := H
  go_enter Tryd.func56, Tryd.ntmps56
  go_wp2_with (first | ((with_reducible refine zT (N := 2) rfl ?_); refine zW ?hg (N := 2) ?hd (cs := #[.int .i64 0, .int .i64 0]) (t := 30) ?hr ?_; (case hd => rfl); (case hg => rfl); (case hr => first | (go_simp; done) | (go_simp; rfl)); intro gb116 hg w10 hbox hb; replace HB := zA (zQ apb hb); have BK116 := zA (hbox); have GW116 := zA ((by rw [hg]; exact (keep_size (w := w) (g := g) (row := none) apJ) : w.heap.size ≤ gb116)); have GE116 := zA ((Nat.le_trans HW0.out (by rw [hg]; exact (keep_size (w := w) (g := g) (row := none) apJ) : w.heap.size ≤ gb116) : w0.heap.size ≤ gb116)); replace HK := zA (KeepBut.trans apJ (KeepBut.of_below hb g none) (.inl rfl)); have NB0_116 := zA ((by rw [hg]; exact Nat.ne_of_lt (IsS66.lt (show IsS66 w0 _ g s0_0 s0_1 from apL)) : g ≠ gb116)); have NB116_0 := zA ((by rw [hg]; exact Nat.ne_of_gt (IsS66.lt (show IsS66 w0 _ g s0_0 s0_1 from apL)) : gb116 ≠ g)); replace HI0 := zA (IsS66.below apL hb); clear hb hbox hg) | ((with_reducible refine zV (f := 30) rfl ?_); refine goesL_ (some 9) rfl rfl Tryd.func30 (by kernel_rfl) rfl #[.pointer (some ⟨g, 0, none⟩), .int .i64 20] rfl apD ?_; (with_reducible refine (spec_l1Rd_pick.calls k g s0_0 s0_1 20 t117 t118 w0 _ ?side1 ?side2 A2.out).mono ?_); (case side1 => repeat (first | (with_reducible first | exact HI0.out | apply IsS66.alloc | apply IsS66.drewN | apply IsS66.drew | apply IsS66.set_1 | refine IsS66.far ?_ NB0_116.out _) | exact HI0.out)); (case side2 => repeat (first | (with_reducible first | exact HB.out | apply zG | apply zE | apply zF | refine zH ?_ (IsS66.ge HI0.out) | refine zH ?_ GE116.out) | exact HB.out)); rintro e w11 ⟨rfl, hi, hb, hk⟩; refine ⟨_, rfl, ?_⟩; replace BK116 := zA (KeepBut.blk hk (g' := gb116) (o := .cells #[.int .i64 0, .int .i64 0] 30 (0, 0)) apY NB116_0.out (by simp)); replace HK := zA (KeepBut.trans apW hk (.inl rfl)); replace HB := zA (hb); replace HI0 := zA (hi); (try clear hb); (try clear hb2); (try clear hk); (try clear hi)) | ((with_reducible refine zV (f := 30) rfl ?_); refine goesL_ (some 11) rfl rfl Tryd.func30 (by kernel_rfl) rfl #[.pointer (some ⟨g, 0, none⟩), .int .i64 256] rfl apD ?_; (with_reducible refine (spec_l1Rd_pick.calls k g s0_0 t118 256 t119 t120 w0 _ ?side1 ?side2 A3.out).mono ?_); (case side1 => repeat (first | (with_reducible first | exact HI0.out | apply IsS66.alloc | apply IsS66.drewN | apply IsS66.drew | apply IsS66.set_1 | refine IsS66.far ?_ NB0_116.out _) | exact HI0.out)); (case side2 => repeat (first | (with_reducible first | exact HB.out | apply zG | apply zE | apply zF | refine zH ?_ (IsS66.ge HI0.out) | refine zH ?_ GE116.out) | exact HB.out)); rintro e w12 ⟨rfl, hi, hb, hk⟩; refine ⟨_, rfl, ?_⟩; replace BK116 := zA (KeepBut.blk hk (g' := gb116) (o := .cells #[.int .i64 0, .int .i64 0] 30 (0, 0)) apY NB116_0.out (by simp)); replace HK := zA (KeepBut.trans apW hk (.inl rfl)); replace HB := zA (hb); replace HI0 := zA (hi); (try clear hb); (try clear hb2); (try clear hk); (try clear hi)) | ((with_reducible refine zV (f := 30) rfl ?_); refine goesL_ (some 14) rfl rfl Tryd.func30 (by kernel_rfl) rfl #[.pointer (some ⟨g, 0, none⟩), .int .i64 256] rfl apD ?_; (with_reducible refine (spec_l1Rd_pick.calls k g s0_0 t120 256 t121 t122 w0 _ ?side1 ?side2 A4.out).mono ?_); (case side1 => repeat (first | (with_reducible first | exact HI0.out | apply IsS66.alloc | apply IsS66.drewN | apply IsS66.drew | apply IsS66.set_1 | refine IsS66.far ?_ NB0_116.out _) | exact HI0.out)); (case side2 => repeat (first | (with_reducible first | exact HB.out | apply zG | apply zE | apply zF | refine zH ?_ (IsS66.ge HI0.out) | refine zH ?_ GE116.out) | exact HB.out)); rintro e w13 ⟨rfl, hi, hb, hk⟩; refine ⟨_, rfl, ?_⟩; replace BK116 := zA (KeepBut.blk hk (g' := gb116) (o := .cells #[.int .i64 0, .int .i64 0] 30 (0, 0)) apY NB116_0.out (by simp)); replace HK := zA (KeepBut.trans apW hk (.inl rfl)); replace HB := zA (hb); replace HI0 := zA (hi); (try clear hb); (try clear hb2); (try clear hk); (try clear hi)) | ((with_reducible refine zV (f := 30) rfl ?_); refine goesL_ (some 17) rfl rfl Tryd.func30 (by kernel_rfl) rfl #[.pointer (some ⟨g, 0, none⟩), .int .i64 256] rfl apD ?_; (with_reducible refine (spec_l1Rd_pick.calls k g s0_0 t122 256 t123 t124 w0 _ ?side1 ?side2 A5.out).mono ?_); (case side1 => repeat (first | (with_reducible first | exact HI0.out | apply IsS66.alloc | apply IsS66.drewN | apply IsS66.drew | apply IsS66.set_1 | refine IsS66.far ?_ NB0_116.out _) | exact HI0.out)); (case side2 => repeat (first | (with_reducible first | exact HB.out | apply zG | apply zE | apply zF | refine zH ?_ (IsS66.ge HI0.out) | refine zH ?_ GE116.out) | exact HB.out)); rintro e w14 ⟨rfl, hi, hb, hk⟩; refine ⟨_, rfl, ?_⟩; replace BK116 := zA (KeepBut.blk hk (g' := gb116) (o := .cells #[.int .i64 0, .int .i64 0] 30 (0, 0)) apY NB116_0.out (by simp)); replace HK := zA (KeepBut.trans apW hk (.inl rfl)); replace HB := zA (hb); replace HI0 := zA (hi); (try clear hb); (try clear hb2); (try clear hk); (try clear hi)) | ((with_reducible refine zT (N := 19) rfl ?_); refine Kd.R_lit (Kd.int .i64) _ 3 ?hg (N := 19) ?hd (xs := ([t117, wrap64 ((wrap64 (t119 * 256)) + t121), 99999999, 0, wrap64 (-t123), 25, (-99999999)] : List Int)) (inner := [.int .i64 t117, .int .i64 (wrap64 ((wrap64 (t119 * 256)) + t121)), .int .i64 99999999, .int .i64 0, .int .i64 (wrap64 (-t123)), .int .i64 25, .int .i64 (-99999999)]) (ok := fun _ => True) (okp := fun _ => True) ?hr ?hp (fun _ hk => hk) trivial (yG _ _) (yH _) (by simp) ?_; (case hd => rfl); (case hg => rfl); (case hr => first | (go_simp; done) | (go_simp; rfl)); (case hp => exact (Reps.one (show Kd.M (Kd.int .i64) _ _ _ t117 [.int .i64 t117] from rfl) (Reps.one (show Kd.M (Kd.int .i64) _ _ _ (wrap64 ((wrap64 (t119 * 256)) + t121)) [.int .i64 (wrap64 ((wrap64 (t119 * 256)) + t121))] from rfl) (Reps.one (show Kd.M (Kd.int .i64) _ _ _ 99999999 [.int .i64 99999999] from rfl) (Reps.one (show Kd.M (Kd.int .i64) _ _ _ 0 [.int .i64 0] from rfl) (Reps.one (show Kd.M (Kd.int .i64) _ _ _ (wrap64 (-t123)) [.int .i64 (wrap64 (-t123))] from rfl) (Reps.one (show Kd.M (Kd.int .i64) _ _ _ 25 [.int .i64 25] from rfl) (Reps.one (show Kd.M (Kd.int .i64) _ _ _ (-99999999) [.int .i64 (-99999999)] from rfl) (Reps.none _ _))))))))); intro v126 w15 ho16 hb hg_ hnew_; clear hg_ hnew_; (first | rw [← Ny125.out] at ho16 | (simp only [Int.reduceToNat] at ho16; rw [← Ny125.out] at ho16)); have HO127 := zA (Kd.R_lower ho16 (keep_size (w := w) (g := g) (row := none) apW)); replace BK116 := zA (zP (g := gb116) (o := .cells #[.int .i64 0, .int .i64 0] 30 (0, 0)) apY hb); replace HK := zA (KeepBut.trans apW (KeepBut.of_below hb g none) (.inl rfl)); replace HB := zA (zQ apm hb); replace HI0 := zA (IsS66.below apf hb); clear hb ho16; obtain ⟨Ao17, co17, eo17⟩ := Kd.R_slice HO127.out; subst eo17) | ((with_reducible refine zV (f := 40) rfl ?_); refine goesL_ (some 20) rfl rfl Tryd.func40 (by kernel_rfl) rfl #[.pointer (some ⟨g, 0, none⟩), .slice Ao17 y125.length co17] rfl apD ?_; (with_reducible refine (spec_l1Rd_one.calls k g s0_0 t124 _ _ y125 t128 t129 w0 _ ?side1 ?side2 ?side3 ?side4 ?side5 A6.out).mono ?_); (case side1 => repeat (first | (with_reducible first | exact HI0.out | apply IsS66.alloc | apply IsS66.drewN | apply IsS66.drew | apply IsS66.set_1 | refine IsS66.far ?_ NB0_116.out _) | exact HI0.out)); (case side2 => repeat (first | (with_reducible first | exact HB.out | apply zG | apply zE | apply zF | refine zH ?_ (IsS66.ge HI0.out) | refine zH ?_ GE116.out) | exact HB.out)); (case side3 => exact vc (Kd.R_reads' HO127.out).2.2); (case side4 => exact (Kd.R_reads' HO127.out).2.1); (case side5 => exact far_slice (IsS66.own_ne HI0.out HO127.out (by decide))); rintro e w18 ⟨rfl, hi, hb, hk⟩; refine ⟨_, rfl, ?_⟩; replace BK116 := zA (KeepBut.blk hk (g' := gb116) (o := .cells #[.int .i64 0, .int .i64 0] 30 (0, 0)) apY NB116_0.out (by simp)); replace HO127 := zA (Kd.R_mono (Kd.R_keep (IsS66.apart (show IsS66 w0 _ g s0_0 t124 from apf) (vwR HO127.out) (by decide)) hk (fun _ h => h.2)) (fun _ h => h.1)); replace HK := zA (KeepBut.trans apW hk (.inl rfl)); replace HB := zA (hb); replace HI0 := zA (hi); (try clear hb); (try clear hb2); (try clear hk); (try clear hi)) | ((with_reducible refine zT (N := 22) rfl ?_); refine Kd.R_lit (Kd.int .i64) _ 3 ?hg (N := 22) ?hd (xs := ([0, 0, (-1), (-2), 2, (-8), 8] : List Int)) (inner := [.int .i64 0, .int .i64 0, .int .i64 (-1), .int .i64 (-2), .int .i64 2, .int .i64 (-8), .int .i64 8]) (ok := fun _ => True) (okp := fun _ => True) ?hr ?hp (fun _ hk => hk) trivial (yG _ _) (yH _) (by simp) ?_; (case hd => rfl); (case hg => rfl); (case hr => first | (go_simp; done) | (go_simp; rfl)); (case hp => exact (Reps.one (show Kd.M (Kd.int .i64) _ _ _ 0 [.int .i64 0] from rfl) (Reps.one (show Kd.M (Kd.int .i64) _ _ _ 0 [.int .i64 0] from rfl) (Reps.one (show Kd.M (Kd.int .i64) _ _ _ (-1) [.int .i64 (-1)] from rfl) (Reps.one (show Kd.M (Kd.int .i64) _ _ _ (-2) [.int .i64 (-2)] from rfl) (Reps.one (show Kd.M (Kd.int .i64) _ _ _ 2 [.int .i64 2] from rfl) (Reps.one (show Kd.M (Kd.int .i64) _ _ _ (-8) [.int .i64 (-8)] from rfl) (Reps.one (show Kd.M (Kd.int .i64) _ _ _ 8 [.int .i64 8] from rfl) (Reps.none _ _))))))))); intro v131 w19 ho20 hb hg_ hnew_; clear hg_ hnew_; (first | rw [← Ny130.out] at ho20 | (simp only [Int.reduceToNat] at ho20; rw [← Ny130.out] at ho20)); have HO132 := zA (Kd.R_lower (Kd.R_new' ho20 (Kd.R_lt (vwR HO127.out))) (keep_size (w := w) (g := g) (row := none) apW)); replace HO127 := zA (Kd.R_elder' (vwR HO127.out) (Kd.R_base ho20) hb); replace BK116 := zA (zP (g := gb116) (o := .cells #[.int .i64 0, .int .i64 0] 30 (0, 0)) apY hb); replace HK := zA (KeepBut.trans apW (KeepBut.of_below hb g none) (.inl rfl)); replace HB := zA (zQ apm hb); replace HI0 := zA (IsS66.below apf hb); clear hb ho20; obtain ⟨Ao21, co21, eo21⟩ := Kd.R_slice HO132.out; subst eo21) | ((with_reducible refine zV (f := 40) rfl ?_); refine goesL_ (some 23) rfl rfl Tryd.func40 (by kernel_rfl) rfl #[.pointer (some ⟨g, 0, none⟩), .slice Ao21 y130.length co21] rfl apD ?_; (with_reducible refine (spec_l1Rd_one.calls k g s0_0 t129 _ _ y130 t133 t134 w0 _ ?side1 ?side2 ?side3 ?side4 ?side5 A7.out).mono ?_); (case side1 => repeat (first | (with_reducible first | exact HI0.out | apply IsS66.alloc | apply IsS66.drewN | apply IsS66.drew | apply IsS66.set_1 | refine IsS66.far ?_ NB0_116.out _) | exact HI0.out)); (case side2 => repeat (first | (with_reducible first | exact HB.out | apply zG | apply zE | apply zF | refine zH ?_ (IsS66.ge HI0.out) | refine zH ?_ GE116.out) | exact HB.out)); (case side3 => exact vc (Kd.R_reads' HO132.out).2.2); (case side4 => exact (Kd.R_reads' HO132.out).2.1); (case side5 => exact far_slice (IsS66.own_ne HI0.out HO132.out (by decide))); rintro e w22 ⟨rfl, hi, hb, hk⟩; refine ⟨_, rfl, ?_⟩; replace BK116 := zA (KeepBut.blk hk (g' := gb116) (o := .cells #[.int .i64 0, .int .i64 0] 30 (0, 0)) apY NB116_0.out (by simp)); replace HO127 := zA (Kd.R_mono (Kd.R_keep (IsS66.apart (show IsS66 w0 _ g s0_0 t129 from apf) (vwR HO127.out) (by decide)) hk (fun _ h => h.2)) (fun _ h => h.1)); replace HO132 := zA (Kd.R_mono (Kd.R_keep (IsS66.apart (show IsS66 w0 _ g s0_0 t129 from apf) (vwR HO132.out) (by decide)) hk (fun _ h => h.2)) (fun _ h => h.1)); replace HK := zA (KeepBut.trans apW hk (.inl rfl)); replace HB := zA (hb); replace HI0 := zA (hi); (try clear hb); (try clear hb2); (try clear hk); (try clear hi)) | ((with_reducible refine zV (f := 70) rfl ?_); refine goesL_ (some 27) rfl rfl Tryd.func70 (by kernel_rfl) rfl #[.int .i64 t128, .int .i64 t133] rfl apD ?_; (with_reducible refine (spec_l1New.calls k t128 t133 t135 t136 true _ A8.out).mono ?_); rintro e w23 ⟨rfl, hb⟩; refine ⟨_, rfl, ?_⟩; replace HO127 := zA (Kd.R_below (vwR HO127.out) hb); replace HO132 := zA (Kd.R_below (vwR HO132.out) hb); replace BK116 := zA (zP (g := gb116) (o := .cells #[.int .i64 0, .int .i64 0] 30 (0, 0)) apY hb); replace HK := zA (KeepBut.trans apW (KeepBut.of_below hb g none) (.inl rfl)); replace HB := zA (zQ apm hb); replace HI0 := zA (IsS66.below apf hb); (try clear hb); (try clear hb2); (try clear hk); (try clear hi)) | ((with_reducible refine zT (N := 5) rfl ?_); refine zW ?hg (N := 5) ?hd (cs := #[.int .i64 0, .int .i64 0]) (t := 30) ?hr ?_; (case hd => rfl); (case hg => rfl); (case hr => first | (go_simp; done) | (go_simp; rfl)); intro gb138 hg w24 hbox hb; replace HO127 := zA (Kd.R_below (vwR HO127.out) hb); replace HO132 := zA (Kd.R_below (vwR HO132.out) hb); replace HB := zA (zQ apm hb); have BK138 := zA (hbox); have GW138 := zA ((by rw [hg]; exact (keep_size (w := w) (g := g) (row := none) apW) : w.heap.size ≤ gb138)); have GE138 := zA ((Nat.le_trans HW0.out (by rw [hg]; exact (keep_size (w := w) (g := g) (row := none) apW) : w.heap.size ≤ gb138) : w0.heap.size ≤ gb138)); replace HK := zA (KeepBut.trans apW (KeepBut.of_below hb g none) (.inl rfl)); have NB116_138 := zA ((by rw [hg]; exact Nat.ne_of_lt (blk_lt (g := gb116) (o := .cells #[.int .i64 0, .int .i64 0] 30 (0, 0)) apY) : gb116 ≠ gb138)); have NB138_116 := zA ((by rw [hg]; exact Nat.ne_of_gt (blk_lt (g := gb116) (o := .cells #[.int .i64 0, .int .i64 0] 30 (0, 0)) apY) : gb138 ≠ gb116)); replace BK116 := zA (zP (g := gb116) (o := .cells #[.int .i64 0, .int .i64 0] 30 (0, 0)) apY hb); have NB0_138 := zA ((by rw [hg]; exact Nat.ne_of_lt (IsS66.lt (show IsS66 w0 _ g s0_0 t134 from apf)) : g ≠ gb138)); have NB138_0 := zA ((by rw [hg]; exact Nat.ne_of_gt (IsS66.lt (show IsS66 w0 _ g s0_0 t134 from apf)) : gb138 ≠ g)); replace HI0 := zA (IsS66.below apf hb); clear hb hbox hg; have hnb25 := NB138_116.out; have hnc25 := NB116_138.out; have hnb26 := NB138_0.out; have hnc26 := NB0_138.out; obtain ⟨hcz27_0, hcz27_1, hfz27_0, hfz27_1⟩ := zb2 BK138.out; have hnb28 := NB116_0.out; have hnc28 := NB0_116.out; obtain ⟨hcz29_0, hcz29_1, hfz29_0, hfz29_1⟩ := zb2 BK116.out))
  refine bodyPost_ret (results_cell_row rfl _ _ gb116 30 #[.int .i64 t135, .int .i64 t136] (0, 0) _ rfl (by (with_reducible repeat (first | refine zB ?_ _ | refine zD ?_ | refine zC ?_ _)); refine blk_put (cs := #[.int .i64 t135, .int .i64 0]) ?_ 1 _ rfl; (with_reducible repeat (first | refine zB ?_ _ | refine zD ?_ | refine zC ?_ _)); refine blk_put (cs := #[.int .i64 0, .int .i64 0]) ?_ 0 _ rfl; (with_reducible repeat (first | refine zB ?_ _ | refine zD ?_ | refine zC ?_ _)); refine blk_far ?_ NB116_138.out _; (with_reducible repeat (first | refine zB ?_ _ | refine zD ?_ | refine zC ?_ _)); refine blk_far ?_ NB116_138.out _; (with_reducible repeat (first | refine zB ?_ _ | refine zD ?_ | refine zC ?_ _)); exact BK116.out) Tryd.underlying30 rfl (by kernel_rfl)) rfl ?_
  exact ⟨apE, by repeat (first | (with_reducible first | exact HI0.out | apply IsS66.alloc | apply IsS66.drewN | apply IsS66.drew | apply IsS66.set_1 | refine IsS66.far ?_ NB0_116.out _ | refine IsS66.far ?_ NB0_138.out _) | exact HI0.out), by repeat (first | (with_reducible first | exact HB.out | apply zG | apply zE | apply zF | refine zH ?_ (IsS66.ge HI0.out) | refine zH ?_ GE116.out | refine zH ?_ GE138.out) | exact HB.out), by repeat (first | (with_reducible first | exact HK.out | apply KeepBut.set_ | apply keep_drewN | apply keep_drew | apply keep_alloc | refine keep_far ?_ GW116.out _ | refine keep_far ?_ GW138.out _) | exact HK.out)⟩
 ·replace c9 := Bool.eq_false_iff.mpr c9
  subst c9
  have H1 : (some (1, 0, t134)) = some (r1, r2, r3) := by rw [if_neg (show ¬ (false = true) by decide)] at H; exact H
  clear H
  have H := H1
  clear H1
  simp only [Option.some.injEq, Prod.mk.injEq] at H
  obtain ⟨rfl, rfl, rfl⟩ := H
  go_enter Tryd.func56, Tryd.ntmps56
  go_wp2_with (first | ((with_reducible refine zT (N := 2) rfl ?_); refine zW ?hg (N := 2) ?hd (cs := #[.int .i64 0, .int .i64 0]) (t := 30) ?hr ?_; (case hd => rfl); (case hg => rfl); (case hr => first | (go_simp; done) | (go_simp; rfl)); intro gb116 hg w30 hbox hb; replace HB := zA (zQ apb hb); have BK116 := zA (hbox); have GW116 := zA ((by rw [hg]; exact (keep_size (w := w) (g := g) (row := none) apJ) : w.heap.size ≤ gb116)); have GE116 := zA ((Nat.le_trans HW0.out (by rw [hg]; exact (keep_size (w := w) (g := g) (row := none) apJ) : w.heap.size ≤ gb116) : w0.heap.size ≤ gb116)); replace HK := zA (KeepBut.trans apJ (KeepBut.of_below hb g none) (.inl rfl)); have NB0_116 := zA ((by rw [hg]; exact Nat.ne_of_lt (IsS66.lt (show IsS66 w0 _ g s0_0 s0_1 from apL)) : g ≠ gb116)); have NB116_0 := zA ((by rw [hg]; exact Nat.ne_of_gt (IsS66.lt (show IsS66 w0 _ g s0_0 s0_1 from apL)) : gb116 ≠ g)); replace HI0 := zA (IsS66.below apL hb); clear hb hbox hg) | ((with_reducible refine zV (f := 30) rfl ?_); refine goesL_ (some 9) rfl rfl Tryd.func30 (by kernel_rfl) rfl #[.pointer (some ⟨g, 0, none⟩), .int .i64 20] rfl apD ?_; (with_reducible refine (spec_l1Rd_pick.calls k g s0_0 s0_1 20 t117 t118 w0 _ ?side1 ?side2 A2.out).mono ?_); (case side1 => repeat (first | (with_reducible first | exact HI0.out | apply IsS66.alloc | apply IsS66.drewN | apply IsS66.drew | apply IsS66.set_1 | refine IsS66.far ?_ NB0_116.out _) | exact HI0.out)); (case side2 => repeat (first | (with_reducible first | exact HB.out | apply zG | apply zE | apply zF | refine zH ?_ (IsS66.ge HI0.out) | refine zH ?_ GE116.out) | exact HB.out)); rintro e w31 ⟨rfl, hi, hb, hk⟩; refine ⟨_, rfl, ?_⟩; replace BK116 := zA (KeepBut.blk hk (g' := gb116) (o := .cells #[.int .i64 0, .int .i64 0] 30 (0, 0)) apY NB116_0.out (by simp)); replace HK := zA (KeepBut.trans apW hk (.inl rfl)); replace HB := zA (hb); replace HI0 := zA (hi); (try clear hb); (try clear hb2); (try clear hk); (try clear hi)) | ((with_reducible refine zV (f := 30) rfl ?_); refine goesL_ (some 11) rfl rfl Tryd.func30 (by kernel_rfl) rfl #[.pointer (some ⟨g, 0, none⟩), .int .i64 256] rfl apD ?_; (with_reducible refine (spec_l1Rd_pick.calls k g s0_0 t118 256 t119 t120 w0 _ ?side1 ?side2 A3.out).mono ?_); (case side1 => repeat (first | (with_reducible first | exact HI0.out | apply IsS66.alloc | apply IsS66.drewN | apply IsS66.drew | apply IsS66.set_1 | refine IsS66.far ?_ NB0_116.out _) | exact HI0.out)); (case side2 => repeat (first | (with_reducible first | exact HB.out | apply zG | apply zE | apply zF | refine zH ?_ (IsS66.ge HI0.out) | refine zH ?_ GE116.out) | exact HB.out)); rintro e w32 ⟨rfl, hi, hb, hk⟩; refine ⟨_, rfl, ?_⟩; replace BK116 := zA (KeepBut.blk hk (g' := gb116) (o := .cells #[.int .i64 0, .int .i64 0] 30 (0, 0)) apY NB116_0.out (by simp)); replace HK := zA (KeepBut.trans apW hk (.inl rfl)); replace HB := zA (hb); replace HI0 := zA (hi); (try clear hb); (try clear hb2); (try clear hk); (try clear hi)) | ((with_reducible refine zV (f := 30) rfl ?_); refine goesL_ (some 14) rfl rfl Tryd.func30 (by kernel_rfl) rfl #[.pointer (some ⟨g, 0, none⟩), .int .i64 256] rfl apD ?_; (with_reducible refine (spec_l1Rd_pick.calls k g s0_0 t120 256 t121 t122 w0 _ ?side1 ?side2 A4.out).mono ?_); (case side1 => repeat (first | (with_reducible first | exact HI0.out | apply IsS66.alloc | apply IsS66.drewN | apply IsS66.drew | apply IsS66.set_1 | refine IsS66.far ?_ NB0_116.out _) | exact HI0.out)); (case side2 => repeat (first | (with_reducible first | exact HB.out | apply zG | apply zE | apply zF | refine zH ?_ (IsS66.ge HI0.out) | refine zH ?_ GE116.out) | exact HB.out)); rintro e w33 ⟨rfl, hi, hb, hk⟩; refine ⟨_, rfl, ?_⟩; replace BK116 := zA (KeepBut.blk hk (g' := gb116) (o := .cells #[.int .i64 0, .int .i64 0] 30 (0, 0)) apY NB116_0.out (by simp)); replace HK := zA (KeepBut.trans apW hk (.inl rfl)); replace HB := zA (hb); replace HI0 := zA (hi); (try clear hb); (try clear hb2); (try clear hk); (try clear hi)) | ((with_reducible refine zV (f := 30) rfl ?_); refine goesL_ (some 17) rfl rfl Tryd.func30 (by kernel_rfl) rfl #[.pointer (some ⟨g, 0, none⟩), .int .i64 256] rfl apD ?_; (with_reducible refine (spec_l1Rd_pick.calls k g s0_0 t122 256 t123 t124 w0 _ ?side1 ?side2 A5.out).mono ?_); (case side1 => repeat (first | (with_reducible first | exact HI0.out | apply IsS66.alloc | apply IsS66.drewN | apply IsS66.drew | apply IsS66.set_1 | refine IsS66.far ?_ NB0_116.out _) | exact HI0.out)); (case side2 => repeat (first | (with_reducible first | exact HB.out | apply zG | apply zE | apply zF | refine zH ?_ (IsS66.ge HI0.out) | refine zH ?_ GE116.out) | exact HB.out)); rintro e w34 ⟨rfl, hi, hb, hk⟩; refine ⟨_, rfl, ?_⟩; replace BK116 := zA (KeepBut.blk hk (g' := gb116) (o := .cells #[.int .i64 0, .int .i64 0] 30 (0, 0)) apY NB116_0.out (by simp)); replace HK := zA (KeepBut.trans apW hk (.inl rfl)); replace HB := zA (hb); replace HI0 := zA (hi); (try clear hb); (try clear hb2); (try clear hk); (try clear hi)) | ((with_reducible refine zT (N := 19) rfl ?_); refine Kd.R_lit (Kd.int .i64) _ 3 ?hg (N := 19) ?hd (xs := ([t117, wrap64 ((wrap64 (t119 * 256)) + t121), 99999999, 0, wrap64 (-t123), 25, (-99999999)] : List Int)) (inner := [.int .i64 t117, .int .i64 (wrap64 ((wrap64 (t119 * 256)) + t121)), .int .i64 99999999, .int .i64 0, .int .i64 (wrap64 (-t123)), .int .i64 25, .int .i64 (-99999999)]) (ok := fun _ => True) (okp := fun _ => True) ?hr ?hp (fun _ hk => hk) trivial (yG _ _) (yH _) (by simp) ?_; (case hd => rfl); (case hg => rfl); (case hr => first | (go_simp; done) | (go_simp; rfl)); (case hp => exact (Reps.one (show Kd.M (Kd.int .i64) _ _ _ t117 [.int .i64 t117] from rfl) (Reps.one (show Kd.M (Kd.int .i64) _ _ _ (wrap64 ((wrap64 (t119 * 256)) + t121)) [.int .i64 (wrap64 ((wrap64 (t119 * 256)) + t121))] from rfl) (Reps.one (show Kd.M (Kd.int .i64) _ _ _ 99999999 [.int .i64 99999999] from rfl) (Reps.one (show Kd.M (Kd.int .i64) _ _ _ 0 [.int .i64 0] from rfl) (Reps.one (show Kd.M (Kd.int .i64) _ _ _ (wrap64 (-t123)) [.int .i64 (wrap64 (-t123))] from rfl) (Reps.one (show Kd.M (Kd.int .i64) _ _ _ 25 [.int .i64 25] from rfl) (Reps.one (show Kd.M (Kd.int .i64) _ _ _ (-99999999) [.int .i64 (-99999999)] from rfl) (Reps.none _ _))))))))); intro v126 w35 ho36 hb hg_ hnew_; clear hg_ hnew_; (first | rw [← Ny125.out] at ho36 | (simp only [Int.reduceToNat] at ho36; rw [← Ny125.out] at ho36)); have HO127 := zA (Kd.R_lower ho36 (keep_size (w := w) (g := g) (row := none) apW)); replace BK116 := zA (zP (g := gb116) (o := .cells #[.int .i64 0, .int .i64 0] 30 (0, 0)) apY hb); replace HK := zA (KeepBut.trans apW (KeepBut.of_below hb g none) (.inl rfl)); replace HB := zA (zQ apm hb); replace HI0 := zA (IsS66.below apf hb); clear hb ho36; obtain ⟨Ao37, co37, eo37⟩ := Kd.R_slice HO127.out; subst eo37) | ((with_reducible refine zV (f := 40) rfl ?_); refine goesL_ (some 20) rfl rfl Tryd.func40 (by kernel_rfl) rfl #[.pointer (some ⟨g, 0, none⟩), .slice Ao37 y125.length co37] rfl apD ?_; (with_reducible refine (spec_l1Rd_one.calls k g s0_0 t124 _ _ y125 t128 t129 w0 _ ?side1 ?side2 ?side3 ?side4 ?side5 A6.out).mono ?_); (case side1 => repeat (first | (with_reducible first | exact HI0.out | apply IsS66.alloc | apply IsS66.drewN | apply IsS66.drew | apply IsS66.set_1 | refine IsS66.far ?_ NB0_116.out _) | exact HI0.out)); (case side2 => repeat (first | (with_reducible first | exact HB.out | apply zG | apply zE | apply zF | refine zH ?_ (IsS66.ge HI0.out) | refine zH ?_ GE116.out) | exact HB.out)); (case side3 => exact vc (Kd.R_reads' HO127.out).2.2); (case side4 => exact (Kd.R_reads' HO127.out).2.1); (case side5 => exact far_slice (IsS66.own_ne HI0.out HO127.out (by decide))); rintro e w38 ⟨rfl, hi, hb, hk⟩; refine ⟨_, rfl, ?_⟩; replace BK116 := zA (KeepBut.blk hk (g' := gb116) (o := .cells #[.int .i64 0, .int .i64 0] 30 (0, 0)) apY NB116_0.out (by simp)); replace HO127 := zA (Kd.R_mono (Kd.R_keep (IsS66.apart (show IsS66 w0 _ g s0_0 t124 from apf) (vwR HO127.out) (by decide)) hk (fun _ h => h.2)) (fun _ h => h.1)); replace HK := zA (KeepBut.trans apW hk (.inl rfl)); replace HB := zA (hb); replace HI0 := zA (hi); (try clear hb); (try clear hb2); (try clear hk); (try clear hi)) | ((with_reducible refine zT (N := 22) rfl ?_); refine Kd.R_lit (Kd.int .i64) _ 3 ?hg (N := 22) ?hd (xs := ([0, 0, (-1), (-2), 2, (-8), 8] : List Int)) (inner := [.int .i64 0, .int .i64 0, .int .i64 (-1), .int .i64 (-2), .int .i64 2, .int .i64 (-8), .int .i64 8]) (ok := fun _ => True) (okp := fun _ => True) ?hr ?hp (fun _ hk => hk) trivial (yG _ _) (yH _) (by simp) ?_; (case hd => rfl); (case hg => rfl); (case hr => first | (go_simp; done) | (go_simp; rfl)); (case hp => exact (Reps.one (show Kd.M (Kd.int .i64) _ _ _ 0 [.int .i64 0] from rfl) (Reps.one (show Kd.M (Kd.int .i64) _ _ _ 0 [.int .i64 0] from rfl) (Reps.one (show Kd.M (Kd.int .i64) _ _ _ (-1) [.int .i64 (-1)] from rfl) (Reps.one (show Kd.M (Kd.int .i64) _ _ _ (-2) [.int .i64 (-2)] from rfl) (Reps.one (show Kd.M (Kd.int .i64) _ _ _ 2 [.int .i64 2] from rfl) (Reps.one (show Kd.M (Kd.int .i64) _ _ _ (-8) [.int .i64 (-8)] from rfl) (Reps.one (show Kd.M (Kd.int .i64) _ _ _ 8 [.int .i64 8] from rfl) (Reps.none _ _))))))))); intro v131 w39 ho40 hb hg_ hnew_; clear hg_ hnew_; (first | rw [← Ny130.out] at ho40 | (simp only [Int.reduceToNat] at ho40; rw [← Ny130.out] at ho40)); have HO132 := zA (Kd.R_lower (Kd.R_new' ho40 (Kd.R_lt (vwR HO127.out))) (keep_size (w := w) (g := g) (row := none) apW)); replace HO127 := zA (Kd.R_elder' (vwR HO127.out) (Kd.R_base ho40) hb); replace BK116 := zA (zP (g := gb116) (o := .cells #[.int .i64 0, .int .i64 0] 30 (0, 0)) apY hb); replace HK := zA (KeepBut.trans apW (KeepBut.of_below hb g none) (.inl rfl)); replace HB := zA (zQ apm hb); replace HI0 := zA (IsS66.below apf hb); clear hb ho40; obtain ⟨Ao41, co41, eo41⟩ := Kd.R_slice HO132.out; subst eo41) | ((with_reducible refine zV (f := 40) rfl ?_); refine goesL_ (some 23) rfl rfl Tryd.func40 (by kernel_rfl) rfl #[.pointer (some ⟨g, 0, none⟩), .slice Ao41 y130.length co41] rfl apD ?_; (with_reducible refine (spec_l1Rd_one.calls k g s0_0 t129 _ _ y130 t133 t134 w0 _ ?side1 ?side2 ?side3 ?side4 ?side5 A7.out).mono ?_); (case side1 => repeat (first | (with_reducible first | exact HI0.out | apply IsS66.alloc | apply IsS66.drewN | apply IsS66.drew | apply IsS66.set_1 | refine IsS66.far ?_ NB0_116.out _) | exact HI0.out)); (case side2 => repeat (first | (with_reducible first | exact HB.out | apply zG | apply zE | apply zF | refine zH ?_ (IsS66.ge HI0.out) | refine zH ?_ GE116.out) | exact HB.out)); (case side3 => exact vc (Kd.R_reads' HO132.out).2.2); (case side4 => exact (Kd.R_reads' HO132.out).2.1); (case side5 => exact far_slice (IsS66.own_ne HI0.out HO132.out (by decide))); rintro e w42 ⟨rfl, hi, hb, hk⟩; refine ⟨_, rfl, ?_⟩; replace BK116 := zA (KeepBut.blk hk (g' := gb116) (o := .cells #[.int .i64 0, .int .i64 0] 30 (0, 0)) apY NB116_0.out (by simp)); replace HO127 := zA (Kd.R_mono (Kd.R_keep (IsS66.apart (show IsS66 w0 _ g s0_0 t129 from apf) (vwR HO127.out) (by decide)) hk (fun _ h => h.2)) (fun _ h => h.1)); replace HO132 := zA (Kd.R_mono (Kd.R_keep (IsS66.apart (show IsS66 w0 _ g s0_0 t129 from apf) (vwR HO132.out) (by decide)) hk (fun _ h => h.2)) (fun _ h => h.1)); replace HK := zA (KeepBut.trans apW hk (.inl rfl)); replace HB := zA (hb); replace HI0 := zA (hi); (try clear hb); (try clear hb2); (try clear hk); (try clear hi)) | ((with_reducible refine zV (f := 70) rfl ?_); refine goesL_ (some 27) rfl rfl Tryd.func70 (by kernel_rfl) rfl #[.int .i64 t128, .int .i64 t133] rfl apD ?_; (with_reducible refine (spec_l1New.calls k t128 t133 t135 t136 false _ A8.out).mono ?_); rintro e w43 ⟨rfl, hb⟩; refine ⟨_, rfl, ?_⟩; replace HO127 := zA (Kd.R_below (vwR HO127.out) hb); replace HO132 := zA (Kd.R_below (vwR HO132.out) hb); replace BK116 := zA (zP (g := gb116) (o := .cells #[.int .i64 0, .int .i64 0] 30 (0, 0)) apY hb); replace HK := zA (KeepBut.trans apW (KeepBut.of_below hb g none) (.inl rfl)); replace HB := zA (zQ apm hb); replace HI0 := zA (IsS66.below apf hb); (try clear hb); (try clear hb2); (try clear hk); (try clear hi)) | ((with_reducible refine zT (N := 5) rfl ?_); refine zW ?hg (N := 5) ?hd (cs := #[.int .i64 0, .int .i64 0]) (t := 30) ?hr ?_; (case hd => rfl); (case hg => rfl); (case hr => first | (go_simp; done) | (go_simp; rfl)); intro gb138 hg w44 hbox hb; replace HO127 := zA (Kd.R_below (vwR HO127.out) hb); replace HO132 := zA (Kd.R_below (vwR HO132.out) hb); replace HB := zA (zQ apm hb); have BK138 := zA (hbox); have GW138 := zA ((by rw [hg]; exact (keep_size (w := w) (g := g) (row := none) apW) : w.heap.size ≤ gb138)); have GE138 := zA ((Nat.le_trans HW0.out (by rw [hg]; exact (keep_size (w := w) (g := g) (row := none) apW) : w.heap.size ≤ gb138) : w0.heap.size ≤ gb138)); replace HK := zA (KeepBut.trans apW (KeepBut.of_below hb g none) (.inl rfl)); have NB116_138 := zA ((by rw [hg]; exact Nat.ne_of_lt (blk_lt (g := gb116) (o := .cells #[.int .i64 0, .int .i64 0] 30 (0, 0)) apY) : gb116 ≠ gb138)); have NB138_116 := zA ((by rw [hg]; exact Nat.ne_of_gt (blk_lt (g := gb116) (o := .cells #[.int .i64 0, .int .i64 0] 30 (0, 0)) apY) : gb138 ≠ gb116)); replace BK116 := zA (zP (g := gb116) (o := .cells #[.int .i64 0, .int .i64 0] 30 (0, 0)) apY hb); have NB0_138 := zA ((by rw [hg]; exact Nat.ne_of_lt (IsS66.lt (show IsS66 w0 _ g s0_0 t134 from apf)) : g ≠ gb138)); have NB138_0 := zA ((by rw [hg]; exact Nat.ne_of_gt (IsS66.lt (show IsS66 w0 _ g s0_0 t134 from apf)) : gb138 ≠ g)); replace HI0 := zA (IsS66.below apf hb); clear hb hbox hg; have hnb45 := NB138_116.out; have hnc45 := NB116_138.out; have hnb46 := NB138_0.out; have hnc46 := NB0_138.out; obtain ⟨hcz47_0, hcz47_1, hfz47_0, hfz47_1⟩ := zb2 BK138.out; have hnb48 := NB116_0.out; have hnc48 := NB0_116.out; obtain ⟨hcz49_0, hcz49_1, hfz49_0, hfz49_1⟩ := zb2 BK116.out))
  refine bodyPost_ret (results_cell_row rfl _ _ gb116 30 #[.int .i64 1, .int .i64 0] (0, 0) _ rfl (by (with_reducible repeat (first | refine zB ?_ _ | refine zD ?_ | refine zC ?_ _)); refine blk_put (cs := #[.int .i64 1, .int .i64 0]) ?_ 1 _ rfl; (with_reducible repeat (first | refine zB ?_ _ | refine zD ?_ | refine zC ?_ _)); refine blk_put (cs := #[.int .i64 0, .int .i64 0]) ?_ 0 _ rfl; (with_reducible repeat (first | refine zB ?_ _ | refine zD ?_ | refine zC ?_ _)); refine blk_far ?_ NB116_138.out _; (with_reducible repeat (first | refine zB ?_ _ | refine zD ?_ | refine zC ?_ _)); refine blk_far ?_ NB116_138.out _; (with_reducible repeat (first | refine zB ?_ _ | refine zD ?_ | refine zC ?_ _)); exact BK116.out) Tryd.underlying30 rfl (by kernel_rfl)) rfl ?_
  exact ⟨apE, by repeat (first | (with_reducible first | exact HI0.out | apply IsS66.alloc | apply IsS66.drewN | apply IsS66.drew | apply IsS66.set_1 | refine IsS66.far ?_ NB0_116.out _ | refine IsS66.far ?_ NB0_138.out _) | exact HI0.out), by repeat (first | (with_reducible first | exact HB.out | apply zG | apply zE | apply zF | refine zH ?_ (IsS66.ge HI0.out) | refine zH ?_ GE116.out | refine zH ?_ GE138.out) | exact HB.out), by repeat (first | (with_reducible first | exact HK.out | apply KeepBut.set_ | apply keep_drewN | apply keep_drew | apply keep_alloc | refine keep_far ?_ GW116.out _ | refine keep_far ?_ GW138.out _) | exact HK.out)⟩


def spec_l14Bytes.l0 : Nat → List Int → Int → List Int → Int → Option (ByteArray × Int)
 | 0, _, _, _, _ => none
 | k + 1, x3, x4, x1000, x1001 => if x4 > 0 then ((spec_l1Rd_one.f k x1000 x1001 (([97, 98, 122, 32, 10, 34, 92, 0, 255, 127, 120, 49, 200, 9] : List Int))).bind fun bt147 => (if x3.length < 140737488355328 then (spec_l14Bytes.l0 k (x3 ++ [(bt147.1) % 256]) (wrap64 (x4 - 1)) x1000 bt147.2) else (none))) else (some (strOfNums x3, x1001))
def spec_l14Bytes.f (k : Nat) (s0_0 : List Int) (s0_1 : Int) : Option (ByteArray × Int) := (spec_l1Rd_pick.f k s0_0 s0_1 8).bind fun bt142 => (spec_l14Bytes.l0 k (([] : List Int)) bt142.1 s0_0 bt142.2)
theorem spec_l14Bytes.mono_l : ∀ k, (∀ y0 y1 y2 y3, LeO (spec_l14Bytes.l0 k y0 y1 y2 y3) (spec_l14Bytes.l0 (k + 1) y0 y1 y2 y3))
 | 0 => fun _ _ _ _ r h => by simp [spec_l14Bytes.l0] at h
 | k + 1 => by
  have ih0 := spec_l14Bytes.mono_l k
  ·intro y0 y1 y2 y3
   unfold spec_l14Bytes.l0
   repeat' first
   | (with_reducible exact ih0 _ _ _ _)
   | (with_reducible exact spec_l1Rd_one.mono _ _ _ _)
   | (with_reducible exact spec_l1Rd_pick.mono _ _ _ _)
   | (with_reducible exact LeO.refl _)
   | (with_reducible exact LeO.none _)
   | (with_reducible refine LeO.ite ?_ ?_)
   | (with_reducible refine LeO.bind ?_ (fun _ => ?_))
   | exact ih0 _ _ _ _
theorem spec_l14Bytes.mono : ∀ a0 a1 k, LeO (spec_l14Bytes.f k a0 a1) (spec_l14Bytes.f (k + 1) a0 a1) := by
 intro a0 a1 k
 have ih0 := spec_l14Bytes.mono_l k
 unfold spec_l14Bytes.f
 repeat' first
   | (with_reducible exact ih0 _ _ _ _)
   | (with_reducible exact spec_l1Rd_one.mono _ _ _ _)
   | (with_reducible exact spec_l1Rd_pick.mono _ _ _ _)
   | (with_reducible exact LeO.refl _)
   | (with_reducible exact LeO.none _)
   | (with_reducible refine LeO.ite ?_ ?_)
   | (with_reducible refine LeO.bind ?_ (fun _ => ?_))
   | exact ih0 _ _ _ _
set_option maxHeartbeats 8000000 in
set_option maxRecDepth 100000 in
theorem spec_l14Bytes.calls (k : Nat) (g : Nat) (s0_0 : List Int) (s0_1 : Int) (r1 : ByteArray) (r2 : Int) (w0 w : World) (hI : IsS66 w0 w g s0_0 s0_1) (hB : Below w0.heap.size w0 w) (h : spec_l14Bytes.f k s0_0 s0_1 = some (r1, r2)) :
  Calls Tryd.prog 57 #[.pointer (some ⟨g, 0, none⟩)] w fun e w' => e = .returned (.string r1) ∧ IsS66 w0 w' g s0_0 r2 ∧ Below w0.heap.size w0 w' ∧ KeepBut w w' g none := by
 have HI0 := zA hI
 have HK := zA (KeepBut.refl w g none)
 have HL := zA hB.size
 clear hI
 have HW0 := zA hB.size
 have HB := zA hB
 clear hB
 have H : ((spec_l1Rd_pick.f k s0_0 s0_1 8).bind fun bt142 => (spec_l14Bytes.l0 k (([] : List Int)) bt142.1 s0_0 bt142.2)) = some (r1, r2) := h
 clear h
 obtain ⟨y139, hy139⟩ : ∃ y_ : List Int, y_ = (([] : List Int)) := ⟨_, rfl⟩
 replace H : ((spec_l1Rd_pick.f k s0_0 s0_1 8).bind fun bt142 => (spec_l14Bytes.l0 k y139 bt142.1 s0_0 bt142.2)) = some (r1, r2) := by first | (rw [hy139]; with_reducible exact H) | (have H2_ := (Option.bind_some _ _).symm.trans H; rw [hy139]; with_reducible exact H2_) | (have H2_ := (Option.bind_some _ _).symm.trans H; with_reducible exact H2_) | with_reducible exact H | (rw [hy139]; exact H) | exact H
 have Ny139 := zA hy139
 clear hy139
 replace H := Option.bind_eq_some_iff.mp H
 obtain ⟨⟨t142, t143⟩, A20, H⟩ := H
 replace H : (spec_l14Bytes.l0 k y139 t142 s0_0 t143) = some (r1, r2) := H
 have A2 := zA A20
 clear A20
 have H' := zA H
 clear H
 go_enter Tryd.func57, Tryd.ntmps57
 go_wp2_with (first | ((with_reducible refine zT (N := 5) rfl ?_); refine Kd.R_lit (Kd.int .u8) _ 5 ?hg (N := 5) ?hd (xs := ([] : List Int)) (inner := []) (ok := fun _ => True) (okp := fun _ => True) ?hr ?hp (fun _ hk => hk) trivial (yG _ _) (yH _) (by simp) ?_; (case hd => rfl); (case hg => rfl); (case hr => first | (go_simp; done) | (go_simp; rfl)); (case hp => exact (Reps.none _ _)); intro v140 w3 ho4 hb hg_ hnew_; clear hg_ hnew_; (first | rw [← Ny139.out] at ho4 | (simp only [Int.reduceToNat] at ho4; rw [← Ny139.out] at ho4)); have HO141 := zA (Kd.R_lower ho4 (keep_size (w := w) (g := g) (row := none) apJ)); replace HK := zA (KeepBut.trans apJ (KeepBut.of_below hb g none) (.inl rfl)); replace HB := zA (zQ apb hb); replace HI0 := zA (IsS66.below apL hb); clear hb ho4) | ((with_reducible refine zV (f := 30) rfl ?_); refine goesL_ (some 7) rfl rfl Tryd.func30 (by kernel_rfl) rfl #[.pointer (some ⟨g, 0, none⟩), .int .i64 8] rfl apD ?_; (with_reducible refine (spec_l1Rd_pick.calls k g s0_0 s0_1 8 t142 t143 w0 _ ?side1 ?side2 A2.out).mono ?_); (case side1 => repeat (first | (with_reducible first | exact HI0.out | apply IsS66.alloc | apply IsS66.drewN | apply IsS66.drew | apply IsS66.set_1) | exact HI0.out)); (case side2 => repeat (first | (with_reducible first | exact HB.out | apply zG | apply zE | apply zF | refine zH ?_ (IsS66.ge HI0.out)) | exact HB.out)); rintro e w5 ⟨rfl, hi, hb, hk⟩; refine ⟨_, rfl, ?_⟩; replace HO141 := zA (Kd.R_mono (Kd.R_keep (IsS66.apart (show IsS66 w0 _ g s0_0 s0_1 from apL) (vwR HO141.out) (by decide)) hk (fun _ h => h.2)) (fun _ h => h.1)); replace HK := zA (KeepBut.trans apJ hk (.inl rfl)); replace HB := zA (hb); replace HI0 := zA (hi); (try clear hb); (try clear hb2); (try clear hk); (try clear hi)))
 go_loopg [3, 4] k (fun kq v3 v4 w' => ∃ (x3_1 : List Int) (x4_1 : Int) (x1001_1 : Int), v4 = .int .i64 x4_1 ∧ Aside0 (spec_l14Bytes.l0 kq x3_1 x4_1 s0_0 x1001_1 = some (r1, r2)) ∧ Aside0 (kq ≤ k) ∧ Aside0 (Kd.R (Kd.int .u8) 5 w' w.heap.size (fun _ => True) v3 x3_1) ∧ Aside0 (IsS66 w0 w' g s0_0 x1001_1) ∧ Aside0 (KeepBut w w' g none) ∧ Aside0 (Below w0.heap.size w0 w'))
 case atStart => exact ⟨(y139), (t142), (t143), apB, H', ⟨yH _⟩, ⟨vwR HO141.out⟩, ⟨apL⟩, ⟨apJ⟩, ⟨apb⟩⟩
 case round =>
  clear H'
  try clear p2 c3 c5
  obtain ⟨x3_1, x4_1, x1001_1, rfl, HA, HK1, HO_3, HI0, HK, HB⟩ := hrel
  cases gk with
  | zero => exact absurd HA.out (by simp [spec_l14Bytes.l0])
  | succ k1 =>
   have H := HA.out
   clear HA
   simp only [spec_l14Bytes.l0] at H
   by_cases c6 : x4_1 > 0
   ·rw [if_pos c6] at H
    have c6b0 : decide (0 < x4_1) = true := yD c6
    clear c6
    obtain ⟨y144, hy144⟩ : ∃ y_ : List Int, y_ = (([97, 98, 122, 32, 10, 34, 92, 0, 255, 127, 120, 49, 200, 9] : List Int)) := ⟨_, rfl⟩
    replace H : ((spec_l1Rd_one.f k1 s0_0 x1001_1 y144).bind fun bt147 => (if x3_1.length < 140737488355328 then (spec_l14Bytes.l0 k1 (x3_1 ++ [(bt147.1) % 256]) (wrap64 (x4_1 - 1)) s0_0 bt147.2) else (none))) = some (r1, r2) := by first | (rw [hy144]; with_reducible exact H) | (have H2_ := (Option.bind_some _ _).symm.trans H; rw [hy144]; with_reducible exact H2_) | (have H2_ := (Option.bind_some _ _).symm.trans H; with_reducible exact H2_) | with_reducible exact H | (rw [hy144]; exact H) | exact H
    have Ny144 := zA hy144
    clear hy144
    replace H := Option.bind_eq_some_iff.mp H
    obtain ⟨⟨t147, t148⟩, A70, H⟩ := H
    replace H : (if x3_1.length < 140737488355328 then (spec_l14Bytes.l0 k1 (x3_1 ++ [(t147) % 256]) (wrap64 (x4_1 - 1)) s0_0 t148) else (none)) = some (r1, r2) := H
    have A7 := zA A70
    clear A70
    by_cases c8 : x3_1.length < 140737488355328
    ·rw [if_pos c8] at H
     have LMc8 := zA c8
     clear c8
     obtain ⟨y149, hy149⟩ : ∃ y_ : List Int, y_ = (x3_1 ++ [(t147) % 256]) := ⟨_, rfl⟩
     replace H : (spec_l14Bytes.l0 k1 y149 (wrap64 (x4_1 - 1)) s0_0 t148) = some (r1, r2) := by first | (rw [hy149]; with_reducible exact H) | (have H2_ := (Option.bind_some _ _).symm.trans H; rw [hy149]; with_reducible exact H2_) | (have H2_ := (Option.bind_some _ _).symm.trans H; with_reducible exact H2_) | with_reducible exact H | (rw [hy149]; exact H) | exact H
     have Ny149 := zA hy149
     clear hy149
     have H' := zA H
     clear H
     go_wp2_with (first | ((with_reducible refine zT (N := 14) rfl ?_); refine Kd.R_lit (Kd.int .i64) _ 3 ?hg (N := 14) ?hd (xs := ([97, 98, 122, 32, 10, 34, 92, 0, 255, 127, 120, 49, 200, 9] : List Int)) (inner := [.int .i64 97, .int .i64 98, .int .i64 122, .int .i64 32, .int .i64 10, .int .i64 34, .int .i64 92, .int .i64 0, .int .i64 255, .int .i64 127, .int .i64 120, .int .i64 49, .int .i64 200, .int .i64 9]) (ok := fun _ => True) (okp := fun _ => True) ?hr ?hp (fun _ hk => hk) trivial (yG _ _) (yH _) (by simp) ?_; (case hd => rfl); (case hg => rfl); (case hr => first | (go_simp; done) | (go_simp; rfl)); (case hp => exact (Reps.one (show Kd.M (Kd.int .i64) _ _ _ 97 [.int .i64 97] from rfl) (Reps.one (show Kd.M (Kd.int .i64) _ _ _ 98 [.int .i64 98] from rfl) (Reps.one (show Kd.M (Kd.int .i64) _ _ _ 122 [.int .i64 122] from rfl) (Reps.one (show Kd.M (Kd.int .i64) _ _ _ 32 [.int .i64 32] from rfl) (Reps.one (show Kd.M (Kd.int .i64) _ _ _ 10 [.int .i64 10] from rfl) (Reps.one (show Kd.M (Kd.int .i64) _ _ _ 34 [.int .i64 34] from rfl) (Reps.one (show Kd.M (Kd.int .i64) _ _ _ 92 [.int .i64 92] from rfl) (Reps.one (show Kd.M (Kd.int .i64) _ _ _ 0 [.int .i64 0] from rfl) (Reps.one (show Kd.M (Kd.int .i64) _ _ _ 255 [.int .i64 255] from rfl) (Reps.one (show Kd.M (Kd.int .i64) _ _ _ 127 [.int .i64 127] from rfl) (Reps.one (show Kd.M (Kd.int .i64) _ _ _ 120 [.int .i64 120] from rfl) (Reps.one (show Kd.M (Kd.int .i64) _ _ _ 49 [.int .i64 49] from rfl) (Reps.one (show Kd.M (Kd.int .i64) _ _ _ 200 [.int .i64 200] from rfl) (Reps.one (show Kd.M (Kd.int .i64) _ _ _ 9 [.int .i64 9] from rfl) (Reps.none _ _)))))))))))))))); intro v145 w9 ho10 hb hg_ hnew_; clear hg_ hnew_; (first | rw [← Ny144.out] at ho10 | (simp only [Int.reduceToNat] at ho10; rw [← Ny144.out] at ho10)); replace HO_3 := zA (Kd.R_below (vwR HO_3.out) hb); have HO146 := zA (Kd.R_lower ho10 (keep_size (w := w) (g := g) (row := none) apJ)); replace HK := zA (KeepBut.trans apJ (KeepBut.of_below hb g none) (.inl rfl)); replace HB := zA (zQ apb hb); replace HI0 := zA (IsS66.below apL hb); clear hb ho10; obtain ⟨Ao11, co11, eo11⟩ := Kd.R_slice HO146.out; subst eo11) | ((with_reducible refine zV (f := 40) rfl ?_); refine goesL_ (some 15) rfl rfl Tryd.func40 (by kernel_rfl) rfl #[.pointer (some ⟨g, 0, none⟩), .slice Ao11 y144.length co11] rfl apD ?_; (with_reducible refine (spec_l1Rd_one.calls k1 g s0_0 x1001_1 _ _ y144 t147 t148 w0 _ ?side1 ?side2 ?side3 ?side4 ?side5 A7.out).mono ?_); (case side1 => repeat (first | (with_reducible first | exact HI0.out | apply IsS66.alloc | apply IsS66.drewN | apply IsS66.drew | apply IsS66.set_1) | exact HI0.out)); (case side2 => repeat (first | (with_reducible first | exact HB.out | apply zG | apply zE | apply zF | refine zH ?_ (IsS66.ge HI0.out)) | exact HB.out)); (case side3 => exact vc (Kd.R_reads' HO146.out).2.2); (case side4 => exact (Kd.R_reads' HO146.out).2.1); (case side5 => exact far_slice (IsS66.own_ne HI0.out HO146.out (by decide))); rintro e w12 ⟨rfl, hi, hb, hk⟩; refine ⟨_, rfl, ?_⟩; replace HO_3 := zA (Kd.R_mono (Kd.R_keep (IsS66.apart (show IsS66 w0 _ g s0_0 x1001_1 from apL) (vwR HO_3.out) (by decide)) hk (fun _ h => h.2)) (fun _ h => h.1)); replace HO146 := zA (Kd.R_mono (Kd.R_keep (IsS66.apart (show IsS66 w0 _ g s0_0 x1001_1 from apL) (vwR HO146.out) (by decide)) hk (fun _ h => h.2)) (fun _ h => h.1)); replace HK := zA (KeepBut.trans apJ hk (.inl rfl)); replace HB := zA (hb); replace HI0 := zA (hi); (try clear hb); (try clear hb2); (try clear hk); (try clear hi)) | ((with_reducible refine gate_builtin (b := .append) (xs := #[.tmp 12, .tmp 17]) rfl ?_); at_builtin; refine Kd.R_append (Kd.int .u8) w.heap.size rfl (.tmp 12) (.tmp 17) 37 5 (.int .u8 0) 1 rfl Tryd.underlying37 info5 rfl (by decide) (by omega) u3 x3_1 ((t147) % 256) [.int .u8 ((t147) % 256)] (fun _ => True) (fun _ => False) rfl rfl ?aP (fun _ hk => hk.elim) ?aF ?aO (yG _ _) ?aS ?aL ?_; (case aP => exact rfl); (case aF => exact (fun _ _ => trivial)); (case aO => exact (vwR HO_3.out)); (case aS => exact (keep_size (w := w) (g := g) (row := none) apJ)); (case aL => have := LMc8.out; (first | omega | (simp only [ByteArray.size, List.size_toArray, List.length_cons, List.length_nil] at *; omega))); intro v150 w13 ho hb hg hat; rw [← Ny149.out] at ho; replace HO146 := zA (Kd.R_over' (vwR HO146.out) (Kd.R_typed (vwR HO_3.out)) (by decide) hg); replace HB := zA (below_weaken apb HL.out hb); replace HI0 := zA (IsS66.grown apL hg (IsS66.own_ne HI0.out HO_3.out (by decide))); replace HK := zA (KeepBut.trans apJ (KeepBut.of_grown hg g) (Kd.R_base2 HO_3.out)); have HO151 := zA (ho); clear HO_3; clear ho hb hg hat))
     go_roundg k1
     case measure => have := HK1.out; omega
     case rel => exact ⟨(y149), (wrap64 (x4_1 - 1)), (t148), apB, H', ⟨by have := HK1.out; omega⟩, ⟨vwR HO151.out⟩, ⟨apL⟩, ⟨apJ⟩, ⟨apb⟩⟩
    ·rw [if_neg c8] at H
     exact absurd H (by simp)
   ·rw [if_neg c6] at H
    have c6b0 : decide (0 < x4_1) = false := decide_eq_false c6
    clear c6
    simp only [Option.some.injEq, Prod.mk.injEq] at H
    obtain ⟨rfl, rfl⟩ := H
    have hcv14 := own_string (P := Tryd.prog) Tryd.underlying37 Tryd.underlying5 Tryd.underlying9 (Kd.own_of_R HO_3.out)
    go_wp2
    go_ret
    exact ⟨apE, apL, apb, apJ⟩

end Go.Proofs.YtoajejdicfabmaaDoor.Q
