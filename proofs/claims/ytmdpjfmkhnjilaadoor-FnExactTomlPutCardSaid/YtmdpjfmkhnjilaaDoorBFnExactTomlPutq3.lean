-- laid by a program of this session (wip/tools) out of the translation; Lean checks it
import Derived.Test.YtmdpjfmkhnjilaaDoorBFnExactTomlPutq2
namespace Go.Proofs.YtmdpjfmkhnjilaaDoor.Q
open Go.RowKit Go.Proofs.YtmdpjfmkhnjilaaDoorW.PrintWords Go.Proofs.YtmdpjfmkhnjilaaDoorW.PrintLast Go.Proofs.YtmdpjfmkhnjilaaDoorW.PrintMore Go.Proofs.YtmdpjfmkhnjilaaDoorX
attribute [local go_sem] max2_int min2_int max_two min_two max_three min_three max_four min_four   -- for this text's walks alone
set_option linter.unusedVariables false
set_option linter.unusedSimpArgs false

attribute [-simp] ByteArray.size_extract
mutual
def impl_layout.j0 : Nat → Bool → ByteArray → ByteArray → ByteArray → ByteArray → ByteArray → Bool → List Int → Int → Int → Int → ByteArray → List (S34) → List ByteArray → Option (ByteArray)
 | 0, _, _, _, _, _, _, _, _, _, _, _, _, _, _ => none
 | k + 1, x1, x2, x7, x8, x9, x10, x40, x997, x315000, x315001, x315002, x315003, x315004, x315005 => if x40 = true then (if x2.size + 2 ≤ 9223372036854775807 then (if 1 + (x2 ++ (⟨#[32, 32]⟩ : ByteArray)).size ≤ 9223372036854775807 then (if 1 + x2.size ≤ 9223372036854775807 then (impl_layout.j1 k x1 (x2 ++ (⟨#[32, 32]⟩ : ByteArray)) ((⟨#[10]⟩ : ByteArray) ++ (x2 ++ (⟨#[32, 32]⟩ : ByteArray))) (⟨#[32]⟩ : ByteArray) ((⟨#[10]⟩ : ByteArray) ++ x2) x997 x315000 x315001 x315002 x315003 x315004 x315005) else (none)) else (none)) else (none)) else (impl_layout.j1 k x1 x7 x8 x9 x10 x997 x315000 x315001 x315002 x315003 x315004 x315005)
def impl_layout.j1 : Nat → Bool → ByteArray → ByteArray → ByteArray → ByteArray → List Int → Int → Int → Int → ByteArray → List (S34) → List ByteArray → Option (ByteArray)
 | 0, _, _, _, _, _, _, _, _, _, _, _, _ => none
 | k + 1, x1, x7, x8, x9, x10, x997, x315000, x315001, x315002, x315003, x315004, x315005 => if x315000 = 6 then (impl_layout.j2 k x1 x7 x8 x9 x10 (⟨#[123, 125]⟩ : ByteArray) x997 x315000 x315001 x315002 x315003 x315004 x315005) else (impl_layout.j2 k x1 x7 x8 x9 x10 (⟨#[91, 93]⟩ : ByteArray) x997 x315000 x315001 x315002 x315003 x315004 x315005)
def impl_layout.j2 : Nat → Bool → ByteArray → ByteArray → ByteArray → ByteArray → ByteArray → List Int → Int → Int → Int → ByteArray → List (S34) → List ByteArray → Option (ByteArray)
 | 0, _, _, _, _, _, _, _, _, _, _, _, _, _ => none
 | k + 1, x1, x7, x8, x9, x10, x11, x997, x315000, x315001, x315002, x315003, x315004, x315005 => impl_layout.l0 k x1 x7 x8 x9 x10 x11 (([] : List ByteArray)) x315004 (x315004.length : Int) 0 x997 x315000 x315001 x315002 x315003 x315004 x315005
def impl_layout.l0 : Nat → Bool → ByteArray → ByteArray → ByteArray → ByteArray → ByteArray → List ByteArray → List (S34) → Int → Int → List Int → Int → Int → Int → ByteArray → List (S34) → List ByteArray → Option (ByteArray)
 | 0, _, _, _, _, _, _, _, _, _, _, _, _, _, _, _, _, _ => none
 | k + 1, x1, x7, x8, x9, x10, x11, x12, x52, x53, x54, x997, x315000, x315001, x315002, x315003, x315004, x315005 => if x54 < x53 then (if 0 ≤ x54 then (if x54 < (x52.length : Int) then (if x315000 = 6 then (if x54 < (x315005.length : Int) then ((impl_jsonText.f k (rdOf ByteArray.empty x315005 x54)).bind fun t324 => (if t324.size + 1 ≤ 9223372036854775807 then (if (t324 ++ (⟨#[58]⟩ : ByteArray)).size + x9.size ≤ 9223372036854775807 then (if x8.size + ((t324 ++ (⟨#[58]⟩ : ByteArray)) ++ x9).size ≤ 9223372036854775807 then ((impl_layout.f k ((rd_T34 x52 x54).f0) ((rd_T34 x52 x54).f1.f0) ((rd_T34 x52 x54).f1.f1) ((rd_T34 x52 x54).f2) ((rd_T34 x52 x54).f3) ((rd_T34 x52 x54).f4) x1 x7 x997).bind fun t325 => (if (x8 ++ ((t324 ++ (⟨#[58]⟩ : ByteArray)) ++ x9)).size + t325.size ≤ 9223372036854775807 then (if x12.length < 8796093022208 then (impl_layout.l0 k x1 x7 x8 x9 x10 x11 (x12 ++ [(x8 ++ ((t324 ++ (⟨#[58]⟩ : ByteArray)) ++ x9)) ++ t325]) x52 x53 (wrap64 (x54 + 1)) x997 x315000 x315001 x315002 x315003 x315004 x315005) else (none)) else (none))) else (none)) else (none)) else (none))) else (none)) else ((impl_layout.f k ((rd_T34 x52 x54).f0) ((rd_T34 x52 x54).f1.f0) ((rd_T34 x52 x54).f1.f1) ((rd_T34 x52 x54).f2) ((rd_T34 x52 x54).f3) ((rd_T34 x52 x54).f4) x1 x7 x997).bind fun t329 => (if x8.size + t329.size ≤ 9223372036854775807 then (if x12.length < 8796093022208 then (impl_layout.l0 k x1 x7 x8 x9 x10 x11 (x12 ++ [x8 ++ t329]) x52 x53 (wrap64 (x54 + 1)) x997 x315000 x315001 x315002 x315003 x315004 x315005) else (none)) else (none)))) else (none)) else (none)) else (if 0 ≤ 1 then (if 1 ≤ (x11.size : Int) then ((strings_Join.f x12 (⟨#[44]⟩ : ByteArray)).bind fun t320 => (if (x11.extract 0 1).size + t320.size ≤ 9223372036854775807 then (if ((x11.extract 0 1) ++ t320).size + x10.size ≤ 9223372036854775807 then (if (((x11.extract 0 1) ++ t320) ++ x10).size + (x11.extract 1 x11.size).size ≤ 9223372036854775807 then (some ((((x11.extract 0 1) ++ t320) ++ x10) ++ (x11.extract 1 x11.size))) else (none)) else (none)) else (none))) else (none)) else (none))
def impl_layout.f : Nat → Int → Int → Int → ByteArray → List (S34) → List ByteArray → Bool → ByteArray → List Int → Option (ByteArray)
 | 0, _, _, _, _, _, _, _, _, _ => none
 | k + 1, a0_0, a0_1, a0_2, a0_3, l0_4, l0_5, a1, a2, l3 => if a0_0 = 0 then (some (⟨#[110, 117, 108, 108]⟩ : ByteArray)) else (if a0_0 = 1 then (some (⟨#[116, 114, 117, 101]⟩ : ByteArray)) else (if a0_0 = 2 then (some (⟨#[102, 97, 108, 115, 101]⟩ : ByteArray)) else (if a0_0 = 3 then ((impl_DecText.f k a0_1 a0_2 l3).bind fun t315 => (some t315)) else (if a0_0 = 4 then ((impl_jsonText.f k a0_3).bind fun t316 => (some t316)) else (if a1 = true then (impl_layout.j0 k a1 a2 (⟨#[]⟩ : ByteArray) (⟨#[]⟩ : ByteArray) (⟨#[]⟩ : ByteArray) (⟨#[]⟩ : ByteArray) (decide ((l0_4.length : Int) > 0)) l3 a0_0 a0_1 a0_2 a0_3 l0_4 l0_5) else (impl_layout.j0 k a1 a2 (⟨#[]⟩ : ByteArray) (⟨#[]⟩ : ByteArray) (⟨#[]⟩ : ByteArray) (⟨#[]⟩ : ByteArray) false l3 a0_0 a0_1 a0_2 a0_3 l0_4 l0_5))))))
end
theorem impl_layout.mono_l : ∀ k, (∀ y0 y1 y2 y3 y4 y5 y6 y7 y8, LeO (impl_layout.f k y0 y1 y2 y3 y4 y5 y6 y7 y8) (impl_layout.f (k + 1) y0 y1 y2 y3 y4 y5 y6 y7 y8)) ∧ (∀ y0 y1 y2 y3 y4 y5 y6 y7 y8 y9 y10 y11 y12 y13, LeO (impl_layout.j0 k y0 y1 y2 y3 y4 y5 y6 y7 y8 y9 y10 y11 y12 y13) (impl_layout.j0 (k + 1) y0 y1 y2 y3 y4 y5 y6 y7 y8 y9 y10 y11 y12 y13)) ∧ (∀ y0 y1 y2 y3 y4 y5 y6 y7 y8 y9 y10 y11, LeO (impl_layout.j1 k y0 y1 y2 y3 y4 y5 y6 y7 y8 y9 y10 y11) (impl_layout.j1 (k + 1) y0 y1 y2 y3 y4 y5 y6 y7 y8 y9 y10 y11)) ∧ (∀ y0 y1 y2 y3 y4 y5 y6 y7 y8 y9 y10 y11 y12, LeO (impl_layout.j2 k y0 y1 y2 y3 y4 y5 y6 y7 y8 y9 y10 y11 y12) (impl_layout.j2 (k + 1) y0 y1 y2 y3 y4 y5 y6 y7 y8 y9 y10 y11 y12)) ∧ (∀ y0 y1 y2 y3 y4 y5 y6 y7 y8 y9 y10 y11 y12 y13 y14 y15 y16, LeO (impl_layout.l0 k y0 y1 y2 y3 y4 y5 y6 y7 y8 y9 y10 y11 y12 y13 y14 y15 y16) (impl_layout.l0 (k + 1) y0 y1 y2 y3 y4 y5 y6 y7 y8 y9 y10 y11 y12 y13 y14 y15 y16))
 | 0 => ⟨fun _ _ _ _ _ _ _ _ _ r h => by simp [impl_layout.f] at h, fun _ _ _ _ _ _ _ _ _ _ _ _ _ _ r h => by simp [impl_layout.j0] at h, fun _ _ _ _ _ _ _ _ _ _ _ _ r h => by simp [impl_layout.j1] at h, fun _ _ _ _ _ _ _ _ _ _ _ _ _ r h => by simp [impl_layout.j2] at h, fun _ _ _ _ _ _ _ _ _ _ _ _ _ _ _ _ _ r h => by simp [impl_layout.l0] at h⟩
 | k + 1 => by
  obtain ⟨ih0, ih1, ih2, ih3, ih4⟩ := impl_layout.mono_l k
  refine ⟨?_, ?_, ?_, ?_, ?_⟩
  ·intro y0 y1 y2 y3 y4 y5 y6 y7 y8
   unfold impl_layout.f
   repeat' first
   | (with_reducible exact ih0 _ _ _ _ _ _ _ _ _)
   | (with_reducible exact ih1 _ _ _ _ _ _ _ _ _ _ _ _ _ _)
   | (with_reducible exact ih2 _ _ _ _ _ _ _ _ _ _ _ _)
   | (with_reducible exact ih3 _ _ _ _ _ _ _ _ _ _ _ _ _)
   | (with_reducible exact ih4 _ _ _ _ _ _ _ _ _ _ _ _ _ _ _ _ _)
   | (with_reducible exact impl_DecText.mono _ _ _ _)
   | (with_reducible exact impl_jsonText.mono _ _)
   | (with_reducible exact LeO.refl _)
   | (with_reducible exact LeO.none _)
   | (with_reducible refine LeO.ite ?_ ?_)
   | (with_reducible refine LeO.bind ?_ (fun _ => ?_))
   | exact ih0 _ _ _ _ _ _ _ _ _
   | exact ih1 _ _ _ _ _ _ _ _ _ _ _ _ _ _
   | exact ih2 _ _ _ _ _ _ _ _ _ _ _ _
   | exact ih3 _ _ _ _ _ _ _ _ _ _ _ _ _
   | exact ih4 _ _ _ _ _ _ _ _ _ _ _ _ _ _ _ _ _
  ·intro y0 y1 y2 y3 y4 y5 y6 y7 y8 y9 y10 y11 y12 y13
   unfold impl_layout.j0
   repeat' first
   | (with_reducible exact ih0 _ _ _ _ _ _ _ _ _)
   | (with_reducible exact ih1 _ _ _ _ _ _ _ _ _ _ _ _ _ _)
   | (with_reducible exact ih2 _ _ _ _ _ _ _ _ _ _ _ _)
   | (with_reducible exact ih3 _ _ _ _ _ _ _ _ _ _ _ _ _)
   | (with_reducible exact ih4 _ _ _ _ _ _ _ _ _ _ _ _ _ _ _ _ _)
   | (with_reducible exact impl_DecText.mono _ _ _ _)
   | (with_reducible exact impl_jsonText.mono _ _)
   | (with_reducible exact LeO.refl _)
   | (with_reducible exact LeO.none _)
   | (with_reducible refine LeO.ite ?_ ?_)
   | (with_reducible refine LeO.bind ?_ (fun _ => ?_))
   | exact ih0 _ _ _ _ _ _ _ _ _
   | exact ih1 _ _ _ _ _ _ _ _ _ _ _ _ _ _
   | exact ih2 _ _ _ _ _ _ _ _ _ _ _ _
   | exact ih3 _ _ _ _ _ _ _ _ _ _ _ _ _
   | exact ih4 _ _ _ _ _ _ _ _ _ _ _ _ _ _ _ _ _
  ·intro y0 y1 y2 y3 y4 y5 y6 y7 y8 y9 y10 y11
   unfold impl_layout.j1
   repeat' first
   | (with_reducible exact ih0 _ _ _ _ _ _ _ _ _)
   | (with_reducible exact ih1 _ _ _ _ _ _ _ _ _ _ _ _ _ _)
   | (with_reducible exact ih2 _ _ _ _ _ _ _ _ _ _ _ _)
   | (with_reducible exact ih3 _ _ _ _ _ _ _ _ _ _ _ _ _)
   | (with_reducible exact ih4 _ _ _ _ _ _ _ _ _ _ _ _ _ _ _ _ _)
   | (with_reducible exact impl_DecText.mono _ _ _ _)
   | (with_reducible exact impl_jsonText.mono _ _)
   | (with_reducible exact LeO.refl _)
   | (with_reducible exact LeO.none _)
   | (with_reducible refine LeO.ite ?_ ?_)
   | (with_reducible refine LeO.bind ?_ (fun _ => ?_))
   | exact ih0 _ _ _ _ _ _ _ _ _
   | exact ih1 _ _ _ _ _ _ _ _ _ _ _ _ _ _
   | exact ih2 _ _ _ _ _ _ _ _ _ _ _ _
   | exact ih3 _ _ _ _ _ _ _ _ _ _ _ _ _
   | exact ih4 _ _ _ _ _ _ _ _ _ _ _ _ _ _ _ _ _
  ·intro y0 y1 y2 y3 y4 y5 y6 y7 y8 y9 y10 y11 y12
   unfold impl_layout.j2
   repeat' first
   | (with_reducible exact ih0 _ _ _ _ _ _ _ _ _)
   | (with_reducible exact ih1 _ _ _ _ _ _ _ _ _ _ _ _ _ _)
   | (with_reducible exact ih2 _ _ _ _ _ _ _ _ _ _ _ _)
   | (with_reducible exact ih3 _ _ _ _ _ _ _ _ _ _ _ _ _)
   | (with_reducible exact ih4 _ _ _ _ _ _ _ _ _ _ _ _ _ _ _ _ _)
   | (with_reducible exact impl_DecText.mono _ _ _ _)
   | (with_reducible exact impl_jsonText.mono _ _)
   | (with_reducible exact LeO.refl _)
   | (with_reducible exact LeO.none _)
   | (with_reducible refine LeO.ite ?_ ?_)
   | (with_reducible refine LeO.bind ?_ (fun _ => ?_))
   | exact ih0 _ _ _ _ _ _ _ _ _
   | exact ih1 _ _ _ _ _ _ _ _ _ _ _ _ _ _
   | exact ih2 _ _ _ _ _ _ _ _ _ _ _ _
   | exact ih3 _ _ _ _ _ _ _ _ _ _ _ _ _
   | exact ih4 _ _ _ _ _ _ _ _ _ _ _ _ _ _ _ _ _
  ·intro y0 y1 y2 y3 y4 y5 y6 y7 y8 y9 y10 y11 y12 y13 y14 y15 y16
   unfold impl_layout.l0
   repeat' first
   | (with_reducible exact ih0 _ _ _ _ _ _ _ _ _)
   | (with_reducible exact ih1 _ _ _ _ _ _ _ _ _ _ _ _ _ _)
   | (with_reducible exact ih2 _ _ _ _ _ _ _ _ _ _ _ _)
   | (with_reducible exact ih3 _ _ _ _ _ _ _ _ _ _ _ _ _)
   | (with_reducible exact ih4 _ _ _ _ _ _ _ _ _ _ _ _ _ _ _ _ _)
   | (with_reducible exact impl_DecText.mono _ _ _ _)
   | (with_reducible exact impl_jsonText.mono _ _)
   | (with_reducible exact LeO.refl _)
   | (with_reducible exact LeO.none _)
   | (with_reducible refine LeO.ite ?_ ?_)
   | (with_reducible refine LeO.bind ?_ (fun _ => ?_))
   | exact ih0 _ _ _ _ _ _ _ _ _
   | exact ih1 _ _ _ _ _ _ _ _ _ _ _ _ _ _
   | exact ih2 _ _ _ _ _ _ _ _ _ _ _ _
   | exact ih3 _ _ _ _ _ _ _ _ _ _ _ _ _
   | exact ih4 _ _ _ _ _ _ _ _ _ _ _ _ _ _ _ _ _
theorem impl_layout.mono : ∀ a0 a1 a2 a3 a4 a5 a6 a7 a8 k, LeO (impl_layout.f k a0 a1 a2 a3 a4 a5 a6 a7 a8) (impl_layout.f (k + 1) a0 a1 a2 a3 a4 a5 a6 a7 a8) := by
 intro a0 a1 a2 a3 a4 a5 a6 a7 a8 k
 obtain ⟨ih0, ih1, ih2, ih3, ih4⟩ := impl_layout.mono_l k
 exact ih0 a0 a1 a2 a3 a4 a5 a6 a7 a8
def impl_layout.T28 : Bool × List (List Nat × List Nat) := (true, [([], []), ([0], [0]), ([], []), ([2], [2]), ([1, 3], [1, 3]), ([], []), ([4, 5], [4, 5]), ([], []), ([7], [7]), ([6, 8], [6, 8]), ([9, 3, 0, 1, 2, 3, 4, 5, 6, 7, 8, 9], [9])])
def impl_layout.B28 : List Nat := [0, 1, 0, 4, 15, 0, 63, 0, 128, 511, 1023]
theorem impl_layout.tab28 : rtab .any (opsOf Tryd.f33 28) = impl_layout.T28 := by kernel_rfl
theorem impl_layout.bits28 : waitsOk impl_layout.T28.2 impl_layout.B28 = true := by kernel_rfl
set_option maxHeartbeats 8000000 in
set_option maxRecDepth 100000 in
theorem impl_layout.calls (k : Nat) : ∀ (a0_0 : Int) (a0_1 : Int) (a0_2 : Int) (a0_3 : ByteArray) (A0_4 : Option Addr) (c0_4 : Nat) (l0_4 : List (S34)) (A0_5 : Option Addr) (c0_5 : Nat) (l0_5 : List ByteArray) (a1 : Bool) (a2 : ByteArray) (A3 : Option Addr) (c3 : Nat) (l3 : List Int) (r : ByteArray) (w : World) (hr0_4 : Kd.C k34 w A0_4 l0_4.length l0_4) (hc0_4 : l0_4.length ≤ c0_4) (hr0_5 : Kd.C Kd.string w A0_5 l0_5.length l0_5) (hc0_5 : l0_5.length ≤ c0_5) (hr3 : Kd.C kPow w A3 l3.length l3) (hc3 : l3.length ≤ c3) (hg3 : A3 = some ⟨2, 0, none⟩ ∧ l3 = [1]) (h : impl_layout.f k a0_0 a0_1 a0_2 a0_3 l0_4 l0_5 a1 a2 l3 = some r),
  Calls Tryd.prog 33 #[.agg #[.int .i64 a0_0, .int .i64 a0_1, .int .i64 a0_2, .string a0_3, .slice A0_4 l0_4.length c0_4, .slice A0_5 l0_5.length c0_5], .bool a1, .string a2] w fun e w' => e = .returned (.string r) ∧ Below w.heap.size w w' := by
 induction k using Nat.strongRecOn with
 | _ k ih =>
 intro a0_0 a0_1 a0_2 a0_3 A0_4 c0_4 l0_4 A0_5 c0_5 l0_5 a1 a2 A3 c3 l3 r w hr0_4 hc0_4 hr0_5 hc0_5 hr3 hc3 hg3 h
 cases k with
 | zero => exact absurd h (by simp [impl_layout.f])
 | succ k =>
 simp only [impl_layout.f] at h
 have hu34 := Tryd.underlying34
 have hu31 := Tryd.underlying31
 have HR0_4 := zA hr0_4
 have HC0_4 := zA hc0_4
 clear hr0_4 hc0_4
 have HR0_5 := zA hr0_5
 have HC0_5 := zA hc0_5
 clear hr0_5 hc0_5
 have HG3 := zA hg3
 clear hg3
 have HR3 := zA hr3
 have HC3 := zA hc3
 clear hr3 hc3
 have HB := zA (yH w.heap.size w)
 have H : (if a0_0 = 0 then (some (⟨#[110, 117, 108, 108]⟩ : ByteArray)) else (if a0_0 = 1 then (some (⟨#[116, 114, 117, 101]⟩ : ByteArray)) else (if a0_0 = 2 then (some (⟨#[102, 97, 108, 115, 101]⟩ : ByteArray)) else (if a0_0 = 3 then ((impl_DecText.f k a0_1 a0_2 l3).bind fun t315 => (some t315)) else (if a0_0 = 4 then ((impl_jsonText.f k a0_3).bind fun t316 => (some t316)) else (if a1 = true then (impl_layout.j0 k a1 a2 (⟨#[]⟩ : ByteArray) (⟨#[]⟩ : ByteArray) (⟨#[]⟩ : ByteArray) (⟨#[]⟩ : ByteArray) (decide ((l0_4.length : Int) > 0)) l3 a0_0 a0_1 a0_2 a0_3 l0_4 l0_5) else (impl_layout.j0 k a1 a2 (⟨#[]⟩ : ByteArray) (⟨#[]⟩ : ByteArray) (⟨#[]⟩ : ByteArray) (⟨#[]⟩ : ByteArray) false l3 a0_0 a0_1 a0_2 a0_3 l0_4 l0_5))))))) = some r := h
 clear h
 by_cases c5 : a0_0 = 0
 ·rw [if_pos c5] at H
  have c5b0 : (a0_0 == 0) = true := beq_iff_eq.mpr c5
  have c5b1 : (a0_0 != 0) = false := bne_eq_false_iff_eq.mpr c5
  clear c5
  obtain rfl := yG H
  go_enter Tryd.func33, Tryd.ntmps33
  go_wp2_with (first | ((with_reducible refine zS (N := 3) rfl ?_); (try (refine gate_guard (by rfl) ?_; dsimp only)); refine zW ?hg (N := 3) ?hd (cs := #[.int .i64 a0_0, .int .i64 a0_1, .int .i64 a0_2, .string a0_3, .slice A0_4 l0_4.length c0_4, .slice A0_5 l0_5.length c0_5]) (t := 34) ?hr ?_; (case hd => rfl); (case hg => rfl); (case hr => first | (go_simp; done) | (go_simp; rfl)); intro gb314 hg w6 hbox hb; have n0_ := zA (zP apA hb); have n1_ := zA (hbox); have n2_ := zA ((by rw [hg]; exact (zQ apA) : w.heap.size ≤ gb314)); have n3_ := zA ((by rw [hg]; exact (zQ apA) : w.heap.size ≤ gb314)); clear HB; have HB := n0_; have BK314 := n1_; have GW314 := n2_; have GE314 := n3_; clear n0_ n1_ n2_ n3_; clear hb hbox hg; obtain ⟨hcz7_0, hcz7_1, hcz7_2, hcz7_3, hcz7_4, hcz7_5, hfz7_0, hfz7_1, hfz7_2, hfz7_3, hfz7_4, hfz7_5⟩ := zb6 BK314.out))
  go_ret
  exact ⟨apD, apL⟩
 ·rw [if_neg c5] at H
  have c5b0 : (a0_0 == 0) = false := beq_eq_false_iff_ne.mpr c5
  have c5b1 : (a0_0 != 0) = true := bne_iff_ne.mpr c5
  by_cases c8 : a0_0 = 1
  ·rw [if_pos c8] at H
   have c8b0 : (a0_0 == 1) = true := beq_iff_eq.mpr c8
   have c8b1 : (a0_0 != 1) = false := bne_eq_false_iff_eq.mpr c8
   clear c8
   obtain rfl := yG H
   go_enter Tryd.func33, Tryd.ntmps33
   go_wp2_with (first | ((with_reducible refine zS (N := 3) rfl ?_); (try (refine gate_guard (by rfl) ?_; dsimp only)); refine zW ?hg (N := 3) ?hd (cs := #[.int .i64 a0_0, .int .i64 a0_1, .int .i64 a0_2, .string a0_3, .slice A0_4 l0_4.length c0_4, .slice A0_5 l0_5.length c0_5]) (t := 34) ?hr ?_; (case hd => rfl); (case hg => rfl); (case hr => first | (go_simp; done) | (go_simp; rfl)); intro gb314 hg w9 hbox hb; have n0_ := zA (zP apA hb); have n1_ := zA (hbox); have n2_ := zA ((by rw [hg]; exact (zQ apA) : w.heap.size ≤ gb314)); have n3_ := zA ((by rw [hg]; exact (zQ apA) : w.heap.size ≤ gb314)); clear HB; have HB := n0_; have BK314 := n1_; have GW314 := n2_; have GE314 := n3_; clear n0_ n1_ n2_ n3_; clear hb hbox hg; obtain ⟨hcz10_0, hcz10_1, hcz10_2, hcz10_3, hcz10_4, hcz10_5, hfz10_0, hfz10_1, hfz10_2, hfz10_3, hfz10_4, hfz10_5⟩ := zb6 BK314.out))
   go_ret
   exact ⟨apD, apL⟩
  ·rw [if_neg c8] at H
   have c8b0 : (a0_0 == 1) = false := beq_eq_false_iff_ne.mpr c8
   have c8b1 : (a0_0 != 1) = true := bne_iff_ne.mpr c8
   by_cases c11 : a0_0 = 2
   ·rw [if_pos c11] at H
    have c11b0 : (a0_0 == 2) = true := beq_iff_eq.mpr c11
    have c11b1 : (a0_0 != 2) = false := bne_eq_false_iff_eq.mpr c11
    clear c11
    obtain rfl := yG H
    go_enter Tryd.func33, Tryd.ntmps33
    go_wp2_with (first | ((with_reducible refine zS (N := 3) rfl ?_); (try (refine gate_guard (by rfl) ?_; dsimp only)); refine zW ?hg (N := 3) ?hd (cs := #[.int .i64 a0_0, .int .i64 a0_1, .int .i64 a0_2, .string a0_3, .slice A0_4 l0_4.length c0_4, .slice A0_5 l0_5.length c0_5]) (t := 34) ?hr ?_; (case hd => rfl); (case hg => rfl); (case hr => first | (go_simp; done) | (go_simp; rfl)); intro gb314 hg w12 hbox hb; have n0_ := zA (zP apA hb); have n1_ := zA (hbox); have n2_ := zA ((by rw [hg]; exact (zQ apA) : w.heap.size ≤ gb314)); have n3_ := zA ((by rw [hg]; exact (zQ apA) : w.heap.size ≤ gb314)); clear HB; have HB := n0_; have BK314 := n1_; have GW314 := n2_; have GE314 := n3_; clear n0_ n1_ n2_ n3_; clear hb hbox hg; obtain ⟨hcz13_0, hcz13_1, hcz13_2, hcz13_3, hcz13_4, hcz13_5, hfz13_0, hfz13_1, hfz13_2, hfz13_3, hfz13_4, hfz13_5⟩ := zb6 BK314.out))
    go_ret
    exact ⟨apD, apL⟩
   ·rw [if_neg c11] at H
    have c11b0 : (a0_0 == 2) = false := beq_eq_false_iff_ne.mpr c11
    have c11b1 : (a0_0 != 2) = true := bne_iff_ne.mpr c11
    by_cases c14 : a0_0 = 3
    ·rw [if_pos c14] at H
     have c14b0 : (a0_0 == 3) = true := beq_iff_eq.mpr c14
     have c14b1 : (a0_0 != 3) = false := bne_eq_false_iff_eq.mpr c14
     clear c14
     replace H := Option.bind_eq_some_iff.mp H
     obtain ⟨t315, A150, H⟩ := H
     have A15 := zA A150
     clear A150
     obtain rfl := yG H
     go_enter Tryd.func33, Tryd.ntmps33
     go_wp2_with (first | ((with_reducible refine zS (N := 3) rfl ?_); (try (refine gate_guard (by rfl) ?_; dsimp only)); refine zW ?hg (N := 3) ?hd (cs := #[.int .i64 a0_0, .int .i64 a0_1, .int .i64 a0_2, .string a0_3, .slice A0_4 l0_4.length c0_4, .slice A0_5 l0_5.length c0_5]) (t := 34) ?hr ?_; (case hd => rfl); (case hg => rfl); (case hr => first | (go_simp; done) | (go_simp; rfl)); intro gb314 hg w16 hbox hb; have n0_ := zA (zP apA hb); have n1_ := zA (hbox); have n2_ := zA ((by rw [hg]; exact (zQ apA) : w.heap.size ≤ gb314)); have n3_ := zA ((by rw [hg]; exact (zQ apA) : w.heap.size ≤ gb314)); clear HB; have HB := n0_; have BK314 := n1_; have GW314 := n2_; have GE314 := n3_; clear n0_ n1_ n2_ n3_; clear hb hbox hg; obtain ⟨hcz17_0, hcz17_1, hcz17_2, hcz17_3, hcz17_4, hcz17_5, hfz17_0, hfz17_1, hfz17_2, hfz17_3, hfz17_4, hfz17_5⟩ := zb6 BK314.out) | ((with_reducible refine zT (f := 42) rfl ?_); refine goesL_ (some 28) rfl rfl Tryd.func42 (by kernel_rfl) rfl #[.agg #[.int .i64 a0_1, .int .i64 a0_2]] rfl apE ?_; (with_reducible refine (impl_DecText.calls k a0_1 a0_2 A3 c3 l3 t315 _ ?side1 ?side2 ?side3 A15.out).mono ?_); (case side1 => repeat (first | exact (Kd.C_below HR3.out HB.out) | (with_reducible refine Kd.C_alloc ?_ _) | (with_reducible refine Kd.C_drewN ?_ _) | (with_reducible refine Kd.C_drew ?_))); (case side2 => exact HC3.out); (case side3 => exact HG3.out); rintro e w18 ⟨rfl, hb⟩; refine ⟨_, rfl, ?_⟩; have n0_ := zA (zP apA hb); clear HB; have HB := n0_; clear n0_; (try clear hb); (try clear hb2); (try clear hk); (try clear hi)))
     go_ret
     exact ⟨apD, apA⟩
    ·rw [if_neg c14] at H
     have c14b0 : (a0_0 == 3) = false := beq_eq_false_iff_ne.mpr c14
     have c14b1 : (a0_0 != 3) = true := bne_iff_ne.mpr c14
     by_cases c19 : a0_0 = 4
     ·rw [if_pos c19] at H
      have c19b0 : (a0_0 == 4) = true := beq_iff_eq.mpr c19
      have c19b1 : (a0_0 != 4) = false := bne_eq_false_iff_eq.mpr c19
      clear c19
      replace H := Option.bind_eq_some_iff.mp H
      obtain ⟨t316, A200, H⟩ := H
      have A20 := zA A200
      clear A200
      obtain rfl := yG H
      go_enter Tryd.func33, Tryd.ntmps33
      go_wp2_with (first | ((with_reducible refine zS (N := 3) rfl ?_); (try (refine gate_guard (by rfl) ?_; dsimp only)); refine zW ?hg (N := 3) ?hd (cs := #[.int .i64 a0_0, .int .i64 a0_1, .int .i64 a0_2, .string a0_3, .slice A0_4 l0_4.length c0_4, .slice A0_5 l0_5.length c0_5]) (t := 34) ?hr ?_; (case hd => rfl); (case hg => rfl); (case hr => first | (go_simp; done) | (go_simp; rfl)); intro gb314 hg w21 hbox hb; have n0_ := zA (zP apA hb); have n1_ := zA (hbox); have n2_ := zA ((by rw [hg]; exact (zQ apA) : w.heap.size ≤ gb314)); have n3_ := zA ((by rw [hg]; exact (zQ apA) : w.heap.size ≤ gb314)); clear HB; have HB := n0_; have BK314 := n1_; have GW314 := n2_; have GE314 := n3_; clear n0_ n1_ n2_ n3_; clear hb hbox hg; obtain ⟨hcz22_0, hcz22_1, hcz22_2, hcz22_3, hcz22_4, hcz22_5, hfz22_0, hfz22_1, hfz22_2, hfz22_3, hfz22_4, hfz22_5⟩ := zb6 BK314.out) | ((with_reducible refine zT (f := 43) rfl ?_); refine goesL_ (some 33) rfl rfl Tryd.func43 (by kernel_rfl) rfl #[.string a0_3] rfl apE ?_; (with_reducible refine (impl_jsonText.calls k a0_3 t316 _ A20.out).mono ?_); rintro e w23 ⟨rfl, hb⟩; refine ⟨_, rfl, ?_⟩; have n0_ := zA (zP apA hb); clear HB; have HB := n0_; clear n0_; (try clear hb); (try clear hb2); (try clear hk); (try clear hi)))
      go_ret
      exact ⟨apD, apA⟩
     ·rw [if_neg c19] at H
      have c19b0 : (a0_0 == 4) = false := beq_eq_false_iff_ne.mpr c19
      have c19b1 : (a0_0 != 4) = true := bne_iff_ne.mpr c19
      have HC24 := zA H
      clear H
      go_enter Tryd.func33, Tryd.ntmps33
      go_upto_region 13 with (first | ((with_reducible refine zS (N := 3) rfl ?_); (try (refine gate_guard (by rfl) ?_; dsimp only)); refine zW ?hg (N := 3) ?hd (cs := #[.int .i64 a0_0, .int .i64 a0_1, .int .i64 a0_2, .string a0_3, .slice A0_4 l0_4.length c0_4, .slice A0_5 l0_5.length c0_5]) (t := 34) ?hr ?_; (case hd => rfl); (case hg => rfl); (case hr => first | (go_simp; done) | (go_simp; rfl)); intro gb314 hg w25 hbox hb; have n0_ := zA (zP apA hb); have n1_ := zA (hbox); have n2_ := zA ((by rw [hg]; exact (zQ apA) : w.heap.size ≤ gb314)); have n3_ := zA ((by rw [hg]; exact (zQ apA) : w.heap.size ≤ gb314)); clear HB; have HB := n0_; have BK314 := n1_; have GW314 := n2_; have GE314 := n3_; clear n0_ n1_ n2_ n3_; clear hb hbox hg; obtain ⟨hcz26_0, hcz26_1, hcz26_2, hcz26_3, hcz26_4, hcz26_5, hfz26_0, hfz26_1, hfz26_2, hfz26_3, hfz26_4, hfz26_5⟩ := zb6 BK314.out))
      (try simp only [Act.put, zK, zL, zM])
      go_cut [40] (fun v40 wc => ∃ (kq : Nat) (x40_23 : Bool), v40 = .bool x40_23 ∧ Aside0 (impl_layout.j0 kq a1 a2 (⟨#[]⟩ : ByteArray) (⟨#[]⟩ : ByteArray) (⟨#[]⟩ : ByteArray) (⟨#[]⟩ : ByteArray) x40_23 l3 a0_0 a0_1 a0_2 a0_3 l0_4 l0_5 = some r) ∧ Aside0 (kq ≤ k) ∧ Aside0 (wc.heap[gb314]? = some (.cells #[.int .i64 a0_0, .int .i64 a0_1, .int .i64 a0_2, .string a0_3, (.slice A0_4 l0_4.length c0_4), (.slice A0_5 l0_5.length c0_5)] 34 (0, 0))) ∧ Aside0 (Below w.heap.size w wc))
      case first =>
       have H := HC24.out
       clear HC24
       by_cases c27 : a1 = true
       ·subst c27
        have H1 := H; rw [if_pos rfl] at H1
        clear H
        have H := H1
        clear H1
        have H' := zA H
        clear H
        obtain ⟨hcz28_0, hcz28_1, hcz28_2, hcz28_3, hcz28_4, hcz28_5, hfz28_0, hfz28_1, hfz28_2, hfz28_3, hfz28_4, hfz28_5⟩ := zb6 BK314.out
        go_wp2
        go_meet
        case rel => exact ⟨_, (decide ((l0_4.length : Int) > 0)), apC, H', ⟨by first | omega | exact yJ _⟩, ⟨apM⟩, ⟨apL⟩⟩
       ·replace c27 := Bool.eq_false_iff.mpr c27
        subst c27
        have H1 := H; rw [if_neg (show ¬ (false = true) by decide)] at H1
        clear H
        have H := H1
        clear H1
        have H' := zA H
        clear H
        go_wp2
        go_meet
        case rel => exact ⟨_, (false), apC, H', ⟨by first | omega | exact yJ _⟩, ⟨apM⟩, ⟨apL⟩⟩
      case rest =>
       clear HC24
       try clear c1 c2 p2 c3 c4 c5 c5b0 c5b1 c8 c8b0 c8b1 c11 c11b0 c11b1 c14 c14b0 c14b1 c19 c19b0 c19b1 c27 hcz10_0 hcz10_1 hcz10_2 hcz10_3 hcz10_4 hcz10_5 hcz13_0 hcz13_1 hcz13_2 hcz13_3 hcz13_4 hcz13_5 hcz17_0 hcz17_1 hcz17_2 hcz17_3 hcz17_4 hcz17_5 hcz22_0 hcz22_1 hcz22_2 hcz22_3 hcz22_4 hcz22_5 hcz26_0 hcz26_1 hcz26_2 hcz26_3 hcz26_4 hcz26_5 hcz28_0 hcz28_1 hcz28_2 hcz28_3 hcz28_4 hcz28_5 hcz7_0 hcz7_1 hcz7_2 hcz7_3 hcz7_4 hcz7_5 hfz10_0 hfz10_1 hfz10_2 hfz10_3 hfz10_4 hfz10_5 hfz13_0 hfz13_1 hfz13_2 hfz13_3 hfz13_4 hfz13_5 hfz17_0 hfz17_1 hfz17_2 hfz17_3 hfz17_4 hfz17_5 hfz22_0 hfz22_1 hfz22_2 hfz22_3 hfz22_4 hfz22_5 hfz26_0 hfz26_1 hfz26_2 hfz26_3 hfz26_4 hfz26_5 hfz28_0 hfz28_1 hfz28_2 hfz28_3 hfz28_4 hfz28_5 hfz7_0 hfz7_1 hfz7_2 hfz7_3 hfz7_4 hfz7_5
       obtain ⟨kq, x40_23, rfl, HA, HJ23, BK314, HB⟩ := hcut
       cases kq with
       | zero => exact absurd HA.out (by simp [impl_layout.j0])
       | succ kj23 =>
        have H := HA.out
        clear HA
        simp only [impl_layout.j0] at H
        have HC29 := zA H
        clear H
        go_upto_if 40 with (fail)
        go_cut [7, 8, 9, 10] (fun v7 v8 v9 v10 wc => ∃ (kq : Nat) (x7_28 : ByteArray) (x8_28 : ByteArray) (x9_28 : ByteArray) (x10_28 : ByteArray), v7 = .string x7_28 ∧ v8 = .string x8_28 ∧ v9 = .string x9_28 ∧ v10 = .string x10_28 ∧ Aside0 (impl_layout.j1 kq a1 x7_28 x8_28 x9_28 x10_28 l3 a0_0 a0_1 a0_2 a0_3 l0_4 l0_5 = some r) ∧ Aside0 (kq ≤ kj23) ∧ Aside0 (wc.heap[gb314]? = some (.cells #[.int .i64 a0_0, .int .i64 a0_1, .int .i64 a0_2, .string a0_3, (.slice A0_4 l0_4.length c0_4), (.slice A0_5 l0_5.length c0_5)] 34 (0, 0))) ∧ Aside0 (Below w.heap.size w wc))
        case first =>
         have H := HC29.out
         clear HC29
         by_cases c30 : x40_23 = true
         ·subst c30
          have H1 := H; rw [if_pos rfl] at H1
          clear H
          have H := H1
          clear H1
          by_cases c31 : a2.size + 2 ≤ 9223372036854775807
          ·rw [if_pos c31] at H
           have c31b0 := eq_true c31
           have c31b1 : decide (a2.size + 2 ≤ 9223372036854775807) = true := yE c31
           try have c31b2 : (9223372036854775807 < a2.size + 2) = False := eq_false (Nat.not_lt.2 c31)
           by_cases c32 : 1 + (a2 ++ (⟨#[32, 32]⟩ : ByteArray)).size ≤ 9223372036854775807
           ·rw [if_pos c32] at H
            (try (have c32b9 := eq_true c32; simp only [ByteArray.size_append, Int.natCast_add, show ((⟨#[32, 32]⟩ : ByteArray)).size = 2 from rfl] at c32b9))
            (try (have c32b8 := eq_false (Nat.not_lt.2 c32); simp only [ByteArray.size_append, show ((⟨#[32, 32]⟩ : ByteArray)).size = 2 from rfl] at c32b8))
            have c32b0 := eq_true c32
            have c32b1 : decide (1 + (a2 ++ (⟨#[32, 32]⟩ : ByteArray)).size ≤ 9223372036854775807) = true := yE c32
            try have c32b2 : (9223372036854775807 < 1 + (a2 ++ (⟨#[32, 32]⟩ : ByteArray)).size) = False := eq_false (Nat.not_lt.2 c32)
            try simp only [ByteArray.size_append] at c32b2
            by_cases c33 : 1 + a2.size ≤ 9223372036854775807
            ·rw [if_pos c33] at H
             have c33b0 := eq_true c33
             have c33b1 : decide (1 + a2.size ≤ 9223372036854775807) = true := yE c33
             try have c33b2 : (9223372036854775807 < 1 + a2.size) = False := eq_false (Nat.not_lt.2 c33)
             have H' := zA H
             clear H
             go_wp2
             go_meet
             case rel => exact ⟨_, (a2 ++ (⟨#[32, 32]⟩ : ByteArray)), ((⟨#[10]⟩ : ByteArray) ++ (a2 ++ (⟨#[32, 32]⟩ : ByteArray))), ((⟨#[32]⟩ : ByteArray)), ((⟨#[10]⟩ : ByteArray) ++ a2), apC, apC, apC, apC, H', ⟨by have := HJ23.out; first | omega | exact yJ _⟩, ⟨apM⟩, ⟨apL⟩⟩
            ·rw [if_neg c33] at H
             exact absurd H (by simp)
           ·rw [if_neg c32] at H
            exact absurd H (by simp)
          ·rw [if_neg c31] at H
           exact absurd H (by simp)
         ·replace c30 := Bool.eq_false_iff.mpr c30
          subst c30
          have H1 := H; rw [if_neg (show ¬ (false = true) by decide)] at H1
          clear H
          have H := H1
          clear H1
          have H' := zA H
          clear H
          go_wp2
          go_meet
          case rel => exact ⟨_, ((⟨#[]⟩ : ByteArray)), ((⟨#[]⟩ : ByteArray)), ((⟨#[]⟩ : ByteArray)), ((⟨#[]⟩ : ByteArray)), apC, apC, apC, apC, H', ⟨by have := HJ23.out; first | omega | exact yJ _⟩, ⟨apM⟩, ⟨apL⟩⟩
        case rest =>
         clear HC29
         try clear c1 c2 p2 c3 c4 c5 c5b0 c5b1 c8 c8b0 c8b1 c11 c11b0 c11b1 c14 c14b0 c14b1 c19 c19b0 c19b1 c27 c30 c31 c31b0 c31b1 c31b2 c32 c32b0 c32b1 c32b2 c33 c33b0 c33b1 c33b2 hcz10_0 hcz10_1 hcz10_2 hcz10_3 hcz10_4 hcz10_5 hcz13_0 hcz13_1 hcz13_2 hcz13_3 hcz13_4 hcz13_5 hcz17_0 hcz17_1 hcz17_2 hcz17_3 hcz17_4 hcz17_5 hcz22_0 hcz22_1 hcz22_2 hcz22_3 hcz22_4 hcz22_5 hcz26_0 hcz26_1 hcz26_2 hcz26_3 hcz26_4 hcz26_5 hcz28_0 hcz28_1 hcz28_2 hcz28_3 hcz28_4 hcz28_5 hcz7_0 hcz7_1 hcz7_2 hcz7_3 hcz7_4 hcz7_5 hfz10_0 hfz10_1 hfz10_2 hfz10_3 hfz10_4 hfz10_5 hfz13_0 hfz13_1 hfz13_2 hfz13_3 hfz13_4 hfz13_5 hfz17_0 hfz17_1 hfz17_2 hfz17_3 hfz17_4 hfz17_5 hfz22_0 hfz22_1 hfz22_2 hfz22_3 hfz22_4 hfz22_5 hfz26_0 hfz26_1 hfz26_2 hfz26_3 hfz26_4 hfz26_5 hfz28_0 hfz28_1 hfz28_2 hfz28_3 hfz28_4 hfz28_5 hfz7_0 hfz7_1 hfz7_2 hfz7_3 hfz7_4 hfz7_5 p2
         obtain ⟨kq, x7_28, x8_28, x9_28, x10_28, rfl, rfl, rfl, rfl, HA, HJ28, BK314, HB⟩ := hcut
         cases kq with
         | zero => exact absurd HA.out (by simp [impl_layout.j1])
         | succ kj28 =>
          have H := HA.out
          clear HA
          simp only [impl_layout.j1] at H
          have HC34 := zA H
          clear H
          obtain ⟨hcz35_0, hcz35_1, hcz35_2, hcz35_3, hcz35_4, hcz35_5, hfz35_0, hfz35_1, hfz35_2, hfz35_3, hfz35_4, hfz35_5⟩ := zb6 BK314.out
          go_upto_if 49 with (fail)
          go_cut [11] (fun v11 wc => ∃ (kq : Nat) (x11_33 : ByteArray), v11 = .string x11_33 ∧ Aside0 (impl_layout.j2 kq a1 x7_28 x8_28 x9_28 x10_28 x11_33 l3 a0_0 a0_1 a0_2 a0_3 l0_4 l0_5 = some r) ∧ Aside0 (kq ≤ kj28) ∧ Aside0 (wc.heap[gb314]? = some (.cells #[.int .i64 a0_0, .int .i64 a0_1, .int .i64 a0_2, .string a0_3, (.slice A0_4 l0_4.length c0_4), (.slice A0_5 l0_5.length c0_5)] 34 (0, 0))) ∧ Aside0 (Below w.heap.size w wc))
          case first =>
           have H := HC34.out
           clear HC34
           by_cases c36 : a0_0 = 6
           ·rw [if_pos c36] at H
            have c36b0 : (a0_0 == 6) = true := beq_iff_eq.mpr c36
            have c36b1 : (a0_0 != 6) = false := bne_eq_false_iff_eq.mpr c36
            clear c36
            (first | rw [c36b0] | (simp only [i64_w, i32_w]; rw [c36b0]) | skip)
            have H' := zA H
            clear H
            go_wp2
            go_meet
            case rel => exact ⟨_, ((⟨#[123, 125]⟩ : ByteArray)), apC, H', ⟨by have := HJ23.out; have := HJ28.out; first | omega | exact yJ _⟩, ⟨apM⟩, ⟨apL⟩⟩
           ·rw [if_neg c36] at H
            have c36b0 : (a0_0 == 6) = false := beq_eq_false_iff_ne.mpr c36
            have c36b1 : (a0_0 != 6) = true := bne_iff_ne.mpr c36
            (first | rw [c36b0] | (simp only [i64_w, i32_w]; rw [c36b0]) | skip)
            have H' := zA H
            clear H
            go_wp2
            go_meet
            case rel => exact ⟨_, ((⟨#[91, 93]⟩ : ByteArray)), apC, H', ⟨by have := HJ23.out; have := HJ28.out; first | omega | exact yJ _⟩, ⟨apM⟩, ⟨apL⟩⟩
          case rest =>
           clear HC34
           try clear c1 c2 p2 c3 c4 c5 c5b0 c5b1 c8 c8b0 c8b1 c11 c11b0 c11b1 c14 c14b0 c14b1 c19 c19b0 c19b1 c27 c30 c31 c31b0 c31b1 c31b2 c32 c32b0 c32b1 c32b2 c33 c33b0 c33b1 c33b2 c36 c36b0 c36b1 hcz10_0 hcz10_1 hcz10_2 hcz10_3 hcz10_4 hcz10_5 hcz13_0 hcz13_1 hcz13_2 hcz13_3 hcz13_4 hcz13_5 hcz17_0 hcz17_1 hcz17_2 hcz17_3 hcz17_4 hcz17_5 hcz22_0 hcz22_1 hcz22_2 hcz22_3 hcz22_4 hcz22_5 hcz26_0 hcz26_1 hcz26_2 hcz26_3 hcz26_4 hcz26_5 hcz28_0 hcz28_1 hcz28_2 hcz28_3 hcz28_4 hcz28_5 hcz35_0 hcz35_1 hcz35_2 hcz35_3 hcz35_4 hcz35_5 hcz7_0 hcz7_1 hcz7_2 hcz7_3 hcz7_4 hcz7_5 hfz10_0 hfz10_1 hfz10_2 hfz10_3 hfz10_4 hfz10_5 hfz13_0 hfz13_1 hfz13_2 hfz13_3 hfz13_4 hfz13_5 hfz17_0 hfz17_1 hfz17_2 hfz17_3 hfz17_4 hfz17_5 hfz22_0 hfz22_1 hfz22_2 hfz22_3 hfz22_4 hfz22_5 hfz26_0 hfz26_1 hfz26_2 hfz26_3 hfz26_4 hfz26_5 hfz28_0 hfz28_1 hfz28_2 hfz28_3 hfz28_4 hfz28_5 hfz35_0 hfz35_1 hfz35_2 hfz35_3 hfz35_4 hfz35_5 hfz7_0 hfz7_1 hfz7_2 hfz7_3 hfz7_4 hfz7_5 p2
           obtain ⟨kq, x11_33, rfl, HA, HJ33, BK314, HB⟩ := hcut
           cases kq with
           | zero => exact absurd HA.out (by simp [impl_layout.j2])
           | succ kj33 =>
            have H := HA.out
            clear HA
            simp only [impl_layout.j2] at H
            obtain ⟨y317, hy317⟩ : ∃ y_ : List ByteArray, y_ = (([] : List ByteArray)) := ⟨_, rfl⟩
            replace H : (impl_layout.l0 kj33 a1 x7_28 x8_28 x9_28 x10_28 x11_33 y317 l0_4 (l0_4.length : Int) 0 l3 a0_0 a0_1 a0_2 a0_3 l0_4 l0_5) = some r := by first | (rw [hy317]; with_reducible exact H) | (have H2_ := (Option.bind_some _ _).symm.trans H; rw [hy317]; with_reducible exact H2_) | (have H2_ := (Option.bind_some _ _).symm.trans H; with_reducible exact H2_) | with_reducible exact H | (rw [hy317]; exact H) | exact H
            have Ny317 := zA hy317
            clear hy317
            have H' := zA H
            clear H
            go_wp2_with (first | ((with_reducible refine zS (N := 50) rfl ?_); (try (refine gate_guard (by rfl) ?_; dsimp only)); refine Kd.R_lit Kd.string _ 9 ?hg (N := 50) ?hd (xs := ([] : List ByteArray)) (inner := []) (ok := fun _ => True) (okp := fun _ => True) ?hr ?hp (fun _ hk => hk) trivial (yH _ _) (yJ _) (by simp) ?_; (case hd => rfl); (case hg => rfl); (case hr => first | (go_simp; done) | (go_simp; rfl)); (case hp => exact (Reps.none _ _)); intro v318 w37 ho38 hb hg_ hnew_; clear hg_ hnew_; (first | rw [← Ny317.out] at ho38 | (simp only [Int.reduceToNat] at ho38; rw [← Ny317.out] at ho38)); have n0_ := zA (Kd.R_lower ho38 (zQ apL)); have n1_ := zA (zN (g := gb314) (o := .cells #[.int .i64 a0_0, .int .i64 a0_1, .int .i64 a0_2, .string a0_3, .slice A0_4 l0_4.length c0_4, .slice A0_5 l0_5.length c0_5] 34 (0, 0)) apM hb); have n2_ := zA (zP apL hb); clear BK314; clear HB; have HO319 := n0_; have BK314 := n1_; have HB := n2_; clear n0_ n1_ n2_; clear hb ho38; obtain ⟨hcz39_0, hcz39_1, hcz39_2, hcz39_3, hcz39_4, hcz39_5, hfz39_0, hfz39_1, hfz39_2, hfz39_3, hfz39_4, hfz39_5⟩ := zb6 BK314.out))
            go_loopg [12, 54] kj33 (fun kq v12 v54 w' => ∃ (x12_4 : List ByteArray) (x54_4 : Int), v54 = .int .i64 x54_4 ∧ Aside0 (impl_layout.l0 kq a1 x7_28 x8_28 x9_28 x10_28 x11_33 x12_4 l0_4 (l0_4.length : Int) x54_4 l3 a0_0 a0_1 a0_2 a0_3 l0_4 l0_5 = some r) ∧ Aside0 (kq ≤ kj33) ∧ Aside0 (Kd.R Kd.string 9 w' w.heap.size (fun _ => True) v12 x12_4) ∧ Aside0 (w'.heap[gb314]? = some (.cells #[.int .i64 a0_0, .int .i64 a0_1, .int .i64 a0_2, .string a0_3, (.slice A0_4 l0_4.length c0_4), (.slice A0_5 l0_5.length c0_5)] 34 (0, 0))) ∧ Aside0 (Below w.heap.size w w'))
            case atStart => exact ⟨(y317), (0), apC, H', ⟨yJ _⟩, ⟨by (with_reducible repeat (first | apply Kd.R_alloc | apply Kd.R_drewN | apply Kd.R_drew)); exact HO319.out⟩, ⟨apM⟩, ⟨apL⟩⟩
            case round =>
             clear H'
             try clear c1 c2 p2 c3 c4 c5 c5b0 c5b1 c8 c8b0 c8b1 c11 c11b0 c11b1 c14 c14b0 c14b1 c19 c19b0 c19b1 c27 c30 c31 c31b0 c31b1 c31b2 c32 c32b0 c32b1 c32b2 c33 c33b0 c33b1 c33b2 c36 c36b0 c36b1 hcz10_0 hcz10_1 hcz10_2 hcz10_3 hcz10_4 hcz10_5 hcz13_0 hcz13_1 hcz13_2 hcz13_3 hcz13_4 hcz13_5 hcz17_0 hcz17_1 hcz17_2 hcz17_3 hcz17_4 hcz17_5 hcz22_0 hcz22_1 hcz22_2 hcz22_3 hcz22_4 hcz22_5 hcz26_0 hcz26_1 hcz26_2 hcz26_3 hcz26_4 hcz26_5 hcz28_0 hcz28_1 hcz28_2 hcz28_3 hcz28_4 hcz28_5 hcz35_0 hcz35_1 hcz35_2 hcz35_3 hcz35_4 hcz35_5 hcz39_0 hcz39_1 hcz39_2 hcz39_3 hcz39_4 hcz39_5 hcz7_0 hcz7_1 hcz7_2 hcz7_3 hcz7_4 hcz7_5 hfz10_0 hfz10_1 hfz10_2 hfz10_3 hfz10_4 hfz10_5 hfz13_0 hfz13_1 hfz13_2 hfz13_3 hfz13_4 hfz13_5 hfz17_0 hfz17_1 hfz17_2 hfz17_3 hfz17_4 hfz17_5 hfz22_0 hfz22_1 hfz22_2 hfz22_3 hfz22_4 hfz22_5 hfz26_0 hfz26_1 hfz26_2 hfz26_3 hfz26_4 hfz26_5 hfz28_0 hfz28_1 hfz28_2 hfz28_3 hfz28_4 hfz28_5 hfz35_0 hfz35_1 hfz35_2 hfz35_3 hfz35_4 hfz35_5 hfz39_0 hfz39_1 hfz39_2 hfz39_3 hfz39_4 hfz39_5 hfz7_0 hfz7_1 hfz7_2 hfz7_3 hfz7_4 hfz7_5 p2
             obtain ⟨x12_4, x54_4, rfl, HA, HK4, HO_12, BK314, HB⟩ := hrel
             cases gk with
             | zero => exact absurd HA.out (by simp [impl_layout.l0])
             | succ k4 =>
              have H := HA.out
              clear HA
              simp only [impl_layout.l0] at H
              by_cases c40 : x54_4 < (l0_4.length : Int)
              ·rw [if_pos c40] at H
               have c40b0 : decide (x54_4 < (l0_4.length : Int)) = true := yE c40
               clear c40
               by_cases c41 : 0 ≤ x54_4
               ·rw [if_pos c41] at H
                have c41b0 : decide (0 ≤ x54_4) = true := yE c41
                clear c41
                by_cases c42 : x54_4 < (l0_4.length : Int)
                ·rw [if_pos c42] at H
                 have c42b0 : decide (x54_4 < (l0_4.length : Int)) = true := yE c42
                 clear c42
                 by_cases c43 : a0_0 = 6
                 ·rw [if_pos c43] at H
                  have c43b0 : (a0_0 == 6) = true := beq_iff_eq.mpr c43
                  have c43b1 : (a0_0 != 6) = false := bne_eq_false_iff_eq.mpr c43
                  clear c43
                  by_cases c44 : x54_4 < (l0_5.length : Int)
                  ·rw [if_pos c44] at H
                   have c44b0 : decide (x54_4 < (l0_5.length : Int)) = true := yE c44
                   clear c44
                   replace H := Option.bind_eq_some_iff.mp H
                   obtain ⟨t324, A450, H⟩ := H
                   have A45 := zA A450
                   clear A450
                   by_cases c46 : t324.size + 1 ≤ 9223372036854775807
                   ·rw [if_pos c46] at H
                    have c46b0 := eq_true c46
                    have c46b1 : decide (t324.size + 1 ≤ 9223372036854775807) = true := yE c46
                    try have c46b2 : (9223372036854775807 < t324.size + 1) = False := eq_false (Nat.not_lt.2 c46)
                    by_cases c47 : (t324 ++ (⟨#[58]⟩ : ByteArray)).size + x9_28.size ≤ 9223372036854775807
                    ·rw [if_pos c47] at H
                     (try (have c47b9 := eq_true c47; simp only [ByteArray.size_append, Int.natCast_add, show ((⟨#[58]⟩ : ByteArray)).size = 1 from rfl] at c47b9))
                     (try (have c47b8 := eq_false (Nat.not_lt.2 c47); simp only [ByteArray.size_append, show ((⟨#[58]⟩ : ByteArray)).size = 1 from rfl] at c47b8))
                     have c47b0 := eq_true c47
                     have c47b1 : decide ((t324 ++ (⟨#[58]⟩ : ByteArray)).size + x9_28.size ≤ 9223372036854775807) = true := yE c47
                     try have c47b2 : (9223372036854775807 < (t324 ++ (⟨#[58]⟩ : ByteArray)).size + x9_28.size) = False := eq_false (Nat.not_lt.2 c47)
                     try simp only [ByteArray.size_append] at c47b2
                     by_cases c48 : x8_28.size + ((t324 ++ (⟨#[58]⟩ : ByteArray)) ++ x9_28).size ≤ 9223372036854775807
                     ·rw [if_pos c48] at H
                      (try (have c48b9 := eq_true c48; simp only [ByteArray.size_append, Int.natCast_add, show ((⟨#[58]⟩ : ByteArray)).size = 1 from rfl] at c48b9))
                      (try (have c48b8 := eq_false (Nat.not_lt.2 c48); simp only [ByteArray.size_append, show ((⟨#[58]⟩ : ByteArray)).size = 1 from rfl] at c48b8))
                      have c48b0 := eq_true c48
                      have c48b1 : decide (x8_28.size + ((t324 ++ (⟨#[58]⟩ : ByteArray)) ++ x9_28).size ≤ 9223372036854775807) = true := yE c48
                      try have c48b2 : (9223372036854775807 < x8_28.size + ((t324 ++ (⟨#[58]⟩ : ByteArray)) ++ x9_28).size) = False := eq_false (Nat.not_lt.2 c48)
                      try simp only [ByteArray.size_append] at c48b2
                      replace H := Option.bind_eq_some_iff.mp H
                      obtain ⟨t325, A490, H⟩ := H
                      have A49 := zA A490
                      clear A490
                      by_cases c50 : (x8_28 ++ ((t324 ++ (⟨#[58]⟩ : ByteArray)) ++ x9_28)).size + t325.size ≤ 9223372036854775807
                      ·rw [if_pos c50] at H
                       (try (have c50b9 := eq_true c50; simp only [ByteArray.size_append, Int.natCast_add, show ((⟨#[58]⟩ : ByteArray)).size = 1 from rfl] at c50b9))
                       (try (have c50b8 := eq_false (Nat.not_lt.2 c50); simp only [ByteArray.size_append, show ((⟨#[58]⟩ : ByteArray)).size = 1 from rfl] at c50b8))
                       have c50b0 := eq_true c50
                       have c50b1 : decide ((x8_28 ++ ((t324 ++ (⟨#[58]⟩ : ByteArray)) ++ x9_28)).size + t325.size ≤ 9223372036854775807) = true := yE c50
                       try have c50b2 : (9223372036854775807 < (x8_28 ++ ((t324 ++ (⟨#[58]⟩ : ByteArray)) ++ x9_28)).size + t325.size) = False := eq_false (Nat.not_lt.2 c50)
                       try simp only [ByteArray.size_append] at c50b2
                       by_cases c51 : x12_4.length < 8796093022208
                       ·rw [if_pos c51] at H
                        have LMc51 := zA c51
                        clear c51
                        obtain ⟨y326, hy326⟩ : ∃ y_ : List ByteArray, y_ = (x12_4 ++ [(x8_28 ++ ((t324 ++ (⟨#[58]⟩ : ByteArray)) ++ x9_28)) ++ t325]) := ⟨_, rfl⟩
                        replace H : (impl_layout.l0 k4 a1 x7_28 x8_28 x9_28 x10_28 x11_33 y326 l0_4 (l0_4.length : Int) (wrap64 (x54_4 + 1)) l3 a0_0 a0_1 a0_2 a0_3 l0_4 l0_5) = some r := by first | (rw [hy326]; with_reducible exact H) | (have H2_ := (Option.bind_some _ _).symm.trans H; rw [hy326]; with_reducible exact H2_) | (have H2_ := (Option.bind_some _ _).symm.trans H; with_reducible exact H2_) | with_reducible exact H | (rw [hy326]; exact H) | exact H
                        have Ny326 := zA hy326
                        clear hy326
                        have H' := zA H
                        clear H
                        have p321 : 0 ≤ (x54_4 : Int) := yF apB
                        have q321 : x54_4 < (l0_4.length : Int) := yF apB
                        obtain ⟨ad321, A321_4, c321_4, A321_5, c321_5, e321, hx321_0, hx321_1, hx321_2, hx321_3, hx321_4, hx321_5, hl321_4, hi321_4, hl321_5, hi321_5⟩ := at_T34 HR0_4.out x54_4 p321 q321
                        cases e321
                        replace hx321_0 := (HB.out.cell (zR w _ hx321_0)).trans hx321_0
                        replace hx321_1 := (HB.out.cell (zR w _ hx321_1)).trans hx321_1
                        replace hx321_2 := (HB.out.cell (zR w _ hx321_2)).trans hx321_2
                        replace hx321_3 := (HB.out.cell (zR w _ hx321_3)).trans hx321_3
                        replace hx321_4 := (HB.out.cell (zR w _ hx321_4)).trans hx321_4
                        replace hx321_5 := (HB.out.cell (zR w _ hx321_5)).trans hx321_5
                        have HR321_4 := zA hi321_4
                        have HC321_4 := zA hl321_4
                        clear hi321_4 hl321_4
                        have HR321_5 := zA hi321_5
                        have HC321_5 := zA hl321_5
                        clear hi321_5 hl321_5
                        replace p321 := eq_true p321
                        replace q321 := eq_true q321
                        go_wp2_with (first | ((with_reducible refine zS (N := 14) rfl ?_); (try (refine gate_guard (by rfl) ?_; dsimp only)); refine zW ?hg (N := 14) ?hd (cs := #[.int .i64 0, .int .i64 0, .int .i64 0, .string (⟨#[]⟩ : ByteArray), .slice none 0 0, .slice none 0 0]) (t := 34) ?hr ?_; (case hd => rfl); (case hg => rfl); (case hr => first | (go_simp; done) | (go_simp; rfl)); intro gb322 hg w52 hbox hb; have n0_ := zA (Kd.R_below (by (with_reducible repeat (first | apply Kd.R_alloc | apply Kd.R_drewN | apply Kd.R_drew)); exact HO_12.out) hb); have n1_ := zA (zN (g := gb314) (o := .cells #[.int .i64 a0_0, .int .i64 a0_1, .int .i64 a0_2, .string a0_3, .slice (some ad321) l0_4.length c0_4, .slice A0_5 l0_5.length c0_5] 34 (0, 0)) apM hb); have n2_ := zA (zP apL hb); have n3_ := zA (hbox); have n4_ := zA ((by rw [hg]; exact (zQ apL) : w.heap.size ≤ gb322)); have n5_ := zA ((by rw [hg]; exact (zQ apL) : w.heap.size ≤ gb322)); have n6_ := zA ((by rw [hg]; exact Nat.ne_of_lt (blk_lt (g := gb314) (o := .cells #[.int .i64 a0_0, .int .i64 a0_1, .int .i64 a0_2, .string a0_3, .slice (some ad321) l0_4.length c0_4, .slice A0_5 l0_5.length c0_5] 34 (0, 0)) apM) : gb314 ≠ gb322)); have n7_ := zA ((by rw [hg]; exact Nat.ne_of_gt (blk_lt (g := gb314) (o := .cells #[.int .i64 a0_0, .int .i64 a0_1, .int .i64 a0_2, .string a0_3, .slice (some ad321) l0_4.length c0_4, .slice A0_5 l0_5.length c0_5] 34 (0, 0)) apM) : gb322 ≠ gb314)); clear HO_12; clear BK314; clear HB; have HO_12 := n0_; have BK314 := n1_; have HB := n2_; have BK322 := n3_; have GW322 := n4_; have GE322 := n5_; have NB314_322 := n6_; have NB322_314 := n7_; clear n0_ n1_ n2_ n3_ n4_ n5_ n6_ n7_; clear hb hbox hg; have hnb53 := NB322_314.out; have hnc53 := NB314_322.out; obtain ⟨hcz54_0, hcz54_1, hcz54_2, hcz54_3, hcz54_4, hcz54_5, hfz54_0, hfz54_1, hfz54_2, hfz54_3, hfz54_4, hfz54_5⟩ := zb6 BK322.out; obtain ⟨hcz55_0, hcz55_1, hcz55_2, hcz55_3, hcz55_4, hcz55_5, hfz55_0, hfz55_1, hfz55_2, hfz55_3, hfz55_4, hfz55_5⟩ := zb6 BK314.out; have p323 : 0 ≤ (x54_4 : Int) := yF apB; have q323 : x54_4 < (l0_5.length : Int) := yF apB; obtain ⟨ad323, e323, hx323_0⟩ := Kd.at_string HR0_5.out x54_4 p323 q323; cases e323; have hn323_0 : ad323.block ≠ gb322 := Nat.ne_of_lt (Nat.lt_of_lt_of_le (by have := zR _ _ hx323_0; first | rwa [add_block] at this | exact this) GW322.out); have hn323_1 : ad323.block ≠ gb322 := Nat.ne_of_lt (Nat.lt_of_lt_of_le (by have := zR _ _ hx323_0; first | rwa [add_block] at this | exact this) GW322.out); have hn323_2 : ad323.block ≠ gb322 := Nat.ne_of_lt (Nat.lt_of_lt_of_le (by have := zR _ _ hx323_0; first | rwa [add_block] at this | exact this) GW322.out); have hn323_3 : ad323.block ≠ gb322 := Nat.ne_of_lt (Nat.lt_of_lt_of_le (by have := zR _ _ hx323_0; first | rwa [add_block] at this | exact this) GW322.out); have hn323_4 : ad323.block ≠ gb322 := Nat.ne_of_lt (Nat.lt_of_lt_of_le (by have := zR _ _ hx323_0; first | rwa [add_block] at this | exact this) GW322.out); have hn323_5 : ad323.block ≠ gb322 := Nat.ne_of_lt (Nat.lt_of_lt_of_le (by have := zR _ _ hx323_0; first | rwa [add_block] at this | exact this) GW322.out); replace hx323_0 := (HB.out.cell (zR w _ hx323_0)).trans hx323_0; replace hx323_0 := (cell_far (p := ⟨gb322, 0, none⟩) (by first | (rw [add_block]; exact hn323_0) | (show (Addr.add _ _).block ≠ _; rw [add_block]; exact hn323_0) | exact hn323_0) (.int .i64 ((rd_T34 l0_4 x54_4).f0))).trans hx323_0; replace hx323_0 := (cell_far (p := ⟨gb322, 1, none⟩) (by first | (rw [add_block]; exact hn323_1) | (show (Addr.add _ _).block ≠ _; rw [add_block]; exact hn323_1) | exact hn323_1) (.int .i64 ((rd_T34 l0_4 x54_4).f1.f0))).trans hx323_0; replace hx323_0 := (cell_far (p := ⟨gb322, 2, none⟩) (by first | (rw [add_block]; exact hn323_2) | (show (Addr.add _ _).block ≠ _; rw [add_block]; exact hn323_2) | exact hn323_2) (.int .i64 ((rd_T34 l0_4 x54_4).f1.f1))).trans hx323_0; replace hx323_0 := (cell_far (p := ⟨gb322, 3, none⟩) (by first | (rw [add_block]; exact hn323_3) | (show (Addr.add _ _).block ≠ _; rw [add_block]; exact hn323_3) | exact hn323_3) (.string ((rd_T34 l0_4 x54_4).f2))).trans hx323_0; replace hx323_0 := (cell_far (p := ⟨gb322, 4, none⟩) (by first | (rw [add_block]; exact hn323_4) | (show (Addr.add _ _).block ≠ _; rw [add_block]; exact hn323_4) | exact hn323_4) (.slice A321_4 ((rd_T34 l0_4 x54_4).f3).length c321_4)).trans hx323_0; replace hx323_0 := (cell_far (p := ⟨gb322, 5, none⟩) (by first | (rw [add_block]; exact hn323_5) | (show (Addr.add _ _).block ≠ _; rw [add_block]; exact hn323_5) | exact hn323_5) (.slice A321_5 ((rd_T34 l0_4 x54_4).f4).length c321_5)).trans hx323_0; clear hn323_0; clear hn323_1; clear hn323_2; clear hn323_3; clear hn323_4; clear hn323_5; replace p323 := eq_true p323; replace q323 := eq_true q323) | ((with_reducible refine zT (f := 43) rfl ?_); refine goesL_ (some 69) rfl rfl Tryd.func43 (by kernel_rfl) rfl #[.string (rdOf ByteArray.empty l0_5 x54_4)] rfl apE ?_; (with_reducible refine (impl_jsonText.calls k4 (rdOf ByteArray.empty l0_5 x54_4) t324 _ A45.out).mono ?_); rintro e w56 ⟨rfl, hb⟩; refine ⟨_, rfl, ?_⟩; have n0_ := zA (Kd.R_below (by (with_reducible repeat (first | apply Kd.R_alloc | apply Kd.R_drewN | apply Kd.R_drew)); exact (Kd.R_mono (Kd.R_far (p := ⟨gb322, 5, none⟩) (Kd.R_far (p := ⟨gb322, 4, none⟩) (Kd.R_far (p := ⟨gb322, 3, none⟩) (Kd.R_far (p := ⟨gb322, 2, none⟩) (Kd.R_far (p := ⟨gb322, 1, none⟩) (Kd.R_far (p := ⟨gb322, 0, none⟩) (Kd.R_types HO_12.out BK322.out (by decide)) (fun _ hk => hk.2) (.int .i64 ((rd_T34 l0_4 x54_4).f0))) (fun _ hk => hk.2) (.int .i64 ((rd_T34 l0_4 x54_4).f1.f0))) (fun _ hk => hk.2) (.int .i64 ((rd_T34 l0_4 x54_4).f1.f1))) (fun _ hk => hk.2) (.string ((rd_T34 l0_4 x54_4).f2))) (fun _ hk => hk.2) (.slice A321_4 ((rd_T34 l0_4 x54_4).f3).length c321_4)) (fun _ hk => hk.2) (.slice A321_5 ((rd_T34 l0_4 x54_4).f4).length c321_5)) (fun _ h_ => h_.1))) hb); have n1_ := zA (zN (g := gb314) (o := .cells #[.int .i64 a0_0, .int .i64 a0_1, .int .i64 a0_2, .string a0_3, .slice (some ad321) l0_4.length c0_4, .slice (some ad323) l0_5.length c0_5] 34 (0, 0)) (by (with_reducible repeat (first | refine zB ?_ _ | refine zD ?_ | refine zC ?_ _)); refine blk_far ?_ NB314_322.out _; (with_reducible repeat (first | refine zB ?_ _ | refine zD ?_ | refine zC ?_ _)); refine blk_far ?_ NB314_322.out _; (with_reducible repeat (first | refine zB ?_ _ | refine zD ?_ | refine zC ?_ _)); refine blk_far ?_ NB314_322.out _; (with_reducible repeat (first | refine zB ?_ _ | refine zD ?_ | refine zC ?_ _)); refine blk_far ?_ NB314_322.out _; (with_reducible repeat (first | refine zB ?_ _ | refine zD ?_ | refine zC ?_ _)); refine blk_far ?_ NB314_322.out _; (with_reducible repeat (first | refine zB ?_ _ | refine zD ?_ | refine zC ?_ _)); refine blk_far ?_ NB314_322.out _; (with_reducible repeat (first | refine zB ?_ _ | refine zD ?_ | refine zC ?_ _)); exact BK314.out) hb); have n2_ := zA (zN (g := gb322) (o := .cells #[.int .i64 ((rd_T34 l0_4 x54_4).f0), .int .i64 ((rd_T34 l0_4 x54_4).f1.f0), .int .i64 ((rd_T34 l0_4 x54_4).f1.f1), .string ((rd_T34 l0_4 x54_4).f2), .slice A321_4 ((rd_T34 l0_4 x54_4).f3).length c321_4, .slice A321_5 ((rd_T34 l0_4 x54_4).f4).length c321_5] 34 (0, 0)) (by (with_reducible repeat (first | refine zB ?_ _ | refine zD ?_ | refine zC ?_ _)); refine blk_put (cs := #[.int .i64 ((rd_T34 l0_4 x54_4).f0), .int .i64 ((rd_T34 l0_4 x54_4).f1.f0), .int .i64 ((rd_T34 l0_4 x54_4).f1.f1), .string ((rd_T34 l0_4 x54_4).f2), .slice A321_4 ((rd_T34 l0_4 x54_4).f3).length c321_4, .slice none 0 0]) ?_ 5 _ rfl; (with_reducible repeat (first | refine zB ?_ _ | refine zD ?_ | refine zC ?_ _)); refine blk_put (cs := #[.int .i64 ((rd_T34 l0_4 x54_4).f0), .int .i64 ((rd_T34 l0_4 x54_4).f1.f0), .int .i64 ((rd_T34 l0_4 x54_4).f1.f1), .string ((rd_T34 l0_4 x54_4).f2), .slice none 0 0, .slice none 0 0]) ?_ 4 _ rfl; (with_reducible repeat (first | refine zB ?_ _ | refine zD ?_ | refine zC ?_ _)); refine blk_put (cs := #[.int .i64 ((rd_T34 l0_4 x54_4).f0), .int .i64 ((rd_T34 l0_4 x54_4).f1.f0), .int .i64 ((rd_T34 l0_4 x54_4).f1.f1), .string (⟨#[]⟩ : ByteArray), .slice none 0 0, .slice none 0 0]) ?_ 3 _ rfl; (with_reducible repeat (first | refine zB ?_ _ | refine zD ?_ | refine zC ?_ _)); refine blk_put (cs := #[.int .i64 ((rd_T34 l0_4 x54_4).f0), .int .i64 ((rd_T34 l0_4 x54_4).f1.f0), .int .i64 0, .string (⟨#[]⟩ : ByteArray), .slice none 0 0, .slice none 0 0]) ?_ 2 _ rfl; (with_reducible repeat (first | refine zB ?_ _ | refine zD ?_ | refine zC ?_ _)); refine blk_put (cs := #[.int .i64 ((rd_T34 l0_4 x54_4).f0), .int .i64 0, .int .i64 0, .string (⟨#[]⟩ : ByteArray), .slice none 0 0, .slice none 0 0]) ?_ 1 _ rfl; (with_reducible repeat (first | refine zB ?_ _ | refine zD ?_ | refine zC ?_ _)); refine blk_put (cs := #[.int .i64 0, .int .i64 0, .int .i64 0, .string (⟨#[]⟩ : ByteArray), .slice none 0 0, .slice none 0 0]) ?_ 0 _ rfl; (with_reducible repeat (first | refine zB ?_ _ | refine zD ?_ | refine zC ?_ _)); exact BK322.out) hb); have n3_ := zA (zP apT hb); clear HO_12; clear BK314; clear BK322; clear HB; have HO_12 := n0_; have BK314 := n1_; have BK322 := n2_; have HB := n3_; clear n0_ n1_ n2_ n3_; (try clear hb); (try clear hb2); (try clear hk); (try clear hi); obtain ⟨hcz57_0, hcz57_1, hcz57_2, hcz57_3, hcz57_4, hcz57_5, hfz57_0, hfz57_1, hfz57_2, hfz57_3, hfz57_4, hfz57_5⟩ := zb6 BK322.out) | ((with_reducible refine zT (f := 33) rfl ?_); refine goesL_ (some 79) rfl rfl Tryd.func33 (by kernel_rfl) rfl #[.agg #[.int .i64 ((rd_T34 l0_4 x54_4).f0), .int .i64 ((rd_T34 l0_4 x54_4).f1.f0), .int .i64 ((rd_T34 l0_4 x54_4).f1.f1), .string ((rd_T34 l0_4 x54_4).f2), .slice A321_4 ((rd_T34 l0_4 x54_4).f3).length c321_4, .slice A321_5 ((rd_T34 l0_4 x54_4).f4).length c321_5], .bool a1, .string x7_28] rfl apE ?_; (with_reducible refine (ih k4 (by have := HJ23.out; have := HJ28.out; have := HJ33.out; have := HK4.out; omega) ((rd_T34 l0_4 x54_4).f0) ((rd_T34 l0_4 x54_4).f1.f0) ((rd_T34 l0_4 x54_4).f1.f1) ((rd_T34 l0_4 x54_4).f2) _ _ ((rd_T34 l0_4 x54_4).f3) _ _ ((rd_T34 l0_4 x54_4).f4) a1 x7_28 A3 c3 l3 t325 _ ?side1 ?side2 ?side3 ?side4 ?side5 ?side6 ?side7 A49.out).mono ?_); (case side1 => repeat (first | exact (Kd.C_below HR321_4.out HB.out) | (with_reducible refine Kd.C_alloc ?_ _) | (with_reducible refine Kd.C_drewN ?_ _) | (with_reducible refine Kd.C_drew ?_))); (case side2 => exact HC321_4.out); (case side3 => repeat (first | exact (Kd.C_below HR321_5.out HB.out) | (with_reducible refine Kd.C_alloc ?_ _) | (with_reducible refine Kd.C_drewN ?_ _) | (with_reducible refine Kd.C_drew ?_))); (case side4 => exact HC321_5.out); (case side5 => repeat (first | exact (Kd.C_below HR3.out HB.out) | (with_reducible refine Kd.C_alloc ?_ _) | (with_reducible refine Kd.C_drewN ?_ _) | (with_reducible refine Kd.C_drew ?_))); (case side6 => exact HC3.out); (case side7 => exact HG3.out); rintro e w58 ⟨rfl, hb⟩; refine ⟨_, rfl, ?_⟩; have n0_ := zA (Kd.R_below (by (with_reducible repeat (first | apply Kd.R_alloc | apply Kd.R_drewN | apply Kd.R_drew)); exact HO_12.out) hb); have n1_ := zA (zN (g := gb314) (o := .cells #[.int .i64 a0_0, .int .i64 a0_1, .int .i64 a0_2, .string a0_3, .slice (some ad321) l0_4.length c0_4, .slice (some ad323) l0_5.length c0_5] 34 (0, 0)) apM hb); have n2_ := zA (zN (g := gb322) (o := .cells #[.int .i64 ((rd_T34 l0_4 x54_4).f0), .int .i64 ((rd_T34 l0_4 x54_4).f1.f0), .int .i64 ((rd_T34 l0_4 x54_4).f1.f1), .string ((rd_T34 l0_4 x54_4).f2), .slice A321_4 ((rd_T34 l0_4 x54_4).f3).length c321_4, .slice A321_5 ((rd_T34 l0_4 x54_4).f4).length c321_5] 34 (0, 0)) (by (with_reducible repeat (first | refine zB ?_ _ | refine zD ?_ | refine zC ?_ _)); exact BK322.out) hb); have n3_ := zA (zP apT hb); clear HO_12; clear BK314; clear BK322; clear HB; have HO_12 := n0_; have BK314 := n1_; have BK322 := n2_; have HB := n3_; clear n0_ n1_ n2_ n3_; (try clear hb); (try clear hb2); (try clear hk); (try clear hi)) | ((with_reducible refine gate_builtin (b := .append) (xs := #[.tmp 74, .tmp 81]) rfl ?_); (try (refine gate_guard (by rfl) ?_; dsimp only)); at_builtin; refine Kd.R_append Kd.string (w0 := w) w.heap.size rfl (.tmp 74) (.tmp 81) 25 9 (.string ⟨#[]⟩) 16 rfl Tryd.underlying25 info9 rfl (by decide) (by omega) u12 x12_4 ((x8_28 ++ ((t324 ++ (⟨#[58]⟩ : ByteArray)) ++ x9_28)) ++ t325) [.string ((x8_28 ++ ((t324 ++ (⟨#[58]⟩ : ByteArray)) ++ x9_28)) ++ t325)] (fun _ => True) (fun _ => False) rfl rfl ?aP (fun _ hk => hk.elim) ?aF ?aO ?aB ?aS ?aL ?_; (case aP => exact rfl); (case aB => exact apT); (case aF => exact (fun _ _ => trivial)); (case aO => exact (by (with_reducible repeat (first | apply Kd.R_alloc | apply Kd.R_drewN | apply Kd.R_drew)); exact HO_12.out)); (case aS => exact (zQ apT)); (case aL => have := LMc51.out; (first | omega | (simp only [ByteArray.size, List.size_toArray, List.length_cons, List.length_nil] at *; omega))); intro v327 w59 ho hb hg hat; rw [← Ny326.out] at ho; have n0_ := zA (blk_grown (g := gb314) (o := .cells #[.int .i64 a0_0, .int .i64 a0_1, .int .i64 a0_2, .string a0_3, .slice (some ad321) l0_4.length c0_4, .slice (some ad323) l0_5.length c0_5] 34 (0, 0)) apM hg (Kd.R_ne HO_12.out BK314.out (by decide))); have n1_ := zA (blk_grown (g := gb322) (o := .cells #[.int .i64 ((rd_T34 l0_4 x54_4).f0), .int .i64 ((rd_T34 l0_4 x54_4).f1.f0), .int .i64 ((rd_T34 l0_4 x54_4).f1.f1), .string ((rd_T34 l0_4 x54_4).f2), .slice A321_4 ((rd_T34 l0_4 x54_4).f3).length c321_4, .slice A321_5 ((rd_T34 l0_4 x54_4).f4).length c321_5] 34 (0, 0)) (by (with_reducible repeat (first | refine zB ?_ _ | refine zD ?_ | refine zC ?_ _)); exact BK322.out) hg (Kd.R_ne HO_12.out BK322.out (by decide))); have n2_ := zA (hb); have n3_ := zA (ho); clear BK314; clear BK322; clear HB; clear HO_12; have BK314 := n0_; have BK322 := n1_; have HB := n2_; have HO328 := n3_; clear n0_ n1_ n2_ n3_; clear ho hb hg hat))
                        go_roundg k4
                        case measure => have := HJ23.out; have := HJ28.out; have := HJ33.out; have := HK4.out; omega
                        case rel => exact ⟨(y326), (wrap64 (x54_4 + 1)), apC, H', ⟨by have := HJ23.out; have := HJ28.out; have := HJ33.out; have := HK4.out; omega⟩, ⟨by (with_reducible repeat (first | apply Kd.R_alloc | apply Kd.R_drewN | apply Kd.R_drew)); exact HO328.out⟩, ⟨apM⟩, ⟨apT⟩⟩
                       ·rw [if_neg c51] at H
                        exact absurd H (by simp)
                      ·rw [if_neg c50] at H
                       exact absurd H (by simp)
                     ·rw [if_neg c48] at H
                      exact absurd H (by simp)
                    ·rw [if_neg c47] at H
                     exact absurd H (by simp)
                   ·rw [if_neg c46] at H
                    exact absurd H (by simp)
                  ·rw [if_neg c44] at H
                   exact absurd H (by simp)
                 ·rw [if_neg c43] at H
                  have c43b0 : (a0_0 == 6) = false := beq_eq_false_iff_ne.mpr c43
                  have c43b1 : (a0_0 != 6) = true := bne_iff_ne.mpr c43
                  replace H := Option.bind_eq_some_iff.mp H
                  obtain ⟨t329, A600, H⟩ := H
                  have A60 := zA A600
                  clear A600
                  by_cases c61 : x8_28.size + t329.size ≤ 9223372036854775807
                  ·rw [if_pos c61] at H
                   have c61b0 := eq_true c61
                   have c61b1 : decide (x8_28.size + t329.size ≤ 9223372036854775807) = true := yE c61
                   try have c61b2 : (9223372036854775807 < x8_28.size + t329.size) = False := eq_false (Nat.not_lt.2 c61)
                   by_cases c62 : x12_4.length < 8796093022208
                   ·rw [if_pos c62] at H
                    have LMc62 := zA c62
                    clear c62
                    obtain ⟨y330, hy330⟩ : ∃ y_ : List ByteArray, y_ = (x12_4 ++ [x8_28 ++ t329]) := ⟨_, rfl⟩
                    replace H : (impl_layout.l0 k4 a1 x7_28 x8_28 x9_28 x10_28 x11_33 y330 l0_4 (l0_4.length : Int) (wrap64 (x54_4 + 1)) l3 a0_0 a0_1 a0_2 a0_3 l0_4 l0_5) = some r := by first | (rw [hy330]; with_reducible exact H) | (have H2_ := (Option.bind_some _ _).symm.trans H; rw [hy330]; with_reducible exact H2_) | (have H2_ := (Option.bind_some _ _).symm.trans H; with_reducible exact H2_) | with_reducible exact H | (rw [hy330]; exact H) | exact H
                    have Ny330 := zA hy330
                    clear hy330
                    have H' := zA H
                    clear H
                    have p321 : 0 ≤ (x54_4 : Int) := yF apB
                    have q321 : x54_4 < (l0_4.length : Int) := yF apB
                    obtain ⟨ad321, A321_4, c321_4, A321_5, c321_5, e321, hx321_0, hx321_1, hx321_2, hx321_3, hx321_4, hx321_5, hl321_4, hi321_4, hl321_5, hi321_5⟩ := at_T34 HR0_4.out x54_4 p321 q321
                    cases e321
                    replace hx321_0 := (HB.out.cell (zR w _ hx321_0)).trans hx321_0
                    replace hx321_1 := (HB.out.cell (zR w _ hx321_1)).trans hx321_1
                    replace hx321_2 := (HB.out.cell (zR w _ hx321_2)).trans hx321_2
                    replace hx321_3 := (HB.out.cell (zR w _ hx321_3)).trans hx321_3
                    replace hx321_4 := (HB.out.cell (zR w _ hx321_4)).trans hx321_4
                    replace hx321_5 := (HB.out.cell (zR w _ hx321_5)).trans hx321_5
                    have HR321_4 := zA hi321_4
                    have HC321_4 := zA hl321_4
                    clear hi321_4 hl321_4
                    have HR321_5 := zA hi321_5
                    have HC321_5 := zA hl321_5
                    clear hi321_5 hl321_5
                    replace p321 := eq_true p321
                    replace q321 := eq_true q321
                    go_wp2_with (first | ((with_reducible refine zS (N := 14) rfl ?_); (try (refine gate_guard (by rfl) ?_; dsimp only)); refine zW ?hg (N := 14) ?hd (cs := #[.int .i64 0, .int .i64 0, .int .i64 0, .string (⟨#[]⟩ : ByteArray), .slice none 0 0, .slice none 0 0]) (t := 34) ?hr ?_; (case hd => rfl); (case hg => rfl); (case hr => first | (go_simp; done) | (go_simp; rfl)); intro gb322 hg w63 hbox hb; have n0_ := zA (Kd.R_below (by (with_reducible repeat (first | apply Kd.R_alloc | apply Kd.R_drewN | apply Kd.R_drew)); exact HO_12.out) hb); have n1_ := zA (zN (g := gb314) (o := .cells #[.int .i64 a0_0, .int .i64 a0_1, .int .i64 a0_2, .string a0_3, .slice (some ad321) l0_4.length c0_4, .slice A0_5 l0_5.length c0_5] 34 (0, 0)) apM hb); have n2_ := zA (zP apL hb); have n3_ := zA (hbox); have n4_ := zA ((by rw [hg]; exact (zQ apL) : w.heap.size ≤ gb322)); have n5_ := zA ((by rw [hg]; exact (zQ apL) : w.heap.size ≤ gb322)); have n6_ := zA ((by rw [hg]; exact Nat.ne_of_lt (blk_lt (g := gb314) (o := .cells #[.int .i64 a0_0, .int .i64 a0_1, .int .i64 a0_2, .string a0_3, .slice (some ad321) l0_4.length c0_4, .slice A0_5 l0_5.length c0_5] 34 (0, 0)) apM) : gb314 ≠ gb322)); have n7_ := zA ((by rw [hg]; exact Nat.ne_of_gt (blk_lt (g := gb314) (o := .cells #[.int .i64 a0_0, .int .i64 a0_1, .int .i64 a0_2, .string a0_3, .slice (some ad321) l0_4.length c0_4, .slice A0_5 l0_5.length c0_5] 34 (0, 0)) apM) : gb322 ≠ gb314)); clear HO_12; clear BK314; clear HB; have HO_12 := n0_; have BK314 := n1_; have HB := n2_; have BK322 := n3_; have GW322 := n4_; have GE322 := n5_; have NB314_322 := n6_; have NB322_314 := n7_; clear n0_ n1_ n2_ n3_ n4_ n5_ n6_ n7_; clear hb hbox hg; have hnb64 := NB322_314.out; have hnc64 := NB314_322.out; obtain ⟨hcz65_0, hcz65_1, hcz65_2, hcz65_3, hcz65_4, hcz65_5, hfz65_0, hfz65_1, hfz65_2, hfz65_3, hfz65_4, hfz65_5⟩ := zb6 BK322.out; obtain ⟨hcz66_0, hcz66_1, hcz66_2, hcz66_3, hcz66_4, hcz66_5, hfz66_0, hfz66_1, hfz66_2, hfz66_3, hfz66_4, hfz66_5⟩ := zb6 BK314.out) | ((with_reducible refine zT (f := 33) rfl ?_); refine goesL_ (some 79) rfl rfl Tryd.func33 (by kernel_rfl) rfl #[.agg #[.int .i64 ((rd_T34 l0_4 x54_4).f0), .int .i64 ((rd_T34 l0_4 x54_4).f1.f0), .int .i64 ((rd_T34 l0_4 x54_4).f1.f1), .string ((rd_T34 l0_4 x54_4).f2), .slice A321_4 ((rd_T34 l0_4 x54_4).f3).length c321_4, .slice A321_5 ((rd_T34 l0_4 x54_4).f4).length c321_5], .bool a1, .string x7_28] rfl apE ?_; (with_reducible refine (ih k4 (by have := HJ23.out; have := HJ28.out; have := HJ33.out; have := HK4.out; omega) ((rd_T34 l0_4 x54_4).f0) ((rd_T34 l0_4 x54_4).f1.f0) ((rd_T34 l0_4 x54_4).f1.f1) ((rd_T34 l0_4 x54_4).f2) _ _ ((rd_T34 l0_4 x54_4).f3) _ _ ((rd_T34 l0_4 x54_4).f4) a1 x7_28 A3 c3 l3 t329 _ ?side1 ?side2 ?side3 ?side4 ?side5 ?side6 ?side7 A60.out).mono ?_); (case side1 => exact Kd.C_below HR321_4.out apT); (case side2 => exact HC321_4.out); (case side3 => exact Kd.C_below HR321_5.out apT); (case side4 => exact HC321_5.out); (case side5 => exact Kd.C_below HR3.out apT); (case side6 => exact HC3.out); (case side7 => exact HG3.out); rintro e w67 ⟨rfl, hb⟩; refine ⟨_, rfl, ?_⟩; have n0_ := zA (Kd.R_below (by (with_reducible repeat (first | apply Kd.R_alloc | apply Kd.R_drewN | apply Kd.R_drew)); exact (Kd.R_mono (Kd.R_far (p := ⟨gb322, 5, none⟩) (Kd.R_far (p := ⟨gb322, 4, none⟩) (Kd.R_far (p := ⟨gb322, 3, none⟩) (Kd.R_far (p := ⟨gb322, 2, none⟩) (Kd.R_far (p := ⟨gb322, 1, none⟩) (Kd.R_far (p := ⟨gb322, 0, none⟩) (Kd.R_types HO_12.out BK322.out (by decide)) (fun _ hk => hk.2) (.int .i64 ((rd_T34 l0_4 x54_4).f0))) (fun _ hk => hk.2) (.int .i64 ((rd_T34 l0_4 x54_4).f1.f0))) (fun _ hk => hk.2) (.int .i64 ((rd_T34 l0_4 x54_4).f1.f1))) (fun _ hk => hk.2) (.string ((rd_T34 l0_4 x54_4).f2))) (fun _ hk => hk.2) (.slice A321_4 ((rd_T34 l0_4 x54_4).f3).length c321_4)) (fun _ hk => hk.2) (.slice A321_5 ((rd_T34 l0_4 x54_4).f4).length c321_5)) (fun _ h_ => h_.1))) hb); have n1_ := zA (zN (g := gb314) (o := .cells #[.int .i64 a0_0, .int .i64 a0_1, .int .i64 a0_2, .string a0_3, .slice (some ad321) l0_4.length c0_4, .slice A0_5 l0_5.length c0_5] 34 (0, 0)) (by (with_reducible repeat (first | refine zB ?_ _ | refine zD ?_ | refine zC ?_ _)); refine blk_far ?_ NB314_322.out _; (with_reducible repeat (first | refine zB ?_ _ | refine zD ?_ | refine zC ?_ _)); refine blk_far ?_ NB314_322.out _; (with_reducible repeat (first | refine zB ?_ _ | refine zD ?_ | refine zC ?_ _)); refine blk_far ?_ NB314_322.out _; (with_reducible repeat (first | refine zB ?_ _ | refine zD ?_ | refine zC ?_ _)); refine blk_far ?_ NB314_322.out _; (with_reducible repeat (first | refine zB ?_ _ | refine zD ?_ | refine zC ?_ _)); refine blk_far ?_ NB314_322.out _; (with_reducible repeat (first | refine zB ?_ _ | refine zD ?_ | refine zC ?_ _)); refine blk_far ?_ NB314_322.out _; (with_reducible repeat (first | refine zB ?_ _ | refine zD ?_ | refine zC ?_ _)); exact BK314.out) hb); have n2_ := zA (zN (g := gb322) (o := .cells #[.int .i64 ((rd_T34 l0_4 x54_4).f0), .int .i64 ((rd_T34 l0_4 x54_4).f1.f0), .int .i64 ((rd_T34 l0_4 x54_4).f1.f1), .string ((rd_T34 l0_4 x54_4).f2), .slice A321_4 ((rd_T34 l0_4 x54_4).f3).length c321_4, .slice A321_5 ((rd_T34 l0_4 x54_4).f4).length c321_5] 34 (0, 0)) (by (with_reducible repeat (first | refine zB ?_ _ | refine zD ?_ | refine zC ?_ _)); refine blk_put (cs := #[.int .i64 ((rd_T34 l0_4 x54_4).f0), .int .i64 ((rd_T34 l0_4 x54_4).f1.f0), .int .i64 ((rd_T34 l0_4 x54_4).f1.f1), .string ((rd_T34 l0_4 x54_4).f2), .slice A321_4 ((rd_T34 l0_4 x54_4).f3).length c321_4, .slice none 0 0]) ?_ 5 _ rfl; (with_reducible repeat (first | refine zB ?_ _ | refine zD ?_ | refine zC ?_ _)); refine blk_put (cs := #[.int .i64 ((rd_T34 l0_4 x54_4).f0), .int .i64 ((rd_T34 l0_4 x54_4).f1.f0), .int .i64 ((rd_T34 l0_4 x54_4).f1.f1), .string ((rd_T34 l0_4 x54_4).f2), .slice none 0 0, .slice none 0 0]) ?_ 4 _ rfl; (with_reducible repeat (first | refine zB ?_ _ | refine zD ?_ | refine zC ?_ _)); refine blk_put (cs := #[.int .i64 ((rd_T34 l0_4 x54_4).f0), .int .i64 ((rd_T34 l0_4 x54_4).f1.f0), .int .i64 ((rd_T34 l0_4 x54_4).f1.f1), .string (⟨#[]⟩ : ByteArray), .slice none 0 0, .slice none 0 0]) ?_ 3 _ rfl; (with_reducible repeat (first | refine zB ?_ _ | refine zD ?_ | refine zC ?_ _)); refine blk_put (cs := #[.int .i64 ((rd_T34 l0_4 x54_4).f0), .int .i64 ((rd_T34 l0_4 x54_4).f1.f0), .int .i64 0, .string (⟨#[]⟩ : ByteArray), .slice none 0 0, .slice none 0 0]) ?_ 2 _ rfl; (with_reducible repeat (first | refine zB ?_ _ | refine zD ?_ | refine zC ?_ _)); refine blk_put (cs := #[.int .i64 ((rd_T34 l0_4 x54_4).f0), .int .i64 0, .int .i64 0, .string (⟨#[]⟩ : ByteArray), .slice none 0 0, .slice none 0 0]) ?_ 1 _ rfl; (with_reducible repeat (first | refine zB ?_ _ | refine zD ?_ | refine zC ?_ _)); refine blk_put (cs := #[.int .i64 0, .int .i64 0, .int .i64 0, .string (⟨#[]⟩ : ByteArray), .slice none 0 0, .slice none 0 0]) ?_ 0 _ rfl; (with_reducible repeat (first | refine zB ?_ _ | refine zD ?_ | refine zC ?_ _)); exact BK322.out) hb); have n3_ := zA (zP apT hb); clear HO_12; clear BK314; clear BK322; clear HB; have HO_12 := n0_; have BK314 := n1_; have BK322 := n2_; have HB := n3_; clear n0_ n1_ n2_ n3_; (try clear hb); (try clear hb2); (try clear hk); (try clear hi)) | ((with_reducible refine gate_builtin (b := .append) (xs := #[.tmp 74, .tmp 81]) rfl ?_); (try (refine gate_guard (by rfl) ?_; dsimp only)); at_builtin; refine Kd.R_append Kd.string (w0 := w) w.heap.size rfl (.tmp 74) (.tmp 81) 25 9 (.string ⟨#[]⟩) 16 rfl Tryd.underlying25 info9 rfl (by decide) (by omega) u12 x12_4 (x8_28 ++ t329) [.string (x8_28 ++ t329)] (fun _ => True) (fun _ => False) rfl rfl ?aP (fun _ hk => hk.elim) ?aF ?aO ?aB ?aS ?aL ?_; (case aP => exact rfl); (case aB => exact apT); (case aF => exact (fun _ _ => trivial)); (case aO => exact (by (with_reducible repeat (first | apply Kd.R_alloc | apply Kd.R_drewN | apply Kd.R_drew)); exact HO_12.out)); (case aS => exact (zQ apT)); (case aL => have := LMc62.out; (first | omega | (simp only [ByteArray.size, List.size_toArray, List.length_cons, List.length_nil] at *; omega))); intro v331 w68 ho hb hg hat; rw [← Ny330.out] at ho; have n0_ := zA (blk_grown (g := gb314) (o := .cells #[.int .i64 a0_0, .int .i64 a0_1, .int .i64 a0_2, .string a0_3, .slice (some ad321) l0_4.length c0_4, .slice A0_5 l0_5.length c0_5] 34 (0, 0)) apM hg (Kd.R_ne HO_12.out BK314.out (by decide))); have n1_ := zA (blk_grown (g := gb322) (o := .cells #[.int .i64 ((rd_T34 l0_4 x54_4).f0), .int .i64 ((rd_T34 l0_4 x54_4).f1.f0), .int .i64 ((rd_T34 l0_4 x54_4).f1.f1), .string ((rd_T34 l0_4 x54_4).f2), .slice A321_4 ((rd_T34 l0_4 x54_4).f3).length c321_4, .slice A321_5 ((rd_T34 l0_4 x54_4).f4).length c321_5] 34 (0, 0)) (by (with_reducible repeat (first | refine zB ?_ _ | refine zD ?_ | refine zC ?_ _)); exact BK322.out) hg (Kd.R_ne HO_12.out BK322.out (by decide))); have n2_ := zA (hb); have n3_ := zA (ho); clear BK314; clear BK322; clear HB; clear HO_12; have BK314 := n0_; have BK322 := n1_; have HB := n2_; have HO332 := n3_; clear n0_ n1_ n2_ n3_; clear ho hb hg hat))
                    go_roundg k4
                    case measure => have := HJ23.out; have := HJ28.out; have := HJ33.out; have := HK4.out; omega
                    case rel => exact ⟨(y330), (wrap64 (x54_4 + 1)), apC, H', ⟨by have := HJ23.out; have := HJ28.out; have := HJ33.out; have := HK4.out; omega⟩, ⟨by (with_reducible repeat (first | apply Kd.R_alloc | apply Kd.R_drewN | apply Kd.R_drew)); exact HO332.out⟩, ⟨apM⟩, ⟨apT⟩⟩
                   ·rw [if_neg c62] at H
                    exact absurd H (by simp)
                  ·rw [if_neg c61] at H
                   exact absurd H (by simp)
                ·rw [if_neg c42] at H
                 exact absurd H (by simp)
               ·rw [if_neg c41] at H
                exact absurd H (by simp)
              ·rw [if_neg c40] at H
               have c40b0 : decide (x54_4 < (l0_4.length : Int)) = false := decide_eq_false c40
               clear c40
               by_cases c69 : 0 ≤ 1
               ·rw [if_pos c69] at H
                have c69b0 := eq_true c69
                have c69b1 : decide (0 ≤ 1) = true := yE c69
                clear c69
                by_cases c70 : 1 ≤ (x11_33.size : Int)
                ·rw [if_pos c70] at H
                 have c70b0 := eq_true c70
                 have c70b1 : decide (1 ≤ (x11_33.size : Int)) = true := yE c70
                 clear c70
                 replace H := Option.bind_eq_some_iff.mp H
                 obtain ⟨t320, A710, H⟩ := H
                 have A71 := zA A710
                 clear A710
                 by_cases c72 : (x11_33.extract 0 1).size + t320.size ≤ 9223372036854775807
                 ·rw [if_pos c72] at H
                  have c72b0 := eq_true c72
                  have c72b1 : decide ((x11_33.extract 0 1).size + t320.size ≤ 9223372036854775807) = true := yE c72
                  try have c72b2 : (9223372036854775807 < (x11_33.extract 0 1).size + t320.size) = False := eq_false (Nat.not_lt.2 c72)
                  by_cases c73 : ((x11_33.extract 0 1) ++ t320).size + x10_28.size ≤ 9223372036854775807
                  ·rw [if_pos c73] at H
                   have c73b0 := eq_true c73
                   have c73b1 : decide (((x11_33.extract 0 1) ++ t320).size + x10_28.size ≤ 9223372036854775807) = true := yE c73
                   try have c73b2 : (9223372036854775807 < ((x11_33.extract 0 1) ++ t320).size + x10_28.size) = False := eq_false (Nat.not_lt.2 c73)
                   try simp only [ByteArray.size_append] at c73b2
                   have c74b0 := eq_true (yF apB : 1 ≤ (x11_33.size : Int))
                   by_cases c75 : (((x11_33.extract 0 1) ++ t320) ++ x10_28).size + (x11_33.extract 1 x11_33.size).size ≤ 9223372036854775807
                   ·rw [if_pos c75] at H
                    have c75b0 := eq_true c75
                    have c75b1 : decide ((((x11_33.extract 0 1) ++ t320) ++ x10_28).size + (x11_33.extract 1 x11_33.size).size ≤ 9223372036854775807) = true := yE c75
                    try have c75b2 : (9223372036854775807 < (((x11_33.extract 0 1) ++ t320) ++ x10_28).size + (x11_33.extract 1 x11_33.size).size) = False := eq_false (Nat.not_lt.2 c75)
                    try simp only [ByteArray.size_append] at c75b2
                    obtain rfl := yG H
                    try go_wp2
                    have n0_ := zA (Kd.R_drew HO_12.out)
                    have n1_ := zA (zD BK314.out)
                    have n2_ := zA (zF HB.out)
                    clear HO_12
                    clear BK314
                    clear HB
                    have HO_12 := n0_
                    have BK314 := n1_
                    have HB := n2_
                    clear n0_ n1_ n2_
                    obtain ⟨Ao77, co77, eo77⟩ := Kd.R_slice HO_12.out
                    (first | subst eo77 | (injection eo77 with f1_ f2_ f3_; have f4_ := f1_.symm; have f5_ := f3_.symm; clear f1_ f2_ f3_; subst f4_; subst f5_))
                    refine start_ (n := 11) (S := fun w' => True) (ds := []) #[false, false, false, false, false, false, false, false, false, false, false] (by kernel_rfl) rfl rfl trivial (fun hHeld => ?_); refine with_tabW impl_layout.tab28 impl_layout.bits28 (fun HT_ HW_ => ?_)
                    generalize wr.drew = w76 at HO_12 BK314 HB hHeld ⊢
                    refine pure_ (i := 0) (N := some 84) (v := ?_) (a' := ?_) #[true, false, false, false, false, false, false, false, false, false, false] rfl rfl (any_of HT_.out (by kernel_rfl)) (fun _ _ _ h => h) (Or.inl ⟨by rfl, ?_⟩) ?_ ?_
                    rotate_left
                    ·intro w'
                     go_simp
                     with_reducible rfl
                    rotate_left
                    ·simp only [Act.put, zK, zL, zM, i64_w, i32_w]
                     rfl
                    refine pure_ (i := 1) (N := some 85) (v := ?_) (a' := ?_) #[true, true, false, false, false, false, false, false, false, false, false] rfl rfl (any_of HT_.out (by kernel_rfl)) (fun _ _ _ h => h) (Or.inl ⟨by rfl, ?_⟩) ?_ ?_
                    rotate_left
                    ·intro w'
                     go_simp
                     with_reducible rfl
                    rotate_left
                    ·simp only [Act.put, zK, zL, zM, i64_w, i32_w]
                     rfl
                    refine pure_ (i := 2) (N := some 86) (v := ?_) (a' := ?_) #[true, true, true, false, false, false, false, false, false, false, false] rfl rfl (any_of HT_.out (by kernel_rfl)) (fun _ _ _ h => h) (Or.inl ⟨by rfl, ?_⟩) ?_ ?_
                    rotate_left
                    ·intro w'
                     go_simp
                     with_reducible rfl
                    rotate_left
                    ·simp only [Act.put, zK, zL, zM, i64_w, i32_w]
                     rfl
                    refine pure_ (i := 5) (N := some 89) (v := ?_) (a' := ?_) #[true, true, true, false, false, true, false, false, false, false, false] rfl rfl (any_of HT_.out (by kernel_rfl)) (fun _ _ _ h => h) (Or.inl ⟨by rfl, ?_⟩) ?_ ?_
                    rotate_left
                    ·intro w'
                     go_simp
                     with_reducible rfl
                    rotate_left
                    ·simp only [Act.put, zK, zL, zM, i64_w, i32_w]
                     rfl
                    refine pure_ (i := 7) (N := some 91) (v := ?_) (a' := ?_) #[true, true, true, false, false, true, false, true, false, false, false] rfl rfl (any_of HT_.out (by kernel_rfl)) (fun _ _ _ h => h) (Or.inl ⟨by rfl, ?_⟩) ?_ ?_
                    rotate_left
                    ·intro w'
                     go_simp
                     with_reducible rfl
                    rotate_left
                    ·simp only [Act.put, zK, zL, zM, i64_w, i32_w]
                     rfl
                    refine pure_ (i := 8) (N := some 92) (v := ?_) (a' := ?_) #[true, true, true, false, false, true, false, true, true, false, false] rfl rfl (any_of HT_.out (by kernel_rfl)) (fun _ _ _ h => h) (Or.inl ⟨by rfl, ?_⟩) ?_ ?_
                    rotate_left
                    ·intro w'
                     go_simp
                     with_reducible rfl
                    rotate_left
                    ·simp only [Act.put, zK, zL, zM, i64_w, i32_w]
                     rfl
                    refine one_ (i := 3) (N := some 87) #[true, true, true, true, false, true, false, true, true, false, false] rfl rfl (one_of HT_.out (by kernel_rfl)) (by decide) (fun K hK => ?_)
                    refine goes_ Tryd.func44 (by kernel_rfl) rfl #[.slice Ao77 x12_4.length co77, .string (⟨#[44]⟩ : ByteArray)] (by rfl) rfl rfl apE ?_
                    with_reducible refine (strings_Join.calls _ _ x12_4 (⟨#[44]⟩ : ByteArray) t320 _ ?side1 ?side2 A71.out).mono ?_
                    (case side1 => repeat (first | exact (Kd.R_reads' HO_12.out).2.2 | (with_reducible refine Kd.C_alloc ?_ _) | (with_reducible refine Kd.C_drewN ?_ _) | (with_reducible refine Kd.C_drew ?_)))
                    (case side2 => exact (Kd.R_reads' HO_12.out).2.1)
                    rintro e w78 ⟨rfl, hb⟩
                    refine ⟨_, rfl, ?_⟩
                    have n0_ := zA (Kd.R_below (by (with_reducible repeat (first | apply Kd.R_alloc | apply Kd.R_drewN | apply Kd.R_drew)); exact HO_12.out) hb)
                    have n1_ := zA (zN (g := gb314) (o := .cells #[.int .i64 a0_0, .int .i64 a0_1, .int .i64 a0_2, .string a0_3, .slice A0_4 l0_4.length c0_4, .slice A0_5 l0_5.length c0_5] 34 (0, 0)) apM hb)
                    have n2_ := zA (zP apL hb)
                    clear HO_12
                    clear BK314
                    clear HB
                    have HO_12 := n0_
                    have BK314 := n1_
                    have HB := n2_
                    clear n0_ n1_ n2_
                    (try clear hb)
                    (try clear hb2)
                    (try clear hk)
                    (try clear hi)
                    refine hK.out _ _ trivial (fun hHeld => ?_)
                    clear hK K
                    refine norm_ (a' := ?_) ?_ ?_
                    rotate_left
                    ·show Act.put _ (some 87) _ = _
                     simp only [Act.put, zK, zL, zM, i64_w, i32_w]
                     rfl
                    refine pure_ (i := 4) (N := some 88) (v := ?_) (a' := ?_) #[true, true, true, true, true, true, false, true, true, false, false] rfl rfl (any_of HT_.out (by kernel_rfl)) (fun _ _ _ h => h) (Or.inl ⟨by rfl, ?_⟩) ?_ ?_
                    rotate_left
                    ·intro w'
                     go_simp
                     with_reducible rfl
                    rotate_left
                    ·simp only [Act.put, zK, zL, zM, i64_w, i32_w]
                     rfl
                    refine pure_ (i := 6) (N := some 90) (v := ?_) (a' := ?_) #[true, true, true, true, true, true, true, true, true, false, false] rfl rfl (any_of HT_.out (by kernel_rfl)) (fun _ _ _ h => h) (Or.inl ⟨by rfl, ?_⟩) ?_ ?_
                    rotate_left
                    ·intro w'
                     go_simp
                     with_reducible rfl
                    rotate_left
                    ·simp only [Act.put, zK, zL, zM, i64_w, i32_w]
                     rfl
                    refine pure_ (i := 9) (N := some 93) (v := ?_) (a' := ?_) #[true, true, true, true, true, true, true, true, true, true, false] rfl rfl (any_of HT_.out (by kernel_rfl)) (fun _ _ _ h => h) (Or.inl ⟨by rfl, ?_⟩) ?_ ?_
                    rotate_left
                    ·intro w'
                     go_simp
                     with_reducible rfl
                    rotate_left
                    ·simp only [Act.put, zK, zL, zM, i64_w, i32_w]
                     rfl
                    refine pure_ (i := 10) (N := some 6) (v := ?_) (a' := ?_) #[true, true, true, true, true, true, true, true, true, true, true] rfl rfl (any_of HT_.out (by kernel_rfl)) (fun _ _ _ h => h) (Or.inl ⟨by rfl, ?_⟩) ?_ ?_
                    rotate_left
                    ·intro w'
                     go_simp
                     with_reducible rfl
                    rotate_left
                    ·simp only [Act.put, zK, zL, zM, i64_w, i32_w]
                     rfl
                    refine done_ (done_of HT_.out (by kernel_rfl)) ?_
                    try go_wp2
                    go_ret
                    exact ⟨apD, apL⟩
                   ·rw [if_neg c75] at H
                    exact absurd H (by simp)
                  ·rw [if_neg c73] at H
                   exact absurd H (by simp)
                 ·rw [if_neg c72] at H
                  exact absurd H (by simp)
                ·rw [if_neg c70] at H
                 exact absurd H (by simp)
               ·rw [if_neg c69] at H
                exact absurd H (by simp)

end Go.Proofs.YtmdpjfmkhnjilaaDoor.Q

namespace Go.Proofs.YtmdpjfmkhnjilaaDoor.Q
open Go.RowKit Go.Proofs.YtmdpjfmkhnjilaaDoorW.PrintWords Go.Proofs.YtmdpjfmkhnjilaaDoorW.PrintLast Go.Proofs.YtmdpjfmkhnjilaaDoorW.PrintMore Go.Proofs.YtmdpjfmkhnjilaaDoorX
attribute [local go_sem] max2_int min2_int max_two min_two max_three min_three max_four min_four   -- for this text's walks alone
set_option linter.unusedVariables false
set_option linter.unusedSimpArgs false

mutual
def spec_l12Flat.j0 : Nat → Bool → Int → Int → Int → ByteArray → List (S34) → List ByteArray → Option (Bool)
 | 0, _, _, _, _, _, _, _ => none
 | k + 1, x11, x178000, x178001, x178002, x178003, x178004, x178005 => if x11 = true then (some false) else (spec_l12Flat.l0 k 0 x178000 x178001 x178002 x178003 x178004 x178005)
def spec_l12Flat.l0 : Nat → Int → Int → Int → Int → ByteArray → List (S34) → List ByteArray → Option (Bool)
 | 0, _, _, _, _, _, _, _ => none
 | k + 1, x3, x178000, x178001, x178002, x178003, x178004, x178005 => if x3 < (x178004.length : Int) then (if 0 ≤ x3 then ((spec_l12Flat.f k ((rd_T34 x178004 x3).f0) ((rd_T34 x178004 x3).f1.f0) ((rd_T34 x178004 x3).f1.f1) ((rd_T34 x178004 x3).f2) ((rd_T34 x178004 x3).f3) ((rd_T34 x178004 x3).f4)).bind fun t179 => (if t179 = true then (spec_l12Flat.l0 k (wrap64 (x3 + 1)) x178000 x178001 x178002 x178003 x178004 x178005) else (some false))) else (none)) else (some true)
def spec_l12Flat.f : Nat → Int → Int → Int → ByteArray → List (S34) → List ByteArray → Option (Bool)
 | 0, _, _, _, _, _, _ => none
 | k + 1, a0_0, a0_1, a0_2, a0_3, l0_4, l0_5 => if a0_0 = 0 then (spec_l12Flat.j0 k true a0_0 a0_1 a0_2 a0_3 l0_4 l0_5) else (spec_l12Flat.j0 k (a0_0 == 6) a0_0 a0_1 a0_2 a0_3 l0_4 l0_5)
end
theorem spec_l12Flat.mono_l : ∀ k, (∀ y0 y1 y2 y3 y4 y5, LeO (spec_l12Flat.f k y0 y1 y2 y3 y4 y5) (spec_l12Flat.f (k + 1) y0 y1 y2 y3 y4 y5)) ∧ (∀ y0 y1 y2 y3 y4 y5 y6, LeO (spec_l12Flat.j0 k y0 y1 y2 y3 y4 y5 y6) (spec_l12Flat.j0 (k + 1) y0 y1 y2 y3 y4 y5 y6)) ∧ (∀ y0 y1 y2 y3 y4 y5 y6, LeO (spec_l12Flat.l0 k y0 y1 y2 y3 y4 y5 y6) (spec_l12Flat.l0 (k + 1) y0 y1 y2 y3 y4 y5 y6))
 | 0 => ⟨fun _ _ _ _ _ _ r h => by simp [spec_l12Flat.f] at h, fun _ _ _ _ _ _ _ r h => by simp [spec_l12Flat.j0] at h, fun _ _ _ _ _ _ _ r h => by simp [spec_l12Flat.l0] at h⟩
 | k + 1 => by
  obtain ⟨ih0, ih1, ih2⟩ := spec_l12Flat.mono_l k
  refine ⟨?_, ?_, ?_⟩
  ·intro y0 y1 y2 y3 y4 y5
   unfold spec_l12Flat.f
   repeat' first
   | (with_reducible exact ih0 _ _ _ _ _ _)
   | (with_reducible exact ih1 _ _ _ _ _ _ _)
   | (with_reducible exact ih2 _ _ _ _ _ _ _)
   | (with_reducible exact LeO.refl _)
   | (with_reducible exact LeO.none _)
   | (with_reducible refine LeO.ite ?_ ?_)
   | (with_reducible refine LeO.bind ?_ (fun _ => ?_))
   | exact ih0 _ _ _ _ _ _
   | exact ih1 _ _ _ _ _ _ _
   | exact ih2 _ _ _ _ _ _ _
  ·intro y0 y1 y2 y3 y4 y5 y6
   unfold spec_l12Flat.j0
   repeat' first
   | (with_reducible exact ih0 _ _ _ _ _ _)
   | (with_reducible exact ih1 _ _ _ _ _ _ _)
   | (with_reducible exact ih2 _ _ _ _ _ _ _)
   | (with_reducible exact LeO.refl _)
   | (with_reducible exact LeO.none _)
   | (with_reducible refine LeO.ite ?_ ?_)
   | (with_reducible refine LeO.bind ?_ (fun _ => ?_))
   | exact ih0 _ _ _ _ _ _
   | exact ih1 _ _ _ _ _ _ _
   | exact ih2 _ _ _ _ _ _ _
  ·intro y0 y1 y2 y3 y4 y5 y6
   unfold spec_l12Flat.l0
   repeat' first
   | (with_reducible exact ih0 _ _ _ _ _ _)
   | (with_reducible exact ih1 _ _ _ _ _ _ _)
   | (with_reducible exact ih2 _ _ _ _ _ _ _)
   | (with_reducible exact LeO.refl _)
   | (with_reducible exact LeO.none _)
   | (with_reducible refine LeO.ite ?_ ?_)
   | (with_reducible refine LeO.bind ?_ (fun _ => ?_))
   | exact ih0 _ _ _ _ _ _
   | exact ih1 _ _ _ _ _ _ _
   | exact ih2 _ _ _ _ _ _ _
theorem spec_l12Flat.mono : ∀ a0 a1 a2 a3 a4 a5 k, LeO (spec_l12Flat.f k a0 a1 a2 a3 a4 a5) (spec_l12Flat.f (k + 1) a0 a1 a2 a3 a4 a5) := by
 intro a0 a1 a2 a3 a4 a5 k
 obtain ⟨ih0, ih1, ih2⟩ := spec_l12Flat.mono_l k
 exact ih0 a0 a1 a2 a3 a4 a5
set_option maxHeartbeats 8000000 in
set_option maxRecDepth 100000 in
theorem spec_l12Flat.calls (k : Nat) : ∀ (a0_0 : Int) (a0_1 : Int) (a0_2 : Int) (a0_3 : ByteArray) (A0_4 : Option Addr) (c0_4 : Nat) (l0_4 : List (S34)) (A0_5 : Option Addr) (c0_5 : Nat) (l0_5 : List ByteArray) (r : Bool) (w : World) (hr0_4 : Kd.C k34 w A0_4 l0_4.length l0_4) (hc0_4 : l0_4.length ≤ c0_4) (hr0_5 : Kd.C Kd.string w A0_5 l0_5.length l0_5) (hc0_5 : l0_5.length ≤ c0_5) (h : spec_l12Flat.f k a0_0 a0_1 a0_2 a0_3 l0_4 l0_5 = some r),
  Calls Tryd.prog 26 #[.agg #[.int .i64 a0_0, .int .i64 a0_1, .int .i64 a0_2, .string a0_3, .slice A0_4 l0_4.length c0_4, .slice A0_5 l0_5.length c0_5]] w fun e w' => e = .returned (.bool r) ∧ Below w.heap.size w w' := by
 induction k using Nat.strongRecOn with
 | _ k ih =>
 intro a0_0 a0_1 a0_2 a0_3 A0_4 c0_4 l0_4 A0_5 c0_5 l0_5 r w hr0_4 hc0_4 hr0_5 hc0_5 h
 cases k with
 | zero => exact absurd h (by simp [spec_l12Flat.f])
 | succ k =>
 simp only [spec_l12Flat.f] at h
 have hu34 := Tryd.underlying34
 have HR0_4 := zA hr0_4
 have HC0_4 := zA hc0_4
 clear hr0_4 hc0_4
 have HR0_5 := zA hr0_5
 have HC0_5 := zA hc0_5
 clear hr0_5 hc0_5
 have HB := zA (yH w.heap.size w)
 have H : (if a0_0 = 0 then (spec_l12Flat.j0 k true a0_0 a0_1 a0_2 a0_3 l0_4 l0_5) else (spec_l12Flat.j0 k (a0_0 == 6) a0_0 a0_1 a0_2 a0_3 l0_4 l0_5)) = some r := h
 clear h
 have HC2 := zA H
 clear H
 go_enter Tryd.func26, Tryd.ntmps26
 go_upto_region 1 with (first | ((with_reducible refine zS (N := 1) rfl ?_); refine zW ?hg (N := 1) ?hd (cs := #[.int .i64 a0_0, .int .i64 a0_1, .int .i64 a0_2, .string a0_3, .slice A0_4 l0_4.length c0_4, .slice A0_5 l0_5.length c0_5]) (t := 34) ?hr ?_; (case hd => rfl); (case hg => rfl); (case hr => first | (go_simp; done) | (go_simp; rfl)); intro gb177 hg w3 hbox hb; have n0_ := zA (zP apA hb); have n1_ := zA (hbox); have n2_ := zA ((by rw [hg]; exact (zQ apA) : w.heap.size ≤ gb177)); have n3_ := zA ((by rw [hg]; exact (zQ apA) : w.heap.size ≤ gb177)); clear HB; have HB := n0_; have BK177 := n1_; have GW177 := n2_; have GE177 := n3_; clear n0_ n1_ n2_ n3_; clear hb hbox hg))
 (try simp only [Act.put, zK, zL, zM])
 go_cut [11] (fun v11 wc => ∃ (kq : Nat) (x11_1 : Bool), v11 = .bool x11_1 ∧ Aside0 (spec_l12Flat.j0 kq x11_1 a0_0 a0_1 a0_2 a0_3 l0_4 l0_5 = some r) ∧ Aside0 (kq ≤ k) ∧ Aside0 (wc.heap[gb177]? = some (.cells #[.int .i64 a0_0, .int .i64 a0_1, .int .i64 a0_2, .string a0_3, (.slice A0_4 l0_4.length c0_4), (.slice A0_5 l0_5.length c0_5)] 34 (0, 0))) ∧ Aside0 (Below w.heap.size w wc))
 case first =>
  have H := HC2.out
  clear HC2
  by_cases c4 : a0_0 = 0
  ·rw [if_pos c4] at H
   have c4b0 : (a0_0 == 0) = true := beq_iff_eq.mpr c4
   have c4b1 : (a0_0 != 0) = false := bne_eq_false_iff_eq.mpr c4
   clear c4
   (first | rw [c4b0] | (simp only [i64_w, i32_w]; rw [c4b0]) | skip)
   have H' := zA H
   clear H
   obtain ⟨hcz5_0, hcz5_1, hcz5_2, hcz5_3, hcz5_4, hcz5_5, hfz5_0, hfz5_1, hfz5_2, hfz5_3, hfz5_4, hfz5_5⟩ := zb6 BK177.out
   go_wp2
   go_meet
   case rel => exact ⟨_, (true), apC, H', ⟨by first | omega | exact yJ _⟩, ⟨by (with_reducible repeat (first | refine zB ?_ _ | refine zD ?_ | refine zC ?_ _)); exact BK177.out⟩, ⟨by repeat (first | (with_reducible first | exact HB.out | apply zG | apply zE | apply zF | refine zH ?_ GE177.out) | exact HB.out)⟩⟩
  ·rw [if_neg c4] at H
   have c4b0 : (a0_0 == 0) = false := beq_eq_false_iff_ne.mpr c4
   have c4b1 : (a0_0 != 0) = true := bne_iff_ne.mpr c4
   (first | rw [c4b0] | (simp only [i64_w, i32_w]; rw [c4b0]) | skip)
   have H' := zA H
   clear H
   obtain ⟨hcz6_0, hcz6_1, hcz6_2, hcz6_3, hcz6_4, hcz6_5, hfz6_0, hfz6_1, hfz6_2, hfz6_3, hfz6_4, hfz6_5⟩ := zb6 BK177.out
   go_wp2
   go_meet
   case rel => exact ⟨_, ((a0_0 == 6)), apC, H', ⟨by first | omega | exact yJ _⟩, ⟨by (with_reducible repeat (first | refine zB ?_ _ | refine zD ?_ | refine zC ?_ _)); exact BK177.out⟩, ⟨by repeat (first | (with_reducible first | exact HB.out | apply zG | apply zE | apply zF | refine zH ?_ GE177.out) | exact HB.out)⟩⟩
 case rest =>
  clear HC2
  try clear c2 p2 c4 c4b0 c4b1 hcz5_0 hcz5_1 hcz5_2 hcz5_3 hcz5_4 hcz5_5 hcz6_0 hcz6_1 hcz6_2 hcz6_3 hcz6_4 hcz6_5 hfz5_0 hfz5_1 hfz5_2 hfz5_3 hfz5_4 hfz5_5 hfz6_0 hfz6_1 hfz6_2 hfz6_3 hfz6_4 hfz6_5
  obtain ⟨kq, x11_1, rfl, HA, HJ1, BK177, HB⟩ := hcut
  cases kq with
  | zero => exact absurd HA.out (by simp [spec_l12Flat.j0])
  | succ kj1 =>
   have H := HA.out
   clear HA
   simp only [spec_l12Flat.j0] at H
   by_cases c7 : x11_1 = true
   ·subst c7
    have H1 := H; rw [if_pos rfl] at H1
    clear H
    have H := H1
    clear H1
    obtain rfl := yG H
    go_wp2
    go_ret
    exact ⟨apD, by repeat (first | (with_reducible first | exact HB.out | apply zG | apply zE | apply zF | refine zH ?_ GE177.out) | exact HB.out)⟩
   ·replace c7 := Bool.eq_false_iff.mpr c7
    subst c7
    have H1 := H; rw [if_neg (show ¬ (false = true) by decide)] at H1
    clear H
    have H := H1
    clear H1
    have H' := zA H
    clear H
    go_wp2
    go_loopg [3] kj1 (fun kq v3 w' => ∃ (x3_2 : Int), v3 = .int .i64 x3_2 ∧ Aside0 (spec_l12Flat.l0 kq x3_2 a0_0 a0_1 a0_2 a0_3 l0_4 l0_5 = some r) ∧ Aside0 (kq ≤ kj1) ∧ Aside0 (w'.heap[gb177]? = some (.cells #[.int .i64 a0_0, .int .i64 a0_1, .int .i64 a0_2, .string a0_3, (.slice A0_4 l0_4.length c0_4), (.slice A0_5 l0_5.length c0_5)] 34 (0, 0))) ∧ Aside0 (Below w.heap.size w w'))
    case atStart => exact ⟨(0), apC, H', ⟨yJ _⟩, ⟨by (with_reducible repeat (first | refine zB ?_ _ | refine zD ?_ | refine zC ?_ _)); exact BK177.out⟩, ⟨by repeat (first | (with_reducible first | exact HB.out | apply zG | apply zE | apply zF | refine zH ?_ GE177.out) | exact HB.out)⟩⟩
    case round =>
     clear H'
     try clear c2 p2 c4 c4b0 c4b1 c7 hcz5_0 hcz5_1 hcz5_2 hcz5_3 hcz5_4 hcz5_5 hcz6_0 hcz6_1 hcz6_2 hcz6_3 hcz6_4 hcz6_5 hfz5_0 hfz5_1 hfz5_2 hfz5_3 hfz5_4 hfz5_5 hfz6_0 hfz6_1 hfz6_2 hfz6_3 hfz6_4 hfz6_5 p2
     obtain ⟨x3_2, rfl, HA, HK2, BK177, HB⟩ := hrel
     cases gk with
     | zero => exact absurd HA.out (by simp [spec_l12Flat.l0])
     | succ k2 =>
      have H := HA.out
      clear HA
      simp only [spec_l12Flat.l0] at H
      by_cases c8 : x3_2 < (l0_4.length : Int)
      ·rw [if_pos c8] at H
       have c8b0 : decide (x3_2 < (l0_4.length : Int)) = true := yE c8
       clear c8
       by_cases c9 : 0 ≤ x3_2
       ·rw [if_pos c9] at H
        have c9b0 : decide (0 ≤ x3_2) = true := yE c9
        clear c9
        replace H := Option.bind_eq_some_iff.mp H
        obtain ⟨t179, A100, H⟩ := H
        have A10 := zA A100
        clear A100
        by_cases c11 : t179 = true
        ·subst c11
         have H1 := H; rw [if_pos rfl] at H1
         clear H
         have H := H1
         clear H1
         have H' := zA H
         clear H
         obtain ⟨hcz12_0, hcz12_1, hcz12_2, hcz12_3, hcz12_4, hcz12_5, hfz12_0, hfz12_1, hfz12_2, hfz12_3, hfz12_4, hfz12_5⟩ := zb6 BK177.out
         have p178 : 0 ≤ (x3_2 : Int) := yF apB
         have q178 : x3_2 < (l0_4.length : Int) := yF apB
         obtain ⟨ad178, A178_4, c178_4, A178_5, c178_5, e178, hx178_0, hx178_1, hx178_2, hx178_3, hx178_4, hx178_5, hl178_4, hi178_4, hl178_5, hi178_5⟩ := at_T34 HR0_4.out x3_2 p178 q178
         cases e178
         replace hx178_0 := (HB.out.cell (zR w _ hx178_0)).trans hx178_0
         replace hx178_1 := (HB.out.cell (zR w _ hx178_1)).trans hx178_1
         replace hx178_2 := (HB.out.cell (zR w _ hx178_2)).trans hx178_2
         replace hx178_3 := (HB.out.cell (zR w _ hx178_3)).trans hx178_3
         replace hx178_4 := (HB.out.cell (zR w _ hx178_4)).trans hx178_4
         replace hx178_5 := (HB.out.cell (zR w _ hx178_5)).trans hx178_5
         have HR178_4 := zA hi178_4
         have HC178_4 := zA hl178_4
         clear hi178_4 hl178_4
         have HR178_5 := zA hi178_5
         have HC178_5 := zA hl178_5
         clear hi178_5 hl178_5
         replace p178 := eq_true p178
         replace q178 := eq_true q178
         go_wp2_with (first | ((with_reducible refine zT (f := 26) rfl ?_); refine goesL_ (some 24) rfl rfl Tryd.func26 (by kernel_rfl) rfl #[.agg #[.int .i64 ((rd_T34 l0_4 x3_2).f0), .int .i64 ((rd_T34 l0_4 x3_2).f1.f0), .int .i64 ((rd_T34 l0_4 x3_2).f1.f1), .string ((rd_T34 l0_4 x3_2).f2), .slice A178_4 ((rd_T34 l0_4 x3_2).f3).length c178_4, .slice A178_5 ((rd_T34 l0_4 x3_2).f4).length c178_5]] rfl apE ?_; (with_reducible refine (ih k2 (by have := HJ1.out; have := HK2.out; omega) ((rd_T34 l0_4 x3_2).f0) ((rd_T34 l0_4 x3_2).f1.f0) ((rd_T34 l0_4 x3_2).f1.f1) ((rd_T34 l0_4 x3_2).f2) _ _ ((rd_T34 l0_4 x3_2).f3) _ _ ((rd_T34 l0_4 x3_2).f4) true _ ?side1 ?side2 ?side3 ?side4 A10.out).mono ?_); (case side1 => repeat (first | exact (Kd.C_below HR178_4.out HB.out) | (with_reducible refine Kd.C_alloc ?_ _) | (with_reducible refine Kd.C_drewN ?_ _) | (with_reducible refine Kd.C_drew ?_))); (case side2 => exact HC178_4.out); (case side3 => repeat (first | exact (Kd.C_below HR178_5.out HB.out) | (with_reducible refine Kd.C_alloc ?_ _) | (with_reducible refine Kd.C_drewN ?_ _) | (with_reducible refine Kd.C_drew ?_))); (case side4 => exact HC178_5.out); rintro e w13 ⟨rfl, hb⟩; refine ⟨_, rfl, ?_⟩; have n0_ := zA (zN (g := gb177) (o := .cells #[.int .i64 a0_0, .int .i64 a0_1, .int .i64 a0_2, .string a0_3, .slice (some ad178) l0_4.length c0_4, .slice A0_5 l0_5.length c0_5] 34 (0, 0)) (by (with_reducible repeat (first | refine zB ?_ _ | refine zD ?_ | refine zC ?_ _)); exact BK177.out) hb); have n1_ := zA (zP (by repeat (first | (with_reducible first | exact HB.out | apply zG | apply zE | apply zF | refine zH ?_ GE177.out) | exact HB.out)) hb); clear BK177; clear HB; have BK177 := n0_; have HB := n1_; clear n0_ n1_; (try clear hb); (try clear hb2); (try clear hk); (try clear hi)))
         go_roundg k2
         case measure => have := HJ1.out; have := HK2.out; omega
         case rel => exact ⟨(wrap64 (x3_2 + 1)), apC, H', ⟨by have := HJ1.out; have := HK2.out; omega⟩, ⟨by (with_reducible repeat (first | refine zB ?_ _ | refine zD ?_ | refine zC ?_ _)); exact BK177.out⟩, ⟨by repeat (first | (with_reducible first | exact HB.out | apply zG | apply zE | apply zF | refine zH ?_ GE177.out) | exact HB.out)⟩⟩
        ·replace c11 := Bool.eq_false_iff.mpr c11
         subst c11
         have H1 := H; rw [if_neg (show ¬ (false = true) by decide)] at H1
         clear H
         have H := H1
         clear H1
         obtain rfl := yG H
         obtain ⟨hcz14_0, hcz14_1, hcz14_2, hcz14_3, hcz14_4, hcz14_5, hfz14_0, hfz14_1, hfz14_2, hfz14_3, hfz14_4, hfz14_5⟩ := zb6 BK177.out
         have p178 : 0 ≤ (x3_2 : Int) := yF apB
         have q178 : x3_2 < (l0_4.length : Int) := yF apB
         obtain ⟨ad178, A178_4, c178_4, A178_5, c178_5, e178, hx178_0, hx178_1, hx178_2, hx178_3, hx178_4, hx178_5, hl178_4, hi178_4, hl178_5, hi178_5⟩ := at_T34 HR0_4.out x3_2 p178 q178
         cases e178
         replace hx178_0 := (HB.out.cell (zR w _ hx178_0)).trans hx178_0
         replace hx178_1 := (HB.out.cell (zR w _ hx178_1)).trans hx178_1
         replace hx178_2 := (HB.out.cell (zR w _ hx178_2)).trans hx178_2
         replace hx178_3 := (HB.out.cell (zR w _ hx178_3)).trans hx178_3
         replace hx178_4 := (HB.out.cell (zR w _ hx178_4)).trans hx178_4
         replace hx178_5 := (HB.out.cell (zR w _ hx178_5)).trans hx178_5
         have HR178_4 := zA hi178_4
         have HC178_4 := zA hl178_4
         clear hi178_4 hl178_4
         have HR178_5 := zA hi178_5
         have HC178_5 := zA hl178_5
         clear hi178_5 hl178_5
         replace p178 := eq_true p178
         replace q178 := eq_true q178
         go_wp2_with (first | ((with_reducible refine zT (f := 26) rfl ?_); refine goesL_ (some 24) rfl rfl Tryd.func26 (by kernel_rfl) rfl #[.agg #[.int .i64 ((rd_T34 l0_4 x3_2).f0), .int .i64 ((rd_T34 l0_4 x3_2).f1.f0), .int .i64 ((rd_T34 l0_4 x3_2).f1.f1), .string ((rd_T34 l0_4 x3_2).f2), .slice A178_4 ((rd_T34 l0_4 x3_2).f3).length c178_4, .slice A178_5 ((rd_T34 l0_4 x3_2).f4).length c178_5]] rfl apE ?_; (with_reducible refine (ih k2 (by have := HJ1.out; have := HK2.out; omega) ((rd_T34 l0_4 x3_2).f0) ((rd_T34 l0_4 x3_2).f1.f0) ((rd_T34 l0_4 x3_2).f1.f1) ((rd_T34 l0_4 x3_2).f2) _ _ ((rd_T34 l0_4 x3_2).f3) _ _ ((rd_T34 l0_4 x3_2).f4) false _ ?side1 ?side2 ?side3 ?side4 A10.out).mono ?_); (case side1 => repeat (first | exact (Kd.C_below HR178_4.out HB.out) | (with_reducible refine Kd.C_alloc ?_ _) | (with_reducible refine Kd.C_drewN ?_ _) | (with_reducible refine Kd.C_drew ?_))); (case side2 => exact HC178_4.out); (case side3 => repeat (first | exact (Kd.C_below HR178_5.out HB.out) | (with_reducible refine Kd.C_alloc ?_ _) | (with_reducible refine Kd.C_drewN ?_ _) | (with_reducible refine Kd.C_drew ?_))); (case side4 => exact HC178_5.out); rintro e w15 ⟨rfl, hb⟩; refine ⟨_, rfl, ?_⟩; have n0_ := zA (zP apA hb); clear HB; have HB := n0_; clear n0_; (try clear hb); (try clear hb2); (try clear hk); (try clear hi)))
         go_ret
         exact ⟨apD, apA⟩
       ·rw [if_neg c9] at H
        exact absurd H (by simp)
      ·rw [if_neg c8] at H
       have c8b0 : decide (x3_2 < (l0_4.length : Int)) = false := decide_eq_false c8
       clear c8
       obtain rfl := yG H
       obtain ⟨hcz16_0, hcz16_1, hcz16_2, hcz16_3, hcz16_4, hcz16_5, hfz16_0, hfz16_1, hfz16_2, hfz16_3, hfz16_4, hfz16_5⟩ := zb6 BK177.out
       go_wp2
       go_ret
       exact ⟨apD, by repeat (first | (with_reducible first | exact HB.out | apply zG | apply zE | apply zF | refine zH ?_ GE177.out) | exact HB.out)⟩


mutual
def spec_l12Fits.l0 : Nat → Int → Int → Int → Int → ByteArray → List (S34) → List ByteArray → Option (Bool)
 | 0, _, _, _, _, _, _, _ => none
 | k + 1, x3, x181000, x181001, x181002, x181003, x181004, x181005 => if x3 < (x181004.length : Int) then (if 0 ≤ x3 then ((spec_l12Flat.f k ((rd_T34 x181004 x3).f0) ((rd_T34 x181004 x3).f1.f0) ((rd_T34 x181004 x3).f1.f1) ((rd_T34 x181004 x3).f2) ((rd_T34 x181004 x3).f3) ((rd_T34 x181004 x3).f4)).bind fun t182 => (if t182 = true then (spec_l12Fits.l0 k (wrap64 (x3 + 1)) x181000 x181001 x181002 x181003 x181004 x181005) else ((spec_l12Fits.f k ((rd_T34 x181004 x3).f0) ((rd_T34 x181004 x3).f1.f0) ((rd_T34 x181004 x3).f1.f1) ((rd_T34 x181004 x3).f2) ((rd_T34 x181004 x3).f3) ((rd_T34 x181004 x3).f4)).bind fun t184 => (if t184 = true then (spec_l12Fits.l0 k (wrap64 (x3 + 1)) x181000 x181001 x181002 x181003 x181004 x181005) else (some false))))) else (none)) else (some true)
def spec_l12Fits.f : Nat → Int → Int → Int → ByteArray → List (S34) → List ByteArray → Option (Bool)
 | 0, _, _, _, _, _, _ => none
 | k + 1, a0_0, a0_1, a0_2, a0_3, l0_4, l0_5 => if a0_0 = 6 then (spec_l12Fits.l0 k 0 a0_0 a0_1 a0_2 a0_3 l0_4 l0_5) else (some false)
end
theorem spec_l12Fits.mono_l : ∀ k, (∀ y0 y1 y2 y3 y4 y5, LeO (spec_l12Fits.f k y0 y1 y2 y3 y4 y5) (spec_l12Fits.f (k + 1) y0 y1 y2 y3 y4 y5)) ∧ (∀ y0 y1 y2 y3 y4 y5 y6, LeO (spec_l12Fits.l0 k y0 y1 y2 y3 y4 y5 y6) (spec_l12Fits.l0 (k + 1) y0 y1 y2 y3 y4 y5 y6))
 | 0 => ⟨fun _ _ _ _ _ _ r h => by simp [spec_l12Fits.f] at h, fun _ _ _ _ _ _ _ r h => by simp [spec_l12Fits.l0] at h⟩
 | k + 1 => by
  obtain ⟨ih0, ih1⟩ := spec_l12Fits.mono_l k
  refine ⟨?_, ?_⟩
  ·intro y0 y1 y2 y3 y4 y5
   unfold spec_l12Fits.f
   repeat' first
   | (with_reducible exact ih0 _ _ _ _ _ _)
   | (with_reducible exact ih1 _ _ _ _ _ _ _)
   | (with_reducible exact spec_l12Flat.mono _ _ _ _ _ _ _)
   | (with_reducible exact LeO.refl _)
   | (with_reducible exact LeO.none _)
   | (with_reducible refine LeO.ite ?_ ?_)
   | (with_reducible refine LeO.bind ?_ (fun _ => ?_))
   | exact ih0 _ _ _ _ _ _
   | exact ih1 _ _ _ _ _ _ _
  ·intro y0 y1 y2 y3 y4 y5 y6
   unfold spec_l12Fits.l0
   repeat' first
   | (with_reducible exact ih0 _ _ _ _ _ _)
   | (with_reducible exact ih1 _ _ _ _ _ _ _)
   | (with_reducible exact spec_l12Flat.mono _ _ _ _ _ _ _)
   | (with_reducible exact LeO.refl _)
   | (with_reducible exact LeO.none _)
   | (with_reducible refine LeO.ite ?_ ?_)
   | (with_reducible refine LeO.bind ?_ (fun _ => ?_))
   | exact ih0 _ _ _ _ _ _
   | exact ih1 _ _ _ _ _ _ _
theorem spec_l12Fits.mono : ∀ a0 a1 a2 a3 a4 a5 k, LeO (spec_l12Fits.f k a0 a1 a2 a3 a4 a5) (spec_l12Fits.f (k + 1) a0 a1 a2 a3 a4 a5) := by
 intro a0 a1 a2 a3 a4 a5 k
 obtain ⟨ih0, ih1⟩ := spec_l12Fits.mono_l k
 exact ih0 a0 a1 a2 a3 a4 a5
set_option maxHeartbeats 8000000 in
set_option maxRecDepth 100000 in
theorem spec_l12Fits.calls (k : Nat) : ∀ (a0_0 : Int) (a0_1 : Int) (a0_2 : Int) (a0_3 : ByteArray) (A0_4 : Option Addr) (c0_4 : Nat) (l0_4 : List (S34)) (A0_5 : Option Addr) (c0_5 : Nat) (l0_5 : List ByteArray) (r : Bool) (w : World) (hr0_4 : Kd.C k34 w A0_4 l0_4.length l0_4) (hc0_4 : l0_4.length ≤ c0_4) (hr0_5 : Kd.C Kd.string w A0_5 l0_5.length l0_5) (hc0_5 : l0_5.length ≤ c0_5) (h : spec_l12Fits.f k a0_0 a0_1 a0_2 a0_3 l0_4 l0_5 = some r),
  Calls Tryd.prog 12 #[.agg #[.int .i64 a0_0, .int .i64 a0_1, .int .i64 a0_2, .string a0_3, .slice A0_4 l0_4.length c0_4, .slice A0_5 l0_5.length c0_5]] w fun e w' => e = .returned (.bool r) ∧ Below w.heap.size w w' := by
 induction k using Nat.strongRecOn with
 | _ k ih =>
 intro a0_0 a0_1 a0_2 a0_3 A0_4 c0_4 l0_4 A0_5 c0_5 l0_5 r w hr0_4 hc0_4 hr0_5 hc0_5 h
 cases k with
 | zero => exact absurd h (by simp [spec_l12Fits.f])
 | succ k =>
 simp only [spec_l12Fits.f] at h
 have hu34 := Tryd.underlying34
 have HR0_4 := zA hr0_4
 have HC0_4 := zA hc0_4
 clear hr0_4 hc0_4
 have HR0_5 := zA hr0_5
 have HC0_5 := zA hc0_5
 clear hr0_5 hc0_5
 have HB := zA (yH w.heap.size w)
 have H : (if a0_0 = 6 then (spec_l12Fits.l0 k 0 a0_0 a0_1 a0_2 a0_3 l0_4 l0_5) else (some false)) = some r := h
 clear h
 by_cases c2 : a0_0 = 6
 ·rw [if_pos c2] at H
  have c2b0 : (a0_0 == 6) = true := beq_iff_eq.mpr c2
  have c2b1 : (a0_0 != 6) = false := bne_eq_false_iff_eq.mpr c2
  clear c2
  have H' := zA H
  clear H
  go_enter Tryd.func12, Tryd.ntmps12
  go_wp2_with (first | ((with_reducible refine zS (N := 1) rfl ?_); refine zW ?hg (N := 1) ?hd (cs := #[.int .i64 a0_0, .int .i64 a0_1, .int .i64 a0_2, .string a0_3, .slice A0_4 l0_4.length c0_4, .slice A0_5 l0_5.length c0_5]) (t := 34) ?hr ?_; (case hd => rfl); (case hg => rfl); (case hr => first | (go_simp; done) | (go_simp; rfl)); intro gb180 hg w3 hbox hb; have n0_ := zA (zP apA hb); have n1_ := zA (hbox); have n2_ := zA ((by rw [hg]; exact (zQ apA) : w.heap.size ≤ gb180)); have n3_ := zA ((by rw [hg]; exact (zQ apA) : w.heap.size ≤ gb180)); clear HB; have HB := n0_; have BK180 := n1_; have GW180 := n2_; have GE180 := n3_; clear n0_ n1_ n2_ n3_; clear hb hbox hg; obtain ⟨hcz4_0, hcz4_1, hcz4_2, hcz4_3, hcz4_4, hcz4_5, hfz4_0, hfz4_1, hfz4_2, hfz4_3, hfz4_4, hfz4_5⟩ := zb6 BK180.out))
  go_loopg [3] k (fun kq v3 w' => ∃ (x3_1 : Int), v3 = .int .i64 x3_1 ∧ Aside0 (spec_l12Fits.l0 kq x3_1 a0_0 a0_1 a0_2 a0_3 l0_4 l0_5 = some r) ∧ Aside0 (kq ≤ k) ∧ Aside0 (w'.heap[gb180]? = some (.cells #[.int .i64 a0_0, .int .i64 a0_1, .int .i64 a0_2, .string a0_3, (.slice A0_4 l0_4.length c0_4), (.slice A0_5 l0_5.length c0_5)] 34 (0, 0))) ∧ Aside0 (Below w.heap.size w w'))
  case atStart => exact ⟨(0), apC, H', ⟨yJ _⟩, ⟨by (with_reducible repeat (first | refine zB ?_ _ | refine zD ?_ | refine zC ?_ _)); exact BK180.out⟩, ⟨by repeat (first | (with_reducible first | exact HB.out | apply zG | apply zE | apply zF | refine zH ?_ GE180.out) | exact HB.out)⟩⟩
  case round =>
   clear H'
   try clear c1 c2 c2b0 c2b1 p2 hcz4_0 hcz4_1 hcz4_2 hcz4_3 hcz4_4 hcz4_5 hfz4_0 hfz4_1 hfz4_2 hfz4_3 hfz4_4 hfz4_5
   obtain ⟨x3_1, rfl, HA, HK1, BK180, HB⟩ := hrel
   cases gk with
   | zero => exact absurd HA.out (by simp [spec_l12Fits.l0])
   | succ k1 =>
    have H := HA.out
    clear HA
    simp only [spec_l12Fits.l0] at H
    by_cases c5 : x3_1 < (l0_4.length : Int)
    ·rw [if_pos c5] at H
     have c5b0 : decide (x3_1 < (l0_4.length : Int)) = true := yE c5
     clear c5
     by_cases c6 : 0 ≤ x3_1
     ·rw [if_pos c6] at H
      have c6b0 : decide (0 ≤ x3_1) = true := yE c6
      clear c6
      replace H := Option.bind_eq_some_iff.mp H
      obtain ⟨t182, A70, H⟩ := H
      have A7 := zA A70
      clear A70
      by_cases c8 : t182 = true
      ·subst c8
       have H1 := H; rw [if_pos rfl] at H1
       clear H
       have H := H1
       clear H1
       have H' := zA H
       clear H
       obtain ⟨hcz9_0, hcz9_1, hcz9_2, hcz9_3, hcz9_4, hcz9_5, hfz9_0, hfz9_1, hfz9_2, hfz9_3, hfz9_4, hfz9_5⟩ := zb6 BK180.out
       have p181 : 0 ≤ (x3_1 : Int) := yF apB
       have q181 : x3_1 < (l0_4.length : Int) := yF apB
       obtain ⟨ad181, A181_4, c181_4, A181_5, c181_5, e181, hx181_0, hx181_1, hx181_2, hx181_3, hx181_4, hx181_5, hl181_4, hi181_4, hl181_5, hi181_5⟩ := at_T34 HR0_4.out x3_1 p181 q181
       cases e181
       replace hx181_0 := (HB.out.cell (zR w _ hx181_0)).trans hx181_0
       replace hx181_1 := (HB.out.cell (zR w _ hx181_1)).trans hx181_1
       replace hx181_2 := (HB.out.cell (zR w _ hx181_2)).trans hx181_2
       replace hx181_3 := (HB.out.cell (zR w _ hx181_3)).trans hx181_3
       replace hx181_4 := (HB.out.cell (zR w _ hx181_4)).trans hx181_4
       replace hx181_5 := (HB.out.cell (zR w _ hx181_5)).trans hx181_5
       have HR181_4 := zA hi181_4
       have HC181_4 := zA hl181_4
       clear hi181_4 hl181_4
       have HR181_5 := zA hi181_5
       have HC181_5 := zA hl181_5
       clear hi181_5 hl181_5
       replace p181 := eq_true p181
       replace q181 := eq_true q181
       go_wp2_with (first | ((with_reducible refine zT (f := 26) rfl ?_); refine goesL_ (some 19) rfl rfl Tryd.func26 (by kernel_rfl) rfl #[.agg #[.int .i64 ((rd_T34 l0_4 x3_1).f0), .int .i64 ((rd_T34 l0_4 x3_1).f1.f0), .int .i64 ((rd_T34 l0_4 x3_1).f1.f1), .string ((rd_T34 l0_4 x3_1).f2), .slice A181_4 ((rd_T34 l0_4 x3_1).f3).length c181_4, .slice A181_5 ((rd_T34 l0_4 x3_1).f4).length c181_5]] rfl apE ?_; (with_reducible refine (spec_l12Flat.calls k1 ((rd_T34 l0_4 x3_1).f0) ((rd_T34 l0_4 x3_1).f1.f0) ((rd_T34 l0_4 x3_1).f1.f1) ((rd_T34 l0_4 x3_1).f2) _ _ ((rd_T34 l0_4 x3_1).f3) _ _ ((rd_T34 l0_4 x3_1).f4) true _ ?side1 ?side2 ?side3 ?side4 A7.out).mono ?_); (case side1 => repeat (first | exact (Kd.C_below HR181_4.out HB.out) | (with_reducible refine Kd.C_alloc ?_ _) | (with_reducible refine Kd.C_drewN ?_ _) | (with_reducible refine Kd.C_drew ?_))); (case side2 => exact HC181_4.out); (case side3 => repeat (first | exact (Kd.C_below HR181_5.out HB.out) | (with_reducible refine Kd.C_alloc ?_ _) | (with_reducible refine Kd.C_drewN ?_ _) | (with_reducible refine Kd.C_drew ?_))); (case side4 => exact HC181_5.out); rintro e w10 ⟨rfl, hb⟩; refine ⟨_, rfl, ?_⟩; have n0_ := zA (zN (g := gb180) (o := .cells #[.int .i64 a0_0, .int .i64 a0_1, .int .i64 a0_2, .string a0_3, .slice (some ad181) l0_4.length c0_4, .slice A0_5 l0_5.length c0_5] 34 (0, 0)) (by (with_reducible repeat (first | refine zB ?_ _ | refine zD ?_ | refine zC ?_ _)); exact BK180.out) hb); have n1_ := zA (zP (by repeat (first | (with_reducible first | exact HB.out | apply zG | apply zE | apply zF | refine zH ?_ GE180.out) | exact HB.out)) hb); clear BK180; clear HB; have BK180 := n0_; have HB := n1_; clear n0_ n1_; (try clear hb); (try clear hb2); (try clear hk); (try clear hi)))
       go_roundg k1
       case measure => have := HK1.out; omega
       case rel => exact ⟨(wrap64 (x3_1 + 1)), apC, H', ⟨by have := HK1.out; omega⟩, ⟨by (with_reducible repeat (first | refine zB ?_ _ | refine zD ?_ | refine zC ?_ _)); exact BK180.out⟩, ⟨by repeat (first | (with_reducible first | exact HB.out | apply zG | apply zE | apply zF | refine zH ?_ GE180.out) | exact HB.out)⟩⟩
      ·replace c8 := Bool.eq_false_iff.mpr c8
       subst c8
       have H1 := H; rw [if_neg (show ¬ (false = true) by decide)] at H1
       clear H
       have H := H1
       clear H1
       replace H := Option.bind_eq_some_iff.mp H
       obtain ⟨t184, A110, H⟩ := H
       have A11 := zA A110
       clear A110
       by_cases c12 : t184 = true
       ·subst c12
        have H1 := H; rw [if_pos rfl] at H1
        clear H
        have H := H1
        clear H1
        have H' := zA H
        clear H
        obtain ⟨hcz13_0, hcz13_1, hcz13_2, hcz13_3, hcz13_4, hcz13_5, hfz13_0, hfz13_1, hfz13_2, hfz13_3, hfz13_4, hfz13_5⟩ := zb6 BK180.out
        have p181 : 0 ≤ (x3_1 : Int) := yF apB
        have q181 : x3_1 < (l0_4.length : Int) := yF apB
        obtain ⟨ad181, A181_4, c181_4, A181_5, c181_5, e181, hx181_0, hx181_1, hx181_2, hx181_3, hx181_4, hx181_5, hl181_4, hi181_4, hl181_5, hi181_5⟩ := at_T34 HR0_4.out x3_1 p181 q181
        cases e181
        replace hx181_0 := (HB.out.cell (zR w _ hx181_0)).trans hx181_0
        replace hx181_1 := (HB.out.cell (zR w _ hx181_1)).trans hx181_1
        replace hx181_2 := (HB.out.cell (zR w _ hx181_2)).trans hx181_2
        replace hx181_3 := (HB.out.cell (zR w _ hx181_3)).trans hx181_3
        replace hx181_4 := (HB.out.cell (zR w _ hx181_4)).trans hx181_4
        replace hx181_5 := (HB.out.cell (zR w _ hx181_5)).trans hx181_5
        have HR181_4 := zA hi181_4
        have HC181_4 := zA hl181_4
        clear hi181_4 hl181_4
        have HR181_5 := zA hi181_5
        have HC181_5 := zA hl181_5
        clear hi181_5 hl181_5
        replace p181 := eq_true p181
        replace q181 := eq_true q181
        go_wp2_with (first | ((with_reducible refine zT (f := 26) rfl ?_); refine goesL_ (some 19) rfl rfl Tryd.func26 (by kernel_rfl) rfl #[.agg #[.int .i64 ((rd_T34 l0_4 x3_1).f0), .int .i64 ((rd_T34 l0_4 x3_1).f1.f0), .int .i64 ((rd_T34 l0_4 x3_1).f1.f1), .string ((rd_T34 l0_4 x3_1).f2), .slice A181_4 ((rd_T34 l0_4 x3_1).f3).length c181_4, .slice A181_5 ((rd_T34 l0_4 x3_1).f4).length c181_5]] rfl apE ?_; (with_reducible refine (spec_l12Flat.calls k1 ((rd_T34 l0_4 x3_1).f0) ((rd_T34 l0_4 x3_1).f1.f0) ((rd_T34 l0_4 x3_1).f1.f1) ((rd_T34 l0_4 x3_1).f2) _ _ ((rd_T34 l0_4 x3_1).f3) _ _ ((rd_T34 l0_4 x3_1).f4) false _ ?side1 ?side2 ?side3 ?side4 A7.out).mono ?_); (case side1 => repeat (first | exact (Kd.C_below HR181_4.out HB.out) | (with_reducible refine Kd.C_alloc ?_ _) | (with_reducible refine Kd.C_drewN ?_ _) | (with_reducible refine Kd.C_drew ?_))); (case side2 => exact HC181_4.out); (case side3 => repeat (first | exact (Kd.C_below HR181_5.out HB.out) | (with_reducible refine Kd.C_alloc ?_ _) | (with_reducible refine Kd.C_drewN ?_ _) | (with_reducible refine Kd.C_drew ?_))); (case side4 => exact HC181_5.out); rintro e w14 ⟨rfl, hb⟩; refine ⟨_, rfl, ?_⟩; have n0_ := zA (zN (g := gb180) (o := .cells #[.int .i64 a0_0, .int .i64 a0_1, .int .i64 a0_2, .string a0_3, .slice (some ad181) l0_4.length c0_4, .slice A0_5 l0_5.length c0_5] 34 (0, 0)) (by (with_reducible repeat (first | refine zB ?_ _ | refine zD ?_ | refine zC ?_ _)); exact BK180.out) hb); have n1_ := zA (zP (by repeat (first | (with_reducible first | exact HB.out | apply zG | apply zE | apply zF | refine zH ?_ GE180.out) | exact HB.out)) hb); clear BK180; clear HB; have BK180 := n0_; have HB := n1_; clear n0_ n1_; (try clear hb); (try clear hb2); (try clear hk); (try clear hi); obtain ⟨hcz15_0, hcz15_1, hcz15_2, hcz15_3, hcz15_4, hcz15_5, hfz15_0, hfz15_1, hfz15_2, hfz15_3, hfz15_4, hfz15_5⟩ := zb6 BK180.out; have p183 : 0 ≤ (x3_1 : Int) := yF apB; have q183 : x3_1 < (l0_4.length : Int) := yF apB; obtain ⟨ad183, A183_4, c183_4, A183_5, c183_5, e183, hx183_0, hx183_1, hx183_2, hx183_3, hx183_4, hx183_5, hl183_4, hi183_4, hl183_5, hi183_5⟩ := at_T34 HR0_4.out x3_1 p183 q183; obtain rfl : ad181 = ad183 := (by injection e183); replace hx183_0 := (HB.out.cell (zR w _ hx183_0)).trans hx183_0; replace hx183_1 := (HB.out.cell (zR w _ hx183_1)).trans hx183_1; replace hx183_2 := (HB.out.cell (zR w _ hx183_2)).trans hx183_2; replace hx183_3 := (HB.out.cell (zR w _ hx183_3)).trans hx183_3; replace hx183_4 := (HB.out.cell (zR w _ hx183_4)).trans hx183_4; replace hx183_5 := (HB.out.cell (zR w _ hx183_5)).trans hx183_5; have HR183_4 := zA hi183_4; have HC183_4 := zA hl183_4; clear hi183_4 hl183_4; have HR183_5 := zA hi183_5; have HC183_5 := zA hl183_5; clear hi183_5 hl183_5; replace p183 := eq_true p183; replace q183 := eq_true q183) | (go_at_call 12; (with_reducible refine (ih k1 (by have := HK1.out; omega) ((rd_T34 l0_4 x3_1).f0) ((rd_T34 l0_4 x3_1).f1.f0) ((rd_T34 l0_4 x3_1).f1.f1) ((rd_T34 l0_4 x3_1).f2) _ _ ((rd_T34 l0_4 x3_1).f3) _ _ ((rd_T34 l0_4 x3_1).f4) true _ ?side1 ?side2 ?side3 ?side4 A11.out).mono ?_); (case side1 => repeat (first | exact (Kd.C_below HR183_4.out HB.out) | (with_reducible refine Kd.C_alloc ?_ _) | (with_reducible refine Kd.C_drewN ?_ _) | (with_reducible refine Kd.C_drew ?_))); (case side2 => exact HC183_4.out); (case side3 => repeat (first | exact (Kd.C_below HR183_5.out HB.out) | (with_reducible refine Kd.C_alloc ?_ _) | (with_reducible refine Kd.C_drewN ?_ _) | (with_reducible refine Kd.C_drew ?_))); (case side4 => exact HC183_5.out); rintro e w16 ⟨rfl, hb⟩; have n0_ := zA (zN (g := gb180) (o := .cells #[.int .i64 a0_0, .int .i64 a0_1, .int .i64 a0_2, .string a0_3, .slice (some ad181) l0_4.length c0_4, .slice A0_5 l0_5.length c0_5] 34 (0, 0)) (by (with_reducible repeat (first | refine zB ?_ _ | refine zD ?_ | refine zC ?_ _)); exact BK180.out) hb); have n1_ := zA (zP (by repeat (first | (with_reducible first | exact HB.out | apply zG | apply zE | apply zF | refine zH ?_ GE180.out) | exact HB.out)) hb); clear BK180; clear HB; have BK180 := n0_; have HB := n1_; clear n0_ n1_; (try clear hb); (try clear hb2); (try clear hk); (try clear hi)))
        go_roundg k1
        case measure => have := HK1.out; omega
        case rel => exact ⟨(wrap64 (x3_1 + 1)), apC, H', ⟨by have := HK1.out; omega⟩, ⟨by (with_reducible repeat (first | refine zB ?_ _ | refine zD ?_ | refine zC ?_ _)); exact BK180.out⟩, ⟨by repeat (first | (with_reducible first | exact HB.out | apply zG | apply zE | apply zF | refine zH ?_ GE180.out) | exact HB.out)⟩⟩
       ·replace c12 := Bool.eq_false_iff.mpr c12
        subst c12
        have H1 := H; rw [if_neg (show ¬ (false = true) by decide)] at H1
        clear H
        have H := H1
        clear H1
        obtain rfl := yG H
        obtain ⟨hcz17_0, hcz17_1, hcz17_2, hcz17_3, hcz17_4, hcz17_5, hfz17_0, hfz17_1, hfz17_2, hfz17_3, hfz17_4, hfz17_5⟩ := zb6 BK180.out
        have p181 : 0 ≤ (x3_1 : Int) := yF apB
        have q181 : x3_1 < (l0_4.length : Int) := yF apB
        obtain ⟨ad181, A181_4, c181_4, A181_5, c181_5, e181, hx181_0, hx181_1, hx181_2, hx181_3, hx181_4, hx181_5, hl181_4, hi181_4, hl181_5, hi181_5⟩ := at_T34 HR0_4.out x3_1 p181 q181
        cases e181
        replace hx181_0 := (HB.out.cell (zR w _ hx181_0)).trans hx181_0
        replace hx181_1 := (HB.out.cell (zR w _ hx181_1)).trans hx181_1
        replace hx181_2 := (HB.out.cell (zR w _ hx181_2)).trans hx181_2
        replace hx181_3 := (HB.out.cell (zR w _ hx181_3)).trans hx181_3
        replace hx181_4 := (HB.out.cell (zR w _ hx181_4)).trans hx181_4
        replace hx181_5 := (HB.out.cell (zR w _ hx181_5)).trans hx181_5
        have HR181_4 := zA hi181_4
        have HC181_4 := zA hl181_4
        clear hi181_4 hl181_4
        have HR181_5 := zA hi181_5
        have HC181_5 := zA hl181_5
        clear hi181_5 hl181_5
        replace p181 := eq_true p181
        replace q181 := eq_true q181
        go_wp2_with (first | ((with_reducible refine zT (f := 26) rfl ?_); refine goesL_ (some 19) rfl rfl Tryd.func26 (by kernel_rfl) rfl #[.agg #[.int .i64 ((rd_T34 l0_4 x3_1).f0), .int .i64 ((rd_T34 l0_4 x3_1).f1.f0), .int .i64 ((rd_T34 l0_4 x3_1).f1.f1), .string ((rd_T34 l0_4 x3_1).f2), .slice A181_4 ((rd_T34 l0_4 x3_1).f3).length c181_4, .slice A181_5 ((rd_T34 l0_4 x3_1).f4).length c181_5]] rfl apE ?_; (with_reducible refine (spec_l12Flat.calls k1 ((rd_T34 l0_4 x3_1).f0) ((rd_T34 l0_4 x3_1).f1.f0) ((rd_T34 l0_4 x3_1).f1.f1) ((rd_T34 l0_4 x3_1).f2) _ _ ((rd_T34 l0_4 x3_1).f3) _ _ ((rd_T34 l0_4 x3_1).f4) false _ ?side1 ?side2 ?side3 ?side4 A7.out).mono ?_); (case side1 => repeat (first | exact (Kd.C_below HR181_4.out HB.out) | (with_reducible refine Kd.C_alloc ?_ _) | (with_reducible refine Kd.C_drewN ?_ _) | (with_reducible refine Kd.C_drew ?_))); (case side2 => exact HC181_4.out); (case side3 => repeat (first | exact (Kd.C_below HR181_5.out HB.out) | (with_reducible refine Kd.C_alloc ?_ _) | (with_reducible refine Kd.C_drewN ?_ _) | (with_reducible refine Kd.C_drew ?_))); (case side4 => exact HC181_5.out); rintro e w18 ⟨rfl, hb⟩; refine ⟨_, rfl, ?_⟩; have n0_ := zA (zN (g := gb180) (o := .cells #[.int .i64 a0_0, .int .i64 a0_1, .int .i64 a0_2, .string a0_3, .slice (some ad181) l0_4.length c0_4, .slice A0_5 l0_5.length c0_5] 34 (0, 0)) (by (with_reducible repeat (first | refine zB ?_ _ | refine zD ?_ | refine zC ?_ _)); exact BK180.out) hb); have n1_ := zA (zP (by repeat (first | (with_reducible first | exact HB.out | apply zG | apply zE | apply zF | refine zH ?_ GE180.out) | exact HB.out)) hb); clear BK180; clear HB; have BK180 := n0_; have HB := n1_; clear n0_ n1_; (try clear hb); (try clear hb2); (try clear hk); (try clear hi); obtain ⟨hcz19_0, hcz19_1, hcz19_2, hcz19_3, hcz19_4, hcz19_5, hfz19_0, hfz19_1, hfz19_2, hfz19_3, hfz19_4, hfz19_5⟩ := zb6 BK180.out; have p183 : 0 ≤ (x3_1 : Int) := yF apB; have q183 : x3_1 < (l0_4.length : Int) := yF apB; obtain ⟨ad183, A183_4, c183_4, A183_5, c183_5, e183, hx183_0, hx183_1, hx183_2, hx183_3, hx183_4, hx183_5, hl183_4, hi183_4, hl183_5, hi183_5⟩ := at_T34 HR0_4.out x3_1 p183 q183; obtain rfl : ad181 = ad183 := (by injection e183); replace hx183_0 := (HB.out.cell (zR w _ hx183_0)).trans hx183_0; replace hx183_1 := (HB.out.cell (zR w _ hx183_1)).trans hx183_1; replace hx183_2 := (HB.out.cell (zR w _ hx183_2)).trans hx183_2; replace hx183_3 := (HB.out.cell (zR w _ hx183_3)).trans hx183_3; replace hx183_4 := (HB.out.cell (zR w _ hx183_4)).trans hx183_4; replace hx183_5 := (HB.out.cell (zR w _ hx183_5)).trans hx183_5; have HR183_4 := zA hi183_4; have HC183_4 := zA hl183_4; clear hi183_4 hl183_4; have HR183_5 := zA hi183_5; have HC183_5 := zA hl183_5; clear hi183_5 hl183_5; replace p183 := eq_true p183; replace q183 := eq_true q183) | (go_at_call 12; (with_reducible refine (ih k1 (by have := HK1.out; omega) ((rd_T34 l0_4 x3_1).f0) ((rd_T34 l0_4 x3_1).f1.f0) ((rd_T34 l0_4 x3_1).f1.f1) ((rd_T34 l0_4 x3_1).f2) _ _ ((rd_T34 l0_4 x3_1).f3) _ _ ((rd_T34 l0_4 x3_1).f4) false _ ?side1 ?side2 ?side3 ?side4 A11.out).mono ?_); (case side1 => repeat (first | exact (Kd.C_below HR183_4.out HB.out) | (with_reducible refine Kd.C_alloc ?_ _) | (with_reducible refine Kd.C_drewN ?_ _) | (with_reducible refine Kd.C_drew ?_))); (case side2 => exact HC183_4.out); (case side3 => repeat (first | exact (Kd.C_below HR183_5.out HB.out) | (with_reducible refine Kd.C_alloc ?_ _) | (with_reducible refine Kd.C_drewN ?_ _) | (with_reducible refine Kd.C_drew ?_))); (case side4 => exact HC183_5.out); rintro e w20 ⟨rfl, hb⟩; have n0_ := zA (zP apA hb); clear HB; have HB := n0_; clear n0_; (try clear hb); (try clear hb2); (try clear hk); (try clear hi)))
        go_ret
        exact ⟨apD, apA⟩
     ·rw [if_neg c6] at H
      exact absurd H (by simp)
    ·rw [if_neg c5] at H
     have c5b0 : decide (x3_1 < (l0_4.length : Int)) = false := decide_eq_false c5
     clear c5
     obtain rfl := yG H
     obtain ⟨hcz21_0, hcz21_1, hcz21_2, hcz21_3, hcz21_4, hcz21_5, hfz21_0, hfz21_1, hfz21_2, hfz21_3, hfz21_4, hfz21_5⟩ := zb6 BK180.out
     go_wp2
     go_ret
     exact ⟨apD, by repeat (first | (with_reducible first | exact HB.out | apply zG | apply zE | apply zF | refine zH ?_ GE180.out) | exact HB.out)⟩
 ·rw [if_neg c2] at H
  have c2b0 : (a0_0 == 6) = false := beq_eq_false_iff_ne.mpr c2
  have c2b1 : (a0_0 != 6) = true := bne_iff_ne.mpr c2
  obtain rfl := yG H
  go_enter Tryd.func12, Tryd.ntmps12
  go_wp2_with (first | ((with_reducible refine zS (N := 1) rfl ?_); refine zW ?hg (N := 1) ?hd (cs := #[.int .i64 a0_0, .int .i64 a0_1, .int .i64 a0_2, .string a0_3, .slice A0_4 l0_4.length c0_4, .slice A0_5 l0_5.length c0_5]) (t := 34) ?hr ?_; (case hd => rfl); (case hg => rfl); (case hr => first | (go_simp; done) | (go_simp; rfl)); intro gb180 hg w22 hbox hb; have n0_ := zA (zP apA hb); have n1_ := zA (hbox); have n2_ := zA ((by rw [hg]; exact (zQ apA) : w.heap.size ≤ gb180)); have n3_ := zA ((by rw [hg]; exact (zQ apA) : w.heap.size ≤ gb180)); clear HB; have HB := n0_; have BK180 := n1_; have GW180 := n2_; have GE180 := n3_; clear n0_ n1_ n2_ n3_; clear hb hbox hg; obtain ⟨hcz23_0, hcz23_1, hcz23_2, hcz23_3, hcz23_4, hcz23_5, hfz23_0, hfz23_1, hfz23_2, hfz23_3, hfz23_4, hfz23_5⟩ := zb6 BK180.out))
  go_ret
  exact ⟨apD, by repeat (first | (with_reducible first | exact HB.out | apply zG | apply zE | apply zF | refine zH ?_ GE180.out) | exact HB.out)⟩


mutual
def spec_l12Toml.l0 : Nat → ByteArray → ByteArray → Int → Int → Int → Int → ByteArray → List (S34) → List ByteArray → Option (ByteArray)
 | 0, _, _, _, _, _, _, _, _, _ => none
 | k + 1, x1, x5, x6, x224000, x224001, x224002, x224003, x224004, x224005 => if x6 < (x224004.length : Int) then (if 0 ≤ x6 then (if ((rd_T34 x224004 x6).f0) = 6 then (spec_l12Toml.l0 k x1 x5 (wrap64 (x6 + 1)) x224000 x224001 x224002 x224003 x224004 x224005) else (if x6 < (x224005.length : Int) then (if x5.size + (rdOf ByteArray.empty x224005 x6).size ≤ 9223372036854775807 then (if (x5 ++ (rdOf ByteArray.empty x224005 x6)).size + 3 ≤ 9223372036854775807 then ((spec_l7Put.f k ((rd_T34 x224004 x6).f0) ((rd_T34 x224004 x6).f1.f0) ((rd_T34 x224004 x6).f1.f1) ((rd_T34 x224004 x6).f2) ((rd_T34 x224004 x6).f3) ((rd_T34 x224004 x6).f4)).bind fun t227 => (if ((x5 ++ (rdOf ByteArray.empty x224005 x6)) ++ (⟨#[32, 61, 32]⟩ : ByteArray)).size + t227.size ≤ 9223372036854775807 then (if (((x5 ++ (rdOf ByteArray.empty x224005 x6)) ++ (⟨#[32, 61, 32]⟩ : ByteArray)) ++ t227).size + 1 ≤ 9223372036854775807 then (spec_l12Toml.l0 k x1 ((((x5 ++ (rdOf ByteArray.empty x224005 x6)) ++ (⟨#[32, 61, 32]⟩ : ByteArray)) ++ t227) ++ (⟨#[10]⟩ : ByteArray)) (wrap64 (x6 + 1)) x224000 x224001 x224002 x224003 x224004 x224005) else (none)) else (none))) else (none)) else (none)) else (none))) else (none)) else (spec_l12Toml.l1 k x1 x5 0 x224000 x224001 x224002 x224003 x224004 x224005)
def spec_l12Toml.l1 : Nat → ByteArray → ByteArray → Int → Int → Int → Int → ByteArray → List (S34) → List ByteArray → Option (ByteArray)
 | 0, _, _, _, _, _, _, _, _, _ => none
 | k + 1, x1, x5, x7, x224000, x224001, x224002, x224003, x224004, x224005 => if x7 < (x224004.length : Int) then (if 0 ≤ x7 then (if ((rd_T34 x224004 x7).f0) = 6 then (if x7 < (x224005.length : Int) then (if x1.size + (rdOf ByteArray.empty x224005 x7).size ≤ 9223372036854775807 then (if x5.size + 1 ≤ 9223372036854775807 then (if (x5 ++ (⟨#[91]⟩ : ByteArray)).size + (x1 ++ (rdOf ByteArray.empty x224005 x7)).size ≤ 9223372036854775807 then (if ((x5 ++ (⟨#[91]⟩ : ByteArray)) ++ (x1 ++ (rdOf ByteArray.empty x224005 x7))).size + 2 ≤ 9223372036854775807 then (if (x1 ++ (rdOf ByteArray.empty x224005 x7)).size + 1 ≤ 9223372036854775807 then ((spec_l12Toml.f k ((rd_T34 x224004 x7).f0) ((rd_T34 x224004 x7).f1.f0) ((rd_T34 x224004 x7).f1.f1) ((rd_T34 x224004 x7).f2) ((rd_T34 x224004 x7).f3) ((rd_T34 x224004 x7).f4) ((x1 ++ (rdOf ByteArray.empty x224005 x7)) ++ (⟨#[46]⟩ : ByteArray))).bind fun t231 => (if (((x5 ++ (⟨#[91]⟩ : ByteArray)) ++ (x1 ++ (rdOf ByteArray.empty x224005 x7))) ++ (⟨#[93, 10]⟩ : ByteArray)).size + t231.size ≤ 9223372036854775807 then (spec_l12Toml.l1 k x1 ((((x5 ++ (⟨#[91]⟩ : ByteArray)) ++ (x1 ++ (rdOf ByteArray.empty x224005 x7))) ++ (⟨#[93, 10]⟩ : ByteArray)) ++ t231) (wrap64 (x7 + 1)) x224000 x224001 x224002 x224003 x224004 x224005) else (none))) else (none)) else (none)) else (none)) else (none)) else (none)) else (none)) else (spec_l12Toml.l1 k x1 x5 (wrap64 (x7 + 1)) x224000 x224001 x224002 x224003 x224004 x224005)) else (none)) else (some x5)
def spec_l12Toml.f : Nat → Int → Int → Int → ByteArray → List (S34) → List ByteArray → ByteArray → Option (ByteArray)
 | 0, _, _, _, _, _, _, _ => none
 | k + 1, a0_0, a0_1, a0_2, a0_3, l0_4, l0_5, a1 => spec_l12Toml.l0 k a1 (⟨#[]⟩ : ByteArray) 0 a0_0 a0_1 a0_2 a0_3 l0_4 l0_5
end
theorem spec_l12Toml.mono_l : ∀ k, (∀ y0 y1 y2 y3 y4 y5 y6, LeO (spec_l12Toml.f k y0 y1 y2 y3 y4 y5 y6) (spec_l12Toml.f (k + 1) y0 y1 y2 y3 y4 y5 y6)) ∧ (∀ y0 y1 y2 y3 y4 y5 y6 y7 y8, LeO (spec_l12Toml.l0 k y0 y1 y2 y3 y4 y5 y6 y7 y8) (spec_l12Toml.l0 (k + 1) y0 y1 y2 y3 y4 y5 y6 y7 y8)) ∧ (∀ y0 y1 y2 y3 y4 y5 y6 y7 y8, LeO (spec_l12Toml.l1 k y0 y1 y2 y3 y4 y5 y6 y7 y8) (spec_l12Toml.l1 (k + 1) y0 y1 y2 y3 y4 y5 y6 y7 y8))
 | 0 => ⟨fun _ _ _ _ _ _ _ r h => by simp [spec_l12Toml.f] at h, fun _ _ _ _ _ _ _ _ _ r h => by simp [spec_l12Toml.l0] at h, fun _ _ _ _ _ _ _ _ _ r h => by simp [spec_l12Toml.l1] at h⟩
 | k + 1 => by
  obtain ⟨ih0, ih1, ih2⟩ := spec_l12Toml.mono_l k
  refine ⟨?_, ?_, ?_⟩
  ·intro y0 y1 y2 y3 y4 y5 y6
   unfold spec_l12Toml.f
   repeat' first
   | (with_reducible exact ih0 _ _ _ _ _ _ _)
   | (with_reducible exact ih1 _ _ _ _ _ _ _ _ _)
   | (with_reducible exact ih2 _ _ _ _ _ _ _ _ _)
   | (with_reducible exact spec_l7Put.mono _ _ _ _ _ _ _)
   | (with_reducible exact LeO.refl _)
   | (with_reducible exact LeO.none _)
   | (with_reducible refine LeO.ite ?_ ?_)
   | (with_reducible refine LeO.bind ?_ (fun _ => ?_))
   | exact ih0 _ _ _ _ _ _ _
   | exact ih1 _ _ _ _ _ _ _ _ _
   | exact ih2 _ _ _ _ _ _ _ _ _
  ·intro y0 y1 y2 y3 y4 y5 y6 y7 y8
   unfold spec_l12Toml.l0
   repeat' first
   | (with_reducible exact ih0 _ _ _ _ _ _ _)
   | (with_reducible exact ih1 _ _ _ _ _ _ _ _ _)
   | (with_reducible exact ih2 _ _ _ _ _ _ _ _ _)
   | (with_reducible exact spec_l7Put.mono _ _ _ _ _ _ _)
   | (with_reducible exact LeO.refl _)
   | (with_reducible exact LeO.none _)
   | (with_reducible refine LeO.ite ?_ ?_)
   | (with_reducible refine LeO.bind ?_ (fun _ => ?_))
   | exact ih0 _ _ _ _ _ _ _
   | exact ih1 _ _ _ _ _ _ _ _ _
   | exact ih2 _ _ _ _ _ _ _ _ _
  ·intro y0 y1 y2 y3 y4 y5 y6 y7 y8
   unfold spec_l12Toml.l1
   repeat' first
   | (with_reducible exact ih0 _ _ _ _ _ _ _)
   | (with_reducible exact ih1 _ _ _ _ _ _ _ _ _)
   | (with_reducible exact ih2 _ _ _ _ _ _ _ _ _)
   | (with_reducible exact spec_l7Put.mono _ _ _ _ _ _ _)
   | (with_reducible exact LeO.refl _)
   | (with_reducible exact LeO.none _)
   | (with_reducible refine LeO.ite ?_ ?_)
   | (with_reducible refine LeO.bind ?_ (fun _ => ?_))
   | exact ih0 _ _ _ _ _ _ _
   | exact ih1 _ _ _ _ _ _ _ _ _
   | exact ih2 _ _ _ _ _ _ _ _ _
theorem spec_l12Toml.mono : ∀ a0 a1 a2 a3 a4 a5 a6 k, LeO (spec_l12Toml.f k a0 a1 a2 a3 a4 a5 a6) (spec_l12Toml.f (k + 1) a0 a1 a2 a3 a4 a5 a6) := by
 intro a0 a1 a2 a3 a4 a5 a6 k
 obtain ⟨ih0, ih1, ih2⟩ := spec_l12Toml.mono_l k
 exact ih0 a0 a1 a2 a3 a4 a5 a6
def spec_l12Toml.T6 : Bool × List (List Nat × List Nat) := (true, [([], []), ([], []), ([1], [1]), ([], []), ([2, 3], [2, 3]), ([4], [4]), ([0, 5], [0, 5]), ([6], [6]), ([], []), ([8], [8]), ([], []), ([9, 10], [9, 10]), ([11], [11]), ([12], [12]), ([7, 13], [7, 13]), ([14], [14]), ([15, 13, 0, 1, 2, 3, 4, 5, 6, 7, 8, 9, 10, 11, 12, 13, 14, 15], [0, 15])])
def spec_l12Toml.B6 : List Nat := [0, 0, 2, 0, 14, 30, 63, 127, 0, 256, 0, 1792, 3840, 7936, 16383, 32767, 65535]
theorem spec_l12Toml.tab6 : rtab .any (opsOf Tryd.f13 6) = spec_l12Toml.T6 := by kernel_rfl
theorem spec_l12Toml.bits6 : waitsOk spec_l12Toml.T6.2 spec_l12Toml.B6 = true := by kernel_rfl
set_option maxHeartbeats 8000000 in
set_option maxRecDepth 100000 in
theorem spec_l12Toml.calls (k : Nat) : ∀ (a0_0 : Int) (a0_1 : Int) (a0_2 : Int) (a0_3 : ByteArray) (A0_4 : Option Addr) (c0_4 : Nat) (l0_4 : List (S34)) (A0_5 : Option Addr) (c0_5 : Nat) (l0_5 : List ByteArray) (a1 : ByteArray) (r : ByteArray) (w : World) (hr0_4 : Kd.C k34 w A0_4 l0_4.length l0_4) (hc0_4 : l0_4.length ≤ c0_4) (hr0_5 : Kd.C Kd.string w A0_5 l0_5.length l0_5) (hc0_5 : l0_5.length ≤ c0_5) (h : spec_l12Toml.f k a0_0 a0_1 a0_2 a0_3 l0_4 l0_5 a1 = some r),
  Calls Tryd.prog 13 #[.agg #[.int .i64 a0_0, .int .i64 a0_1, .int .i64 a0_2, .string a0_3, .slice A0_4 l0_4.length c0_4, .slice A0_5 l0_5.length c0_5], .string a1] w fun e w' => e = .returned (.string r) ∧ Below w.heap.size w w' := by
 induction k using Nat.strongRecOn with
 | _ k ih =>
 intro a0_0 a0_1 a0_2 a0_3 A0_4 c0_4 l0_4 A0_5 c0_5 l0_5 a1 r w hr0_4 hc0_4 hr0_5 hc0_5 h
 cases k with
 | zero => exact absurd h (by simp [spec_l12Toml.f])
 | succ k =>
 simp only [spec_l12Toml.f] at h
 have hu34 := Tryd.underlying34
 have HR0_4 := zA hr0_4
 have HC0_4 := zA hc0_4
 clear hr0_4 hc0_4
 have HR0_5 := zA hr0_5
 have HC0_5 := zA hc0_5
 clear hr0_5 hc0_5
 have HB := zA (yH w.heap.size w)
 have H : (spec_l12Toml.l0 k a1 (⟨#[]⟩ : ByteArray) 0 a0_0 a0_1 a0_2 a0_3 l0_4 l0_5) = some r := h
 clear h
 have H' := zA H
 clear H
 go_enter Tryd.func13, Tryd.ntmps13
 go_wp2_with (first | ((with_reducible refine zS (N := 2) rfl ?_); refine zW ?hg (N := 2) ?hd (cs := #[.int .i64 a0_0, .int .i64 a0_1, .int .i64 a0_2, .string a0_3, .slice A0_4 l0_4.length c0_4, .slice A0_5 l0_5.length c0_5]) (t := 34) ?hr ?_; (case hd => rfl); (case hg => rfl); (case hr => first | (go_simp; done) | (go_simp; rfl)); intro gb223 hg w3 hbox hb; have n0_ := zA (zP apA hb); have n1_ := zA (hbox); have n2_ := zA ((by rw [hg]; exact (zQ apA) : w.heap.size ≤ gb223)); have n3_ := zA ((by rw [hg]; exact (zQ apA) : w.heap.size ≤ gb223)); clear HB; have HB := n0_; have BK223 := n1_; have GW223 := n2_; have GE223 := n3_; clear n0_ n1_ n2_ n3_; clear hb hbox hg))
 go_loopg [5, 6] k (fun kq v5 v6 w' => ∃ (x5_1 : ByteArray) (x6_1 : Int), v5 = .string x5_1 ∧ v6 = .int .i64 x6_1 ∧ Aside0 (spec_l12Toml.l0 kq a1 x5_1 x6_1 a0_0 a0_1 a0_2 a0_3 l0_4 l0_5 = some r) ∧ Aside0 (kq ≤ k) ∧ Aside0 (w'.heap[gb223]? = some (.cells #[.int .i64 a0_0, .int .i64 a0_1, .int .i64 a0_2, .string a0_3, (.slice A0_4 l0_4.length c0_4), (.slice A0_5 l0_5.length c0_5)] 34 (0, 0))) ∧ Aside0 (Below w.heap.size w w'))
 case atStart => exact ⟨((⟨#[]⟩ : ByteArray)), (0), apC, apC, H', ⟨yJ _⟩, ⟨by (with_reducible repeat (first | refine zB ?_ _ | refine zD ?_ | refine zC ?_ _)); exact BK223.out⟩, ⟨by repeat (first | (with_reducible first | exact HB.out | apply zG | apply zE | apply zF | refine zH ?_ GE223.out) | exact HB.out)⟩⟩
 case round =>
  clear H'
  try clear c1 p2
  obtain ⟨x5_1, x6_1, rfl, rfl, HA, HK1, BK223, HB⟩ := hrel
  cases gk with
  | zero => exact absurd HA.out (by simp [spec_l12Toml.l0])
  | succ k1 =>
   have H := HA.out
   clear HA
   simp only [spec_l12Toml.l0] at H
   by_cases c4 : x6_1 < (l0_4.length : Int)
   ·rw [if_pos c4] at H
    have c4b0 : decide (x6_1 < (l0_4.length : Int)) = true := yE c4
    clear c4
    by_cases c5 : 0 ≤ x6_1
    ·rw [if_pos c5] at H
     have c5b0 : decide (0 ≤ x6_1) = true := yE c5
     clear c5
     by_cases c6 : ((rd_T34 l0_4 x6_1).f0) = 6
     ·rw [if_pos c6] at H
      have c6b0 : (((rd_T34 l0_4 x6_1).f0) == 6) = true := beq_iff_eq.mpr c6
      have c6b1 : (((rd_T34 l0_4 x6_1).f0) != 6) = false := bne_eq_false_iff_eq.mpr c6
      clear c6
      have H' := zA H
      clear H
      obtain ⟨hcz7_0, hcz7_1, hcz7_2, hcz7_3, hcz7_4, hcz7_5, hfz7_0, hfz7_1, hfz7_2, hfz7_3, hfz7_4, hfz7_5⟩ := zb6 BK223.out
      have p224 : 0 ≤ (x6_1 : Int) := yF apB
      have q224 : x6_1 < (l0_4.length : Int) := yF apB
      obtain ⟨ad224, A224_4, c224_4, A224_5, c224_5, e224, hx224_0, hx224_1, hx224_2, hx224_3, hx224_4, hx224_5, hl224_4, hi224_4, hl224_5, hi224_5⟩ := at_T34 HR0_4.out x6_1 p224 q224
      cases e224
      replace hx224_0 := (HB.out.cell (zR w _ hx224_0)).trans hx224_0
      replace hx224_1 := (HB.out.cell (zR w _ hx224_1)).trans hx224_1
      replace hx224_2 := (HB.out.cell (zR w _ hx224_2)).trans hx224_2
      replace hx224_3 := (HB.out.cell (zR w _ hx224_3)).trans hx224_3
      replace hx224_4 := (HB.out.cell (zR w _ hx224_4)).trans hx224_4
      replace hx224_5 := (HB.out.cell (zR w _ hx224_5)).trans hx224_5
      have HR224_4 := zA hi224_4
      have HC224_4 := zA hl224_4
      clear hi224_4 hl224_4
      have HR224_5 := zA hi224_5
      have HC224_5 := zA hl224_5
      clear hi224_5 hl224_5
      replace p224 := eq_true p224
      replace q224 := eq_true q224
      go_wp2
      go_roundg k1
      case measure => have := HK1.out; omega
      case rel => exact ⟨(x5_1), (wrap64 (x6_1 + 1)), apC, apC, H', ⟨by have := HK1.out; omega⟩, ⟨by (with_reducible repeat (first | refine zB ?_ _ | refine zD ?_ | refine zC ?_ _)); exact BK223.out⟩, ⟨by repeat (first | (with_reducible first | exact HB.out | apply zG | apply zE | apply zF | refine zH ?_ GE223.out) | exact HB.out)⟩⟩
     ·rw [if_neg c6] at H
      have c6b0 : (((rd_T34 l0_4 x6_1).f0) == 6) = false := beq_eq_false_iff_ne.mpr c6
      have c6b1 : (((rd_T34 l0_4 x6_1).f0) != 6) = true := bne_iff_ne.mpr c6
      by_cases c8 : x6_1 < (l0_5.length : Int)
      ·rw [if_pos c8] at H
       have c8b0 : decide (x6_1 < (l0_5.length : Int)) = true := yE c8
       clear c8
       by_cases c9 : x5_1.size + (rdOf ByteArray.empty l0_5 x6_1).size ≤ 9223372036854775807
       ·rw [if_pos c9] at H
        have c9b0 := eq_true c9
        have c9b1 : decide (x5_1.size + (rdOf ByteArray.empty l0_5 x6_1).size ≤ 9223372036854775807) = true := yE c9
        try have c9b2 : (9223372036854775807 < x5_1.size + (rdOf ByteArray.empty l0_5 x6_1).size) = False := eq_false (Nat.not_lt.2 c9)
        by_cases c10 : (x5_1 ++ (rdOf ByteArray.empty l0_5 x6_1)).size + 3 ≤ 9223372036854775807
        ·rw [if_pos c10] at H
         have c10b0 := eq_true c10
         have c10b1 : decide ((x5_1 ++ (rdOf ByteArray.empty l0_5 x6_1)).size + 3 ≤ 9223372036854775807) = true := yE c10
         try have c10b2 : (9223372036854775807 < (x5_1 ++ (rdOf ByteArray.empty l0_5 x6_1)).size + 3) = False := eq_false (Nat.not_lt.2 c10)
         try simp only [ByteArray.size_append] at c10b2
         replace H := Option.bind_eq_some_iff.mp H
         obtain ⟨t227, A110, H⟩ := H
         have A11 := zA A110
         clear A110
         by_cases c12 : ((x5_1 ++ (rdOf ByteArray.empty l0_5 x6_1)) ++ (⟨#[32, 61, 32]⟩ : ByteArray)).size + t227.size ≤ 9223372036854775807
         ·rw [if_pos c12] at H
          (try (have c12b9 := eq_true c12; simp only [ByteArray.size_append, Int.natCast_add, show ((⟨#[32, 61, 32]⟩ : ByteArray)).size = 3 from rfl] at c12b9))
          (try (have c12b8 := eq_false (Nat.not_lt.2 c12); simp only [ByteArray.size_append, show ((⟨#[32, 61, 32]⟩ : ByteArray)).size = 3 from rfl] at c12b8))
          have c12b0 := eq_true c12
          have c12b1 : decide (((x5_1 ++ (rdOf ByteArray.empty l0_5 x6_1)) ++ (⟨#[32, 61, 32]⟩ : ByteArray)).size + t227.size ≤ 9223372036854775807) = true := yE c12
          try have c12b2 : (9223372036854775807 < ((x5_1 ++ (rdOf ByteArray.empty l0_5 x6_1)) ++ (⟨#[32, 61, 32]⟩ : ByteArray)).size + t227.size) = False := eq_false (Nat.not_lt.2 c12)
          try simp only [ByteArray.size_append] at c12b2
          by_cases c13 : (((x5_1 ++ (rdOf ByteArray.empty l0_5 x6_1)) ++ (⟨#[32, 61, 32]⟩ : ByteArray)) ++ t227).size + 1 ≤ 9223372036854775807
          ·rw [if_pos c13] at H
           (try (have c13b9 := eq_true c13; simp only [ByteArray.size_append, Int.natCast_add, show ((⟨#[32, 61, 32]⟩ : ByteArray)).size = 3 from rfl] at c13b9))
           (try (have c13b8 := eq_false (Nat.not_lt.2 c13); simp only [ByteArray.size_append, show ((⟨#[32, 61, 32]⟩ : ByteArray)).size = 3 from rfl] at c13b8))
           have c13b0 := eq_true c13
           have c13b1 : decide ((((x5_1 ++ (rdOf ByteArray.empty l0_5 x6_1)) ++ (⟨#[32, 61, 32]⟩ : ByteArray)) ++ t227).size + 1 ≤ 9223372036854775807) = true := yE c13
           try have c13b2 : (9223372036854775807 < (((x5_1 ++ (rdOf ByteArray.empty l0_5 x6_1)) ++ (⟨#[32, 61, 32]⟩ : ByteArray)) ++ t227).size + 1) = False := eq_false (Nat.not_lt.2 c13)
           try simp only [ByteArray.size_append] at c13b2
           have H' := zA H
           clear H
           obtain ⟨hcz14_0, hcz14_1, hcz14_2, hcz14_3, hcz14_4, hcz14_5, hfz14_0, hfz14_1, hfz14_2, hfz14_3, hfz14_4, hfz14_5⟩ := zb6 BK223.out
           have p224 : 0 ≤ (x6_1 : Int) := yF apB
           have q224 : x6_1 < (l0_4.length : Int) := yF apB
           obtain ⟨ad224, A224_4, c224_4, A224_5, c224_5, e224, hx224_0, hx224_1, hx224_2, hx224_3, hx224_4, hx224_5, hl224_4, hi224_4, hl224_5, hi224_5⟩ := at_T34 HR0_4.out x6_1 p224 q224
           cases e224
           replace hx224_0 := (HB.out.cell (zR w _ hx224_0)).trans hx224_0
           replace hx224_1 := (HB.out.cell (zR w _ hx224_1)).trans hx224_1
           replace hx224_2 := (HB.out.cell (zR w _ hx224_2)).trans hx224_2
           replace hx224_3 := (HB.out.cell (zR w _ hx224_3)).trans hx224_3
           replace hx224_4 := (HB.out.cell (zR w _ hx224_4)).trans hx224_4
           replace hx224_5 := (HB.out.cell (zR w _ hx224_5)).trans hx224_5
           have HR224_4 := zA hi224_4
           have HC224_4 := zA hl224_4
           clear hi224_4 hl224_4
           have HR224_5 := zA hi224_5
           have HC224_5 := zA hl224_5
           clear hi224_5 hl224_5
           replace p224 := eq_true p224
           replace q224 := eq_true q224
           try go_wp2
           have n0_ := zA (zD BK223.out)
           have n1_ := zA (zF HB.out)
           clear BK223
           clear HB
           have BK223 := n0_
           have HB := n1_
           clear n0_ n1_
           have p225 : 0 ≤ (x6_1 : Int) := yF apB
           have q225 : x6_1 < (l0_5.length : Int) := yF apB
           obtain ⟨ad225, e225, hx225_0⟩ := Kd.at_string HR0_5.out x6_1 p225 q225
           have hw225_0 := hx225_0
           cases e225
           replace hx225_0 := (HB.out.cell (zR w _ hx225_0)).trans hx225_0
           replace p225 := eq_true p225
           replace q225 := eq_true q225
           have p226 : 0 ≤ (x6_1 : Int) := yF apB
           have q226 : x6_1 < (l0_4.length : Int) := yF apB
           obtain ⟨ad226, A226_4, c226_4, A226_5, c226_5, e226, hx226_0, hx226_1, hx226_2, hx226_3, hx226_4, hx226_5, hl226_4, hi226_4, hl226_5, hi226_5⟩ := at_T34 HR0_4.out x6_1 p226 q226
           have hw226_5 := hx226_5
           have hw226_4 := hx226_4
           have hw226_3 := hx226_3
           have hw226_2 := hx226_2
           have hw226_1 := hx226_1
           have hw226_0 := hx226_0
           obtain rfl : ad224 = ad226 := (by injection e226)
           replace hx226_0 := (HB.out.cell (zR w _ hx226_0)).trans hx226_0
           replace hx226_1 := (HB.out.cell (zR w _ hx226_1)).trans hx226_1
           replace hx226_2 := (HB.out.cell (zR w _ hx226_2)).trans hx226_2
           replace hx226_3 := (HB.out.cell (zR w _ hx226_3)).trans hx226_3
           replace hx226_4 := (HB.out.cell (zR w _ hx226_4)).trans hx226_4
           replace hx226_5 := (HB.out.cell (zR w _ hx226_5)).trans hx226_5
           have HR226_4 := zA hi226_4
           have HC226_4 := zA hl226_4
           clear hi226_4 hl226_4
           have HR226_5 := zA hi226_5
           have HC226_5 := zA hl226_5
           clear hi226_5 hl226_5
           replace p226 := eq_true p226
           replace q226 := eq_true q226
           refine start_ (n := 17) (S := fun w' => w'.cell? ⟨gb223, 0, none⟩ = some (.int .i64 a0_0) ∧ w'.cell? ⟨gb223, 1, none⟩ = some (.int .i64 a0_1) ∧ w'.cell? ⟨gb223, 2, none⟩ = some (.int .i64 a0_2) ∧ w'.cell? ⟨gb223, 3, none⟩ = some (.string a0_3) ∧ w'.cell? ⟨gb223, 4, none⟩ = some (.slice (some ad224) l0_4.length c0_4) ∧ w'.cell? ⟨gb223, 5, none⟩ = some (.slice (some ad225) l0_5.length c0_5) ∧ w'.cell? (ad225.add (x6_1).toNat) = some (.string (rdOf ByteArray.empty l0_5 x6_1)) ∧ w'.cell? (ad224.add ((x6_1).toNat * 6)) = some (.int .i64 ((rd_T34 l0_4 x6_1).f0)) ∧ w'.cell? ⟨(ad224.add ((x6_1).toNat * 6)).block, (ad224.add ((x6_1).toNat * 6)).off + 1, none⟩ = some (.int .i64 ((rd_T34 l0_4 x6_1).f1.f0)) ∧ w'.cell? ⟨(ad224.add ((x6_1).toNat * 6)).block, (ad224.add ((x6_1).toNat * 6)).off + 2, none⟩ = some (.int .i64 ((rd_T34 l0_4 x6_1).f1.f1)) ∧ w'.cell? ⟨(ad224.add ((x6_1).toNat * 6)).block, (ad224.add ((x6_1).toNat * 6)).off + 3, none⟩ = some (.string ((rd_T34 l0_4 x6_1).f2)) ∧ w'.cell? ⟨(ad224.add ((x6_1).toNat * 6)).block, (ad224.add ((x6_1).toNat * 6)).off + 4, none⟩ = some (.slice A226_4 ((rd_T34 l0_4 x6_1).f3).length c226_4) ∧ w'.cell? ⟨(ad224.add ((x6_1).toNat * 6)).block, (ad224.add ((x6_1).toNat * 6)).off + 5, none⟩ = some (.slice A226_5 ((rd_T34 l0_4 x6_1).f4).length c226_5)) (ds := []) #[false, false, false, false, false, false, false, false, false, false, false, false, false, false, false, false, false] (by kernel_rfl) rfl rfl ⟨(zJ BK223.out 0).trans rfl, (zJ BK223.out 1).trans rfl, (zJ BK223.out 2).trans rfl, (zJ BK223.out 3).trans rfl, (zJ BK223.out 4).trans rfl, (zJ BK223.out 5).trans rfl, ((HB.out.cell (zR w _ hw225_0)).trans hw225_0), ((HB.out.cell (zR w _ hw226_0)).trans hw226_0), ((HB.out.cell (zR w _ hw226_1)).trans hw226_1), ((HB.out.cell (zR w _ hw226_2)).trans hw226_2), ((HB.out.cell (zR w _ hw226_3)).trans hw226_3), ((HB.out.cell (zR w _ hw226_4)).trans hw226_4), ((HB.out.cell (zR w _ hw226_5)).trans hw226_5)⟩ (fun hHeld => ?_); refine with_tabW spec_l12Toml.tab6 spec_l12Toml.bits6 (fun HT_ HW_ => ?_)
           generalize wr.drew = w15 at BK223 HB HR226_4 HR226_5 hx225_0 hx226_0 hx226_1 hx226_2 hx226_3 hx226_4 hx226_5 hHeld ⊢
           refine pure_ (i := 0) (N := some 23) (v := ?_) (a' := ?_) #[true, false, false, false, false, false, false, false, false, false, false, false, false, false, false, false, false] rfl rfl (any_of HT_.out (by kernel_rfl)) (fun _ _ _ h => h) (Or.inl ⟨by rfl, ?_⟩) ?_ ?_
           rotate_left
           ·intro w'
            go_simp
            with_reducible rfl
           rotate_left
           ·simp only [Act.put, zK, zL, zM, i64_w, i32_w]
            rfl
           refine pure_ (i := 1) (N := some 24) (v := ?_) (a' := ?_) #[true, true, false, false, false, false, false, false, false, false, false, false, false, false, false, false, false] rfl rfl (any_of HT_.out (by kernel_rfl)) (fun _ _ _ h => h) (Or.inl ⟨by rfl, ?_⟩) ?_ ?_
           rotate_left
           ·intro w'
            go_simp
            with_reducible rfl
           rotate_left
           ·simp only [Act.put, zK, zL, zM, i64_w, i32_w]
            rfl
           refine pure_ (i := 3) (N := some 26) (v := ?_) (a' := ?_) #[true, true, false, true, false, false, false, false, false, false, false, false, false, false, false, false, false] rfl rfl (any_of HT_.out (by kernel_rfl)) (fun _ _ _ h => h) (Or.inl ⟨by rfl, ?_⟩) ?_ ?_
           rotate_left
           ·intro w'
            go_simp
            with_reducible rfl
           rotate_left
           ·simp only [Act.put, zK, zL, zM, i64_w, i32_w]
            rfl
           refine pure_ (i := 8) (N := some 31) (v := ?_) (a' := ?_) #[true, true, false, true, false, false, false, false, true, false, false, false, false, false, false, false, false] rfl rfl (any_of HT_.out (by kernel_rfl)) (fun _ _ _ h => h) (Or.inl ⟨by rfl, ?_⟩) ?_ ?_
           rotate_left
           ·intro w'
            go_simp
            with_reducible rfl
           rotate_left
           ·simp only [Act.put, zK, zL, zM, i64_w, i32_w]
            rfl
           refine pure_ (i := 10) (N := some 33) (v := ?_) (a' := ?_) #[true, true, false, true, false, false, false, false, true, false, true, false, false, false, false, false, false] rfl rfl (any_of HT_.out (by kernel_rfl)) (fun _ _ _ h => h) (Or.inl ⟨by rfl, ?_⟩) ?_ ?_
           rotate_left
           ·intro w'
            go_simp
            with_reducible rfl
           rotate_left
           ·simp only [Act.put, zK, zL, zM, i64_w, i32_w]
            rfl
           refine take_ (i := 2) (N := some 25) (v := ?_) (a' := ?_) #[true, true, true, true, false, false, false, false, true, false, true, false, false, false, false, false, false] rfl rfl (take_ofW HT_.out HW_.out (by kernel_rfl)) (fun _ _ _ h => h) (Or.inl ⟨by rfl, ?_⟩) hHeld ?_ ?_
           rotate_left
           ·rintro w' ⟨s0, s1, s2, s3, s4, s5, s6, s7, s8, s9, s10, s11, s12⟩
            go_simp
            with_reducible rfl
           rotate_left
           ·simp only [Act.put, zK, zL, zM, i64_w, i32_w]
            rfl
           refine pure_ (i := 4) (N := some 27) (v := ?_) (a' := ?_) #[true, true, true, true, true, false, false, false, true, false, true, false, false, false, false, false, false] rfl rfl (any_of HT_.out (by kernel_rfl)) (fun _ _ _ h => h) (Or.inl ⟨by rfl, ?_⟩) ?_ ?_
           rotate_left
           ·intro w'
            go_simp
            with_reducible rfl
           rotate_left
           ·simp only [Act.put, zK, zL, zM, i64_w, i32_w]
            rfl
           refine take_ (i := 5) (N := some 28) (v := ?_) (a' := ?_) #[true, true, true, true, true, true, false, false, true, false, true, false, false, false, false, false, false] rfl rfl (take_ofW HT_.out HW_.out (by kernel_rfl)) (fun _ _ _ h => h) (Or.inl ⟨by rfl, ?_⟩) hHeld ?_ ?_
           rotate_left
           ·rintro w' ⟨s0, s1, s2, s3, s4, s5, s6, s7, s8, s9, s10, s11, s12⟩
            go_simp
            with_reducible rfl
           rotate_left
           ·simp only [Act.put, zK, zL, zM, i64_w, i32_w]
            rfl
           refine pure_ (i := 6) (N := some 29) (v := ?_) (a' := ?_) #[true, true, true, true, true, true, true, false, true, false, true, false, false, false, false, false, false] rfl rfl (any_of HT_.out (by kernel_rfl)) (fun _ _ _ h => h) (Or.inl ⟨by rfl, ?_⟩) ?_ ?_
           rotate_left
           ·intro w'
            go_simp
            with_reducible rfl
           rotate_left
           ·simp only [Act.put, zK, zL, zM, i64_w, i32_w]
            rfl
           refine pure_ (i := 7) (N := some 30) (v := ?_) (a' := ?_) #[true, true, true, true, true, true, true, true, true, false, true, false, false, false, false, false, false] rfl rfl (any_of HT_.out (by kernel_rfl)) (fun _ _ _ h => h) (Or.inl ⟨by rfl, ?_⟩) ?_ ?_
           rotate_left
           ·intro w'
            go_simp
            with_reducible rfl
           rotate_left
           ·simp only [Act.put, zK, zL, zM, i64_w, i32_w]
            rfl
           refine take_ (i := 9) (N := some 32) (v := ?_) (a' := ?_) #[true, true, true, true, true, true, true, true, true, true, true, false, false, false, false, false, false] rfl rfl (take_ofW HT_.out HW_.out (by kernel_rfl)) (fun _ _ _ h => h) (Or.inl ⟨by rfl, ?_⟩) hHeld ?_ ?_
           rotate_left
           ·rintro w' ⟨s0, s1, s2, s3, s4, s5, s6, s7, s8, s9, s10, s11, s12⟩
            go_simp
            with_reducible rfl
           rotate_left
           ·simp only [Act.put, zK, zL, zM, i64_w, i32_w]
            rfl
           refine pure_ (i := 11) (N := some 34) (v := ?_) (a' := ?_) #[true, true, true, true, true, true, true, true, true, true, true, true, false, false, false, false, false] rfl rfl (any_of HT_.out (by kernel_rfl)) (fun _ _ _ h => h) (Or.inl ⟨by rfl, ?_⟩) ?_ ?_
           rotate_left
           ·intro w'
            go_simp
            with_reducible rfl
           rotate_left
           ·simp only [Act.put, zK, zL, zM, i64_w, i32_w]
            rfl
           refine take_ (i := 12) (N := some 35) (v := ?_) (a' := ?_) #[true, true, true, true, true, true, true, true, true, true, true, true, true, false, false, false, false] rfl rfl (take_ofW HT_.out HW_.out (by kernel_rfl)) (fun _ _ _ h => h) (Or.inl ⟨by rfl, ?_⟩) hHeld ?_ ?_
           rotate_left
           ·rintro w' ⟨s0, s1, s2, s3, s4, s5, s6, s7, s8, s9, s10, s11, s12⟩
            go_simp
            with_reducible rfl
           rotate_left
           ·simp only [Act.put, zK, zL, zM, i64_w, i32_w]
            rfl
           refine one_ (i := 13) (N := some 36) #[true, true, true, true, true, true, true, true, true, true, true, true, true, true, false, false, false] rfl rfl (one_of HT_.out (by kernel_rfl)) (by decide) (fun K hK => ?_)
           refine goes_ Tryd.func27 (by kernel_rfl) rfl #[.agg #[.int .i64 ((rd_T34 l0_4 x6_1).f0), .int .i64 ((rd_T34 l0_4 x6_1).f1.f0), .int .i64 ((rd_T34 l0_4 x6_1).f1.f1), .string ((rd_T34 l0_4 x6_1).f2), .slice A226_4 ((rd_T34 l0_4 x6_1).f3).length c226_4, .slice A226_5 ((rd_T34 l0_4 x6_1).f4).length c226_5]] (by rfl) rfl rfl apE ?_
           with_reducible refine (spec_l7Put.calls k1 ((rd_T34 l0_4 x6_1).f0) ((rd_T34 l0_4 x6_1).f1.f0) ((rd_T34 l0_4 x6_1).f1.f1) ((rd_T34 l0_4 x6_1).f2) _ _ ((rd_T34 l0_4 x6_1).f3) _ _ ((rd_T34 l0_4 x6_1).f4) t227 _ ?side1 ?side2 ?side3 ?side4 A11.out).mono ?_
           (case side1 => repeat (first | exact (Kd.C_below HR226_4.out HB.out) | (with_reducible refine Kd.C_alloc ?_ _) | (with_reducible refine Kd.C_drewN ?_ _) | (with_reducible refine Kd.C_drew ?_)))
           (case side2 => exact HC226_4.out)
           (case side3 => repeat (first | exact (Kd.C_below HR226_5.out HB.out) | (with_reducible refine Kd.C_alloc ?_ _) | (with_reducible refine Kd.C_drewN ?_ _) | (with_reducible refine Kd.C_drew ?_)))
           (case side4 => exact HC226_5.out)
           rintro e w16 ⟨rfl, hb⟩
           refine ⟨_, rfl, ?_⟩
           have n0_ := zA (zN (g := gb223) (o := .cells #[.int .i64 a0_0, .int .i64 a0_1, .int .i64 a0_2, .string a0_3, .slice (some ad224) l0_4.length c0_4, .slice (some ad225) l0_5.length c0_5] 34 (0, 0)) (by (with_reducible repeat (first | refine zB ?_ _ | refine zD ?_ | refine zC ?_ _)); exact BK223.out) hb)
           have n1_ := zA (zP (by repeat (first | (with_reducible first | exact HB.out | apply zG | apply zE | apply zF | refine zH ?_ GE223.out) | exact HB.out)) hb)
           clear BK223
           clear HB
           have BK223 := n0_
           have HB := n1_
           clear n0_ n1_
           (try clear hb)
           (try clear hb2)
           (try clear hk)
           (try clear hi)
           refine hK.out _ _ ⟨(zJ BK223.out 0).trans rfl, (zJ BK223.out 1).trans rfl, (zJ BK223.out 2).trans rfl, (zJ BK223.out 3).trans rfl, (zJ BK223.out 4).trans rfl, (zJ BK223.out 5).trans rfl, ((HB.out.cell (zR w _ hw225_0)).trans hw225_0), ((HB.out.cell (zR w _ hw226_0)).trans hw226_0), ((HB.out.cell (zR w _ hw226_1)).trans hw226_1), ((HB.out.cell (zR w _ hw226_2)).trans hw226_2), ((HB.out.cell (zR w _ hw226_3)).trans hw226_3), ((HB.out.cell (zR w _ hw226_4)).trans hw226_4), ((HB.out.cell (zR w _ hw226_5)).trans hw226_5)⟩ (fun hHeld => ?_)
           clear hK K
           refine norm_ (a' := ?_) ?_ ?_
           rotate_left
           ·show Act.put _ (some 36) _ = _
            simp only [Act.put, zK, zL, zM, i64_w, i32_w]
            rfl
           refine pure_ (i := 14) (N := some 37) (v := ?_) (a' := ?_) #[true, true, true, true, true, true, true, true, true, true, true, true, true, true, true, false, false] rfl rfl (any_of HT_.out (by kernel_rfl)) (fun _ _ _ h => h) (Or.inl ⟨by rfl, ?_⟩) ?_ ?_
           rotate_left
           ·intro w'
            go_simp
            with_reducible rfl
           rotate_left
           ·simp only [Act.put, zK, zL, zM, i64_w, i32_w]
            rfl
           refine pure_ (i := 15) (N := some 38) (v := ?_) (a' := ?_) #[true, true, true, true, true, true, true, true, true, true, true, true, true, true, true, true, false] rfl rfl (any_of HT_.out (by kernel_rfl)) (fun _ _ _ h => h) (Or.inl ⟨by rfl, ?_⟩) ?_ ?_
           rotate_left
           ·intro w'
            go_simp
            with_reducible rfl
           rotate_left
           ·simp only [Act.put, zK, zL, zM, i64_w, i32_w]
            rfl
           refine pure_ (i := 16) (N := some 5) (v := ?_) (a' := ?_) #[true, true, true, true, true, true, true, true, true, true, true, true, true, true, true, true, true] rfl rfl (any_of HT_.out (by kernel_rfl)) (fun _ _ _ h => h) (Or.inl ⟨by rfl, ?_⟩) ?_ ?_
           rotate_left
           ·intro w'
            go_simp
            with_reducible rfl
           rotate_left
           ·simp only [Act.put, zK, zL, zM, i64_w, i32_w]
            rfl
           refine done_ (done_of HT_.out (by kernel_rfl)) ?_
           try go_wp2
           go_roundg k1
           case measure => have := HK1.out; omega
           case rel => exact ⟨((((x5_1 ++ (rdOf ByteArray.empty l0_5 x6_1)) ++ (⟨#[32, 61, 32]⟩ : ByteArray)) ++ t227) ++ (⟨#[10]⟩ : ByteArray)), (wrap64 (x6_1 + 1)), apC, apC, H', ⟨by have := HK1.out; omega⟩, ⟨by (with_reducible repeat (first | refine zB ?_ _ | refine zD ?_ | refine zC ?_ _)); exact BK223.out⟩, ⟨by repeat (first | (with_reducible first | exact HB.out | apply zG | apply zE | apply zF | refine zH ?_ GE223.out) | exact HB.out)⟩⟩
          ·rw [if_neg c13] at H
           exact absurd H (by simp)
         ·rw [if_neg c12] at H
          exact absurd H (by simp)
        ·rw [if_neg c10] at H
         exact absurd H (by simp)
       ·rw [if_neg c9] at H
        exact absurd H (by simp)
      ·rw [if_neg c8] at H
       exact absurd H (by simp)
    ·rw [if_neg c5] at H
     exact absurd H (by simp)
   ·rw [if_neg c4] at H
    have c4b0 : decide (x6_1 < (l0_4.length : Int)) = false := decide_eq_false c4
    clear c4
    have H' := zA H
    clear H
    obtain ⟨hcz17_0, hcz17_1, hcz17_2, hcz17_3, hcz17_4, hcz17_5, hfz17_0, hfz17_1, hfz17_2, hfz17_3, hfz17_4, hfz17_5⟩ := zb6 BK223.out
    go_wp2
    go_loopg [5, 7] k1 (fun kq v5 v7 w' => ∃ (x5_2 : ByteArray) (x7_2 : Int), v5 = .string x5_2 ∧ v7 = .int .i64 x7_2 ∧ Aside0 (spec_l12Toml.l1 kq a1 x5_2 x7_2 a0_0 a0_1 a0_2 a0_3 l0_4 l0_5 = some r) ∧ Aside0 (kq ≤ k1) ∧ Aside0 (w'.heap[gb223]? = some (.cells #[.int .i64 a0_0, .int .i64 a0_1, .int .i64 a0_2, .string a0_3, (.slice A0_4 l0_4.length c0_4), (.slice A0_5 l0_5.length c0_5)] 34 (0, 0))) ∧ Aside0 (Below w.heap.size w w'))
    case atStart => exact ⟨(x5_1), (0), apC, apC, H', ⟨yJ _⟩, ⟨by (with_reducible repeat (first | refine zB ?_ _ | refine zD ?_ | refine zC ?_ _)); exact BK223.out⟩, ⟨by repeat (first | (with_reducible first | exact HB.out | apply zG | apply zE | apply zF | refine zH ?_ GE223.out) | exact HB.out)⟩⟩
    case round =>
     clear H'
     try clear c1 c2 p2 q2 hx2 c4 c4b0 c5 c5b0 c6 c6b0 c6b1 p6 c8 c8b0 c9 c9b0 c9b1 c9b2 c10 c10b0 c10b1 c10b2 c12 c12b0 c12b1 c12b2 c13 c13b0 c13b1 c13b2 hcz14_0 hcz14_1 hcz14_2 hcz14_3 hcz14_4 hcz14_5 hcz17_0 hcz17_1 hcz17_2 hcz17_3 hcz17_4 hcz17_5 hcz7_0 hcz7_1 hcz7_2 hcz7_3 hcz7_4 hcz7_5 hfz14_0 hfz14_1 hfz14_2 hfz14_3 hfz14_4 hfz14_5 hfz17_0 hfz17_1 hfz17_2 hfz17_3 hfz17_4 hfz17_5 hfz7_0 hfz7_1 hfz7_2 hfz7_3 hfz7_4 hfz7_5 hx224_0 hx224_1 hx224_2 hx224_3 hx224_4 hx224_5 hx225_0 hx226_0 hx226_1 hx226_2 hx226_3 hx226_4 hx226_5 p2 p224 p225 p226 q224 q225 q226
     obtain ⟨x5_2, x7_2, rfl, rfl, HA, HK2, BK223, HB⟩ := hrel
     cases gk with
     | zero => exact absurd HA.out (by simp [spec_l12Toml.l1])
     | succ k2 =>
      have H := HA.out
      clear HA
      simp only [spec_l12Toml.l1] at H
      by_cases c18 : x7_2 < (l0_4.length : Int)
      ·rw [if_pos c18] at H
       have c18b0 : decide (x7_2 < (l0_4.length : Int)) = true := yE c18
       clear c18
       by_cases c19 : 0 ≤ x7_2
       ·rw [if_pos c19] at H
        have c19b0 : decide (0 ≤ x7_2) = true := yE c19
        clear c19
        by_cases c20 : ((rd_T34 l0_4 x7_2).f0) = 6
        ·rw [if_pos c20] at H
         have c20b0 : (((rd_T34 l0_4 x7_2).f0) == 6) = true := beq_iff_eq.mpr c20
         have c20b1 : (((rd_T34 l0_4 x7_2).f0) != 6) = false := bne_eq_false_iff_eq.mpr c20
         clear c20
         by_cases c21 : x7_2 < (l0_5.length : Int)
         ·rw [if_pos c21] at H
          have c21b0 : decide (x7_2 < (l0_5.length : Int)) = true := yE c21
          clear c21
          by_cases c22 : a1.size + (rdOf ByteArray.empty l0_5 x7_2).size ≤ 9223372036854775807
          ·rw [if_pos c22] at H
           have c22b0 := eq_true c22
           have c22b1 : decide (a1.size + (rdOf ByteArray.empty l0_5 x7_2).size ≤ 9223372036854775807) = true := yE c22
           try have c22b2 : (9223372036854775807 < a1.size + (rdOf ByteArray.empty l0_5 x7_2).size) = False := eq_false (Nat.not_lt.2 c22)
           by_cases c23 : x5_2.size + 1 ≤ 9223372036854775807
           ·rw [if_pos c23] at H
            have c23b0 := eq_true c23
            have c23b1 : decide (x5_2.size + 1 ≤ 9223372036854775807) = true := yE c23
            try have c23b2 : (9223372036854775807 < x5_2.size + 1) = False := eq_false (Nat.not_lt.2 c23)
            by_cases c24 : (x5_2 ++ (⟨#[91]⟩ : ByteArray)).size + (a1 ++ (rdOf ByteArray.empty l0_5 x7_2)).size ≤ 9223372036854775807
            ·rw [if_pos c24] at H
             (try (have c24b9 := eq_true c24; simp only [ByteArray.size_append, Int.natCast_add, show ((⟨#[91]⟩ : ByteArray)).size = 1 from rfl] at c24b9))
             (try (have c24b8 := eq_false (Nat.not_lt.2 c24); simp only [ByteArray.size_append, show ((⟨#[91]⟩ : ByteArray)).size = 1 from rfl] at c24b8))
             have c24b0 := eq_true c24
             have c24b1 : decide ((x5_2 ++ (⟨#[91]⟩ : ByteArray)).size + (a1 ++ (rdOf ByteArray.empty l0_5 x7_2)).size ≤ 9223372036854775807) = true := yE c24
             try have c24b2 : (9223372036854775807 < (x5_2 ++ (⟨#[91]⟩ : ByteArray)).size + (a1 ++ (rdOf ByteArray.empty l0_5 x7_2)).size) = False := eq_false (Nat.not_lt.2 c24)
             try simp only [ByteArray.size_append] at c24b2
             by_cases c25 : ((x5_2 ++ (⟨#[91]⟩ : ByteArray)) ++ (a1 ++ (rdOf ByteArray.empty l0_5 x7_2))).size + 2 ≤ 9223372036854775807
             ·rw [if_pos c25] at H
              (try (have c25b9 := eq_true c25; simp only [ByteArray.size_append, Int.natCast_add, show ((⟨#[91]⟩ : ByteArray)).size = 1 from rfl] at c25b9))
              (try (have c25b8 := eq_false (Nat.not_lt.2 c25); simp only [ByteArray.size_append, show ((⟨#[91]⟩ : ByteArray)).size = 1 from rfl] at c25b8))
              have c25b0 := eq_true c25
              have c25b1 : decide (((x5_2 ++ (⟨#[91]⟩ : ByteArray)) ++ (a1 ++ (rdOf ByteArray.empty l0_5 x7_2))).size + 2 ≤ 9223372036854775807) = true := yE c25
              try have c25b2 : (9223372036854775807 < ((x5_2 ++ (⟨#[91]⟩ : ByteArray)) ++ (a1 ++ (rdOf ByteArray.empty l0_5 x7_2))).size + 2) = False := eq_false (Nat.not_lt.2 c25)
              try simp only [ByteArray.size_append] at c25b2
              by_cases c26 : (a1 ++ (rdOf ByteArray.empty l0_5 x7_2)).size + 1 ≤ 9223372036854775807
              ·rw [if_pos c26] at H
               have c26b0 := eq_true c26
               have c26b1 : decide ((a1 ++ (rdOf ByteArray.empty l0_5 x7_2)).size + 1 ≤ 9223372036854775807) = true := yE c26
               try have c26b2 : (9223372036854775807 < (a1 ++ (rdOf ByteArray.empty l0_5 x7_2)).size + 1) = False := eq_false (Nat.not_lt.2 c26)
               try simp only [ByteArray.size_append] at c26b2
               replace H := Option.bind_eq_some_iff.mp H
               obtain ⟨t231, A270, H⟩ := H
               have A27 := zA A270
               clear A270
               by_cases c28 : (((x5_2 ++ (⟨#[91]⟩ : ByteArray)) ++ (a1 ++ (rdOf ByteArray.empty l0_5 x7_2))) ++ (⟨#[93, 10]⟩ : ByteArray)).size + t231.size ≤ 9223372036854775807
               ·rw [if_pos c28] at H
                (try (have c28b9 := eq_true c28; simp only [ByteArray.size_append, Int.natCast_add, show ((⟨#[91]⟩ : ByteArray)).size = 1 from rfl, show ((⟨#[93, 10]⟩ : ByteArray)).size = 2 from rfl] at c28b9))
                (try (have c28b8 := eq_false (Nat.not_lt.2 c28); simp only [ByteArray.size_append, show ((⟨#[91]⟩ : ByteArray)).size = 1 from rfl, show ((⟨#[93, 10]⟩ : ByteArray)).size = 2 from rfl] at c28b8))
                have c28b0 := eq_true c28
                have c28b1 : decide ((((x5_2 ++ (⟨#[91]⟩ : ByteArray)) ++ (a1 ++ (rdOf ByteArray.empty l0_5 x7_2))) ++ (⟨#[93, 10]⟩ : ByteArray)).size + t231.size ≤ 9223372036854775807) = true := yE c28
                try have c28b2 : (9223372036854775807 < (((x5_2 ++ (⟨#[91]⟩ : ByteArray)) ++ (a1 ++ (rdOf ByteArray.empty l0_5 x7_2))) ++ (⟨#[93, 10]⟩ : ByteArray)).size + t231.size) = False := eq_false (Nat.not_lt.2 c28)
                try simp only [ByteArray.size_append] at c28b2
                have H' := zA H
                clear H
                obtain ⟨hcz29_0, hcz29_1, hcz29_2, hcz29_3, hcz29_4, hcz29_5, hfz29_0, hfz29_1, hfz29_2, hfz29_3, hfz29_4, hfz29_5⟩ := zb6 BK223.out
                have p228 : 0 ≤ (x7_2 : Int) := yF apB
                have q228 : x7_2 < (l0_4.length : Int) := yF apB
                obtain ⟨ad228, A228_4, c228_4, A228_5, c228_5, e228, hx228_0, hx228_1, hx228_2, hx228_3, hx228_4, hx228_5, hl228_4, hi228_4, hl228_5, hi228_5⟩ := at_T34 HR0_4.out x7_2 p228 q228
                cases e228
                replace hx228_0 := (HB.out.cell (zR w _ hx228_0)).trans hx228_0
                replace hx228_1 := (HB.out.cell (zR w _ hx228_1)).trans hx228_1
                replace hx228_2 := (HB.out.cell (zR w _ hx228_2)).trans hx228_2
                replace hx228_3 := (HB.out.cell (zR w _ hx228_3)).trans hx228_3
                replace hx228_4 := (HB.out.cell (zR w _ hx228_4)).trans hx228_4
                replace hx228_5 := (HB.out.cell (zR w _ hx228_5)).trans hx228_5
                have HR228_4 := zA hi228_4
                have HC228_4 := zA hl228_4
                clear hi228_4 hl228_4
                have HR228_5 := zA hi228_5
                have HC228_5 := zA hl228_5
                clear hi228_5 hl228_5
                replace p228 := eq_true p228
                replace q228 := eq_true q228
                have p229 : 0 ≤ (x7_2 : Int) := yF apB
                have q229 : x7_2 < (l0_5.length : Int) := yF apB
                obtain ⟨ad229, e229, hx229_0⟩ := Kd.at_string HR0_5.out x7_2 p229 q229
                cases e229
                replace hx229_0 := (HB.out.cell (zR w _ hx229_0)).trans hx229_0
                replace p229 := eq_true p229
                replace q229 := eq_true q229
                have p230 : 0 ≤ (x7_2 : Int) := yF apB
                have q230 : x7_2 < (l0_4.length : Int) := yF apB
                obtain ⟨ad230, A230_4, c230_4, A230_5, c230_5, e230, hx230_0, hx230_1, hx230_2, hx230_3, hx230_4, hx230_5, hl230_4, hi230_4, hl230_5, hi230_5⟩ := at_T34 HR0_4.out x7_2 p230 q230
                obtain rfl : ad228 = ad230 := (by injection e230)
                replace hx230_0 := (HB.out.cell (zR w _ hx230_0)).trans hx230_0
                replace hx230_1 := (HB.out.cell (zR w _ hx230_1)).trans hx230_1
                replace hx230_2 := (HB.out.cell (zR w _ hx230_2)).trans hx230_2
                replace hx230_3 := (HB.out.cell (zR w _ hx230_3)).trans hx230_3
                replace hx230_4 := (HB.out.cell (zR w _ hx230_4)).trans hx230_4
                replace hx230_5 := (HB.out.cell (zR w _ hx230_5)).trans hx230_5
                have HR230_4 := zA hi230_4
                have HC230_4 := zA hl230_4
                clear hi230_4 hl230_4
                have HR230_5 := zA hi230_5
                have HC230_5 := zA hl230_5
                clear hi230_5 hl230_5
                replace p230 := eq_true p230
                replace q230 := eq_true q230
                have ea_ := yG (hx228_4.symm.trans hx230_4)
                injection ea_ with ea_ en_ ec_
                subst ea_
                subst ec_
                clear en_
                have ea_ := yG (hx228_5.symm.trans hx230_5)
                injection ea_ with ea_ en_ ec_
                subst ea_
                subst ec_
                clear en_
                go_wp2_with (first | ((with_reducible refine zT (f := 13) rfl ?_); refine goesL_ (some 72) rfl rfl Tryd.func13 (by kernel_rfl) rfl #[.agg #[.int .i64 ((rd_T34 l0_4 x7_2).f0), .int .i64 ((rd_T34 l0_4 x7_2).f1.f0), .int .i64 ((rd_T34 l0_4 x7_2).f1.f1), .string ((rd_T34 l0_4 x7_2).f2), .slice A228_4 ((rd_T34 l0_4 x7_2).f3).length c228_4, .slice A228_5 ((rd_T34 l0_4 x7_2).f4).length c228_5], .string ((a1 ++ (rdOf ByteArray.empty l0_5 x7_2)) ++ (⟨#[46]⟩ : ByteArray))] rfl apE ?_; (with_reducible refine (ih k2 (by have := HK1.out; have := HK2.out; omega) ((rd_T34 l0_4 x7_2).f0) ((rd_T34 l0_4 x7_2).f1.f0) ((rd_T34 l0_4 x7_2).f1.f1) ((rd_T34 l0_4 x7_2).f2) _ _ ((rd_T34 l0_4 x7_2).f3) _ _ ((rd_T34 l0_4 x7_2).f4) ((a1 ++ (rdOf ByteArray.empty l0_5 x7_2)) ++ (⟨#[46]⟩ : ByteArray)) t231 _ ?side1 ?side2 ?side3 ?side4 A27.out).mono ?_); (case side1 => repeat (first | exact (Kd.C_below HR230_4.out HB.out) | (with_reducible refine Kd.C_alloc ?_ _) | (with_reducible refine Kd.C_drewN ?_ _) | (with_reducible refine Kd.C_drew ?_))); (case side2 => exact HC230_4.out); (case side3 => repeat (first | exact (Kd.C_below HR230_5.out HB.out) | (with_reducible refine Kd.C_alloc ?_ _) | (with_reducible refine Kd.C_drewN ?_ _) | (with_reducible refine Kd.C_drew ?_))); (case side4 => exact HC230_5.out); rintro e w30 ⟨rfl, hb⟩; refine ⟨_, rfl, ?_⟩; have n0_ := zA (zN (g := gb223) (o := .cells #[.int .i64 a0_0, .int .i64 a0_1, .int .i64 a0_2, .string a0_3, .slice (some ad228) l0_4.length c0_4, .slice (some ad229) l0_5.length c0_5] 34 (0, 0)) (by (with_reducible repeat (first | refine zB ?_ _ | refine zD ?_ | refine zC ?_ _)); exact BK223.out) hb); have n1_ := zA (zP (by repeat (first | (with_reducible first | exact HB.out | apply zG | apply zE | apply zF | refine zH ?_ GE223.out) | exact HB.out)) hb); clear BK223; clear HB; have BK223 := n0_; have HB := n1_; clear n0_ n1_; (try clear hb); (try clear hb2); (try clear hk); (try clear hi)))
                go_roundg k2
                case measure => have := HK1.out; have := HK2.out; omega
                case rel => exact ⟨((((x5_2 ++ (⟨#[91]⟩ : ByteArray)) ++ (a1 ++ (rdOf ByteArray.empty l0_5 x7_2))) ++ (⟨#[93, 10]⟩ : ByteArray)) ++ t231), (wrap64 (x7_2 + 1)), apC, apC, H', ⟨by have := HK1.out; have := HK2.out; omega⟩, ⟨by (with_reducible repeat (first | refine zB ?_ _ | refine zD ?_ | refine zC ?_ _)); exact BK223.out⟩, ⟨by repeat (first | (with_reducible first | exact HB.out | apply zG | apply zE | apply zF | refine zH ?_ GE223.out) | exact HB.out)⟩⟩
               ·rw [if_neg c28] at H
                exact absurd H (by simp)
              ·rw [if_neg c26] at H
               exact absurd H (by simp)
             ·rw [if_neg c25] at H
              exact absurd H (by simp)
            ·rw [if_neg c24] at H
             exact absurd H (by simp)
           ·rw [if_neg c23] at H
            exact absurd H (by simp)
          ·rw [if_neg c22] at H
           exact absurd H (by simp)
         ·rw [if_neg c21] at H
          exact absurd H (by simp)
        ·rw [if_neg c20] at H
         have c20b0 : (((rd_T34 l0_4 x7_2).f0) == 6) = false := beq_eq_false_iff_ne.mpr c20
         have c20b1 : (((rd_T34 l0_4 x7_2).f0) != 6) = true := bne_iff_ne.mpr c20
         have H' := zA H
         clear H
         obtain ⟨hcz31_0, hcz31_1, hcz31_2, hcz31_3, hcz31_4, hcz31_5, hfz31_0, hfz31_1, hfz31_2, hfz31_3, hfz31_4, hfz31_5⟩ := zb6 BK223.out
         have p228 : 0 ≤ (x7_2 : Int) := yF apB
         have q228 : x7_2 < (l0_4.length : Int) := yF apB
         obtain ⟨ad228, A228_4, c228_4, A228_5, c228_5, e228, hx228_0, hx228_1, hx228_2, hx228_3, hx228_4, hx228_5, hl228_4, hi228_4, hl228_5, hi228_5⟩ := at_T34 HR0_4.out x7_2 p228 q228
         cases e228
         replace hx228_0 := (HB.out.cell (zR w _ hx228_0)).trans hx228_0
         replace hx228_1 := (HB.out.cell (zR w _ hx228_1)).trans hx228_1
         replace hx228_2 := (HB.out.cell (zR w _ hx228_2)).trans hx228_2
         replace hx228_3 := (HB.out.cell (zR w _ hx228_3)).trans hx228_3
         replace hx228_4 := (HB.out.cell (zR w _ hx228_4)).trans hx228_4
         replace hx228_5 := (HB.out.cell (zR w _ hx228_5)).trans hx228_5
         have HR228_4 := zA hi228_4
         have HC228_4 := zA hl228_4
         clear hi228_4 hl228_4
         have HR228_5 := zA hi228_5
         have HC228_5 := zA hl228_5
         clear hi228_5 hl228_5
         replace p228 := eq_true p228
         replace q228 := eq_true q228
         go_wp2
         go_roundg k2
         case measure => have := HK1.out; have := HK2.out; omega
         case rel => exact ⟨(x5_2), (wrap64 (x7_2 + 1)), apC, apC, H', ⟨by have := HK1.out; have := HK2.out; omega⟩, ⟨by (with_reducible repeat (first | refine zB ?_ _ | refine zD ?_ | refine zC ?_ _)); exact BK223.out⟩, ⟨by repeat (first | (with_reducible first | exact HB.out | apply zG | apply zE | apply zF | refine zH ?_ GE223.out) | exact HB.out)⟩⟩
       ·rw [if_neg c19] at H
        exact absurd H (by simp)
      ·rw [if_neg c18] at H
       have c18b0 : decide (x7_2 < (l0_4.length : Int)) = false := decide_eq_false c18
       clear c18
       obtain rfl := yG H
       obtain ⟨hcz32_0, hcz32_1, hcz32_2, hcz32_3, hcz32_4, hcz32_5, hfz32_0, hfz32_1, hfz32_2, hfz32_3, hfz32_4, hfz32_5⟩ := zb6 BK223.out
       go_wp2
       go_ret
       exact ⟨apD, by repeat (first | (with_reducible first | exact HB.out | apply zG | apply zE | apply zF | refine zH ?_ GE223.out) | exact HB.out)⟩


def spec_TomlPut.f (k : Nat) (a0_0 : Int) (a0_1 : Int) (a0_2 : Int) (a0_3 : ByteArray) (l0_4 : List (S34)) (l0_5 : List ByteArray) : Option (ByteArray × Bool) := (spec_ValueOk.f k a0_0 a0_1 a0_2 a0_3 l0_4 l0_5).bind fun t233 => (if t233 = true then ((spec_l12Fits.f k a0_0 a0_1 a0_2 a0_3 l0_4 l0_5).bind fun t234 => (if t234 = true then ((spec_l12Toml.f k a0_0 a0_1 a0_2 a0_3 l0_4 l0_5 (⟨#[]⟩ : ByteArray)).bind fun t235 => (some (t235, true))) else (some ((⟨#[]⟩ : ByteArray), false)))) else (some ((⟨#[]⟩ : ByteArray), false)))
theorem spec_TomlPut.mono : ∀ a0 a1 a2 a3 a4 a5 k, LeO (spec_TomlPut.f k a0 a1 a2 a3 a4 a5) (spec_TomlPut.f (k + 1) a0 a1 a2 a3 a4 a5) := by
 intro a0 a1 a2 a3 a4 a5 k
 unfold spec_TomlPut.f
 repeat' first
   | (with_reducible exact spec_ValueOk.mono _ _ _ _ _ _ _)
   | (with_reducible exact spec_l12Fits.mono _ _ _ _ _ _ _)
   | (with_reducible exact spec_l12Toml.mono _ _ _ _ _ _ _ _)
   | (with_reducible exact LeO.refl _)
   | (with_reducible exact LeO.none _)
   | (with_reducible refine LeO.ite ?_ ?_)
   | (with_reducible refine LeO.bind ?_ (fun _ => ?_))
set_option maxHeartbeats 8000000 in
set_option maxRecDepth 100000 in
theorem spec_TomlPut.calls (k : Nat) (a0_0 : Int) (a0_1 : Int) (a0_2 : Int) (a0_3 : ByteArray) (A0_4 : Option Addr) (c0_4 : Nat) (l0_4 : List (S34)) (A0_5 : Option Addr) (c0_5 : Nat) (l0_5 : List ByteArray) (r1 : ByteArray) (r2 : Bool) (w : World) (hr0_4 : Kd.C k34 w A0_4 l0_4.length l0_4) (hc0_4 : l0_4.length ≤ c0_4) (hr0_5 : Kd.C Kd.string w A0_5 l0_5.length l0_5) (hc0_5 : l0_5.length ≤ c0_5) (h : spec_TomlPut.f k a0_0 a0_1 a0_2 a0_3 l0_4 l0_5 = some (r1, r2)) :
  Calls Tryd.prog 5 #[.agg #[.int .i64 a0_0, .int .i64 a0_1, .int .i64 a0_2, .string a0_3, .slice A0_4 l0_4.length c0_4, .slice A0_5 l0_5.length c0_5]] w fun e w' => e = .returned (.tuple #[.string r1, .bool r2]) ∧ Below w.heap.size w w' := by
 have hu34 := Tryd.underlying34
 have HR0_4 := zA hr0_4
 have HC0_4 := zA hc0_4
 clear hr0_4 hc0_4
 have HR0_5 := zA hr0_5
 have HC0_5 := zA hc0_5
 clear hr0_5 hc0_5
 have HB := zA (yH w.heap.size w)
 have H : ((spec_ValueOk.f k a0_0 a0_1 a0_2 a0_3 l0_4 l0_5).bind fun t233 => (if t233 = true then ((spec_l12Fits.f k a0_0 a0_1 a0_2 a0_3 l0_4 l0_5).bind fun t234 => (if t234 = true then ((spec_l12Toml.f k a0_0 a0_1 a0_2 a0_3 l0_4 l0_5 (⟨#[]⟩ : ByteArray)).bind fun t235 => (some (t235, true))) else (some ((⟨#[]⟩ : ByteArray), false)))) else (some ((⟨#[]⟩ : ByteArray), false)))) = some (r1, r2) := h
 clear h
 replace H := Option.bind_eq_some_iff.mp H
 obtain ⟨t233, A20, H⟩ := H
 replace H : (if t233 = true then ((spec_l12Fits.f k a0_0 a0_1 a0_2 a0_3 l0_4 l0_5).bind fun t234 => (if t234 = true then ((spec_l12Toml.f k a0_0 a0_1 a0_2 a0_3 l0_4 l0_5 (⟨#[]⟩ : ByteArray)).bind fun t235 => (some (t235, true))) else (some ((⟨#[]⟩ : ByteArray), false)))) else (some ((⟨#[]⟩ : ByteArray), false))) = some (r1, r2) := H
 have A2 := zA A20
 clear A20
 by_cases c3 : t233 = true
 ·subst c3
  have H1 : ((spec_l12Fits.f k a0_0 a0_1 a0_2 a0_3 l0_4 l0_5).bind fun t234 => (if t234 = true then ((spec_l12Toml.f k a0_0 a0_1 a0_2 a0_3 l0_4 l0_5 (⟨#[]⟩ : ByteArray)).bind fun t235 => (some (t235, true))) else (some ((⟨#[]⟩ : ByteArray), false)))) = some (r1, r2) := by rw [if_pos rfl] at H; exact H
  clear H
  have H := H1
  clear H1
  replace H := Option.bind_eq_some_iff.mp H
  obtain ⟨t234, A40, H⟩ := H
  replace H : (if t234 = true then ((spec_l12Toml.f k a0_0 a0_1 a0_2 a0_3 l0_4 l0_5 (⟨#[]⟩ : ByteArray)).bind fun t235 => (some (t235, true))) else (some ((⟨#[]⟩ : ByteArray), false))) = some (r1, r2) := H
  have A4 := zA A40
  clear A40
  by_cases c5 : t234 = true
  ·subst c5
   have H1 : ((spec_l12Toml.f k a0_0 a0_1 a0_2 a0_3 l0_4 l0_5 (⟨#[]⟩ : ByteArray)).bind fun t235 => (some (t235, true))) = some (r1, r2) := by rw [if_pos rfl] at H; exact H
   clear H
   have H := H1
   clear H1
   replace H := Option.bind_eq_some_iff.mp H
   obtain ⟨t235, A60, H⟩ := H
   replace H : (some (t235, true)) = some (r1, r2) := H
   have A6 := zA A60
   clear A60
   simp only [Option.some.injEq, Prod.mk.injEq] at H
   obtain ⟨rfl, rfl⟩ := H
   go_enter Tryd.func5, Tryd.ntmps5
   go_wp2_with (first | ((with_reducible refine zS (N := 1) rfl ?_); refine zW ?hg (N := 1) ?hd (cs := #[.int .i64 a0_0, .int .i64 a0_1, .int .i64 a0_2, .string a0_3, .slice A0_4 l0_4.length c0_4, .slice A0_5 l0_5.length c0_5]) (t := 34) ?hr ?_; (case hd => rfl); (case hg => rfl); (case hr => first | (go_simp; done) | (go_simp; rfl)); intro gb232 hg w7 hbox hb; have n0_ := zA (zP apA hb); have n1_ := zA (hbox); have n2_ := zA ((by rw [hg]; exact (zQ apA) : w.heap.size ≤ gb232)); have n3_ := zA ((by rw [hg]; exact (zQ apA) : w.heap.size ≤ gb232)); clear HB; have HB := n0_; have BK232 := n1_; have GW232 := n2_; have GE232 := n3_; clear n0_ n1_ n2_ n3_; clear hb hbox hg; obtain ⟨hcz8_0, hcz8_1, hcz8_2, hcz8_3, hcz8_4, hcz8_5, hfz8_0, hfz8_1, hfz8_2, hfz8_3, hfz8_4, hfz8_5⟩ := zb6 BK232.out) | ((with_reducible refine zT (f := 11) rfl ?_); refine goesL_ (some 5) rfl rfl Tryd.func11 (by kernel_rfl) rfl #[.agg #[.int .i64 a0_0, .int .i64 a0_1, .int .i64 a0_2, .string a0_3, .slice A0_4 l0_4.length c0_4, .slice A0_5 l0_5.length c0_5]] rfl apE ?_; (with_reducible refine (spec_ValueOk.calls k a0_0 a0_1 a0_2 a0_3 _ _ l0_4 _ _ l0_5 true _ ?side1 ?side2 ?side3 ?side4 A2.out).mono ?_); (case side1 => repeat (first | exact (Kd.C_below HR0_4.out HB.out) | (with_reducible refine Kd.C_alloc ?_ _) | (with_reducible refine Kd.C_drewN ?_ _) | (with_reducible refine Kd.C_drew ?_))); (case side2 => exact HC0_4.out); (case side3 => repeat (first | exact (Kd.C_below HR0_5.out HB.out) | (with_reducible refine Kd.C_alloc ?_ _) | (with_reducible refine Kd.C_drewN ?_ _) | (with_reducible refine Kd.C_drew ?_))); (case side4 => exact HC0_5.out); rintro e w9 ⟨rfl, hb⟩; refine ⟨_, rfl, ?_⟩; have n0_ := zA (zN (g := gb232) (o := .cells #[.int .i64 a0_0, .int .i64 a0_1, .int .i64 a0_2, .string a0_3, .slice A0_4 l0_4.length c0_4, .slice A0_5 l0_5.length c0_5] 34 (0, 0)) (by (with_reducible repeat (first | refine zB ?_ _ | refine zD ?_ | refine zC ?_ _)); exact BK232.out) hb); have n1_ := zA (zP (by repeat (first | (with_reducible first | exact HB.out | apply zG | apply zE | apply zF | refine zH ?_ GE232.out) | exact HB.out)) hb); clear BK232; clear HB; have BK232 := n0_; have HB := n1_; clear n0_ n1_; (try clear hb); (try clear hb2); (try clear hk); (try clear hi); obtain ⟨hcz10_0, hcz10_1, hcz10_2, hcz10_3, hcz10_4, hcz10_5, hfz10_0, hfz10_1, hfz10_2, hfz10_3, hfz10_4, hfz10_5⟩ := zb6 BK232.out) | (go_at_call 12; (with_reducible refine (spec_l12Fits.calls k a0_0 a0_1 a0_2 a0_3 _ _ l0_4 _ _ l0_5 true _ ?side1 ?side2 ?side3 ?side4 A4.out).mono ?_); (case side1 => repeat (first | exact (Kd.C_below HR0_4.out HB.out) | (with_reducible refine Kd.C_alloc ?_ _) | (with_reducible refine Kd.C_drewN ?_ _) | (with_reducible refine Kd.C_drew ?_))); (case side2 => exact HC0_4.out); (case side3 => repeat (first | exact (Kd.C_below HR0_5.out HB.out) | (with_reducible refine Kd.C_alloc ?_ _) | (with_reducible refine Kd.C_drewN ?_ _) | (with_reducible refine Kd.C_drew ?_))); (case side4 => exact HC0_5.out); rintro e w11 ⟨rfl, hb⟩; have n0_ := zA (zN (g := gb232) (o := .cells #[.int .i64 a0_0, .int .i64 a0_1, .int .i64 a0_2, .string a0_3, .slice A0_4 l0_4.length c0_4, .slice A0_5 l0_5.length c0_5] 34 (0, 0)) (by (with_reducible repeat (first | refine zB ?_ _ | refine zD ?_ | refine zC ?_ _)); exact BK232.out) hb); have n1_ := zA (zP (by repeat (first | (with_reducible first | exact HB.out | apply zG | apply zE | apply zF | refine zH ?_ GE232.out) | exact HB.out)) hb); clear BK232; clear HB; have BK232 := n0_; have HB := n1_; clear n0_ n1_; (try clear hb); (try clear hb2); (try clear hk); (try clear hi); obtain ⟨hcz12_0, hcz12_1, hcz12_2, hcz12_3, hcz12_4, hcz12_5, hfz12_0, hfz12_1, hfz12_2, hfz12_3, hfz12_4, hfz12_5⟩ := zb6 BK232.out) | ((with_reducible refine zT (f := 13) rfl ?_); refine goesL_ (some 13) rfl rfl Tryd.func13 (by kernel_rfl) rfl #[.agg #[.int .i64 a0_0, .int .i64 a0_1, .int .i64 a0_2, .string a0_3, .slice A0_4 l0_4.length c0_4, .slice A0_5 l0_5.length c0_5], .string (⟨#[]⟩ : ByteArray)] rfl apE ?_; (with_reducible refine (spec_l12Toml.calls k a0_0 a0_1 a0_2 a0_3 _ _ l0_4 _ _ l0_5 (⟨#[]⟩ : ByteArray) t235 _ ?side1 ?side2 ?side3 ?side4 A6.out).mono ?_); (case side1 => repeat (first | exact (Kd.C_below HR0_4.out HB.out) | (with_reducible refine Kd.C_alloc ?_ _) | (with_reducible refine Kd.C_drewN ?_ _) | (with_reducible refine Kd.C_drew ?_))); (case side2 => exact HC0_4.out); (case side3 => repeat (first | exact (Kd.C_below HR0_5.out HB.out) | (with_reducible refine Kd.C_alloc ?_ _) | (with_reducible refine Kd.C_drewN ?_ _) | (with_reducible refine Kd.C_drew ?_))); (case side4 => exact HC0_5.out); rintro e w13 ⟨rfl, hb⟩; refine ⟨_, rfl, ?_⟩; have n0_ := zA (zP apA hb); clear HB; have HB := n0_; clear n0_; (try clear hb); (try clear hb2); (try clear hk); (try clear hi)))
   go_ret2
   exact ⟨apD, apA⟩
  ·replace c5 := Bool.eq_false_iff.mpr c5
   subst c5
   have H1 : (some ((⟨#[]⟩ : ByteArray), false)) = some (r1, r2) := by rw [if_neg (show ¬ (false = true) by decide)] at H; exact H
   clear H
   have H := H1
   clear H1
   simp only [Option.some.injEq, Prod.mk.injEq] at H
   obtain ⟨rfl, rfl⟩ := H
   go_enter Tryd.func5, Tryd.ntmps5
   go_wp2_with (first | ((with_reducible refine zS (N := 1) rfl ?_); refine zW ?hg (N := 1) ?hd (cs := #[.int .i64 a0_0, .int .i64 a0_1, .int .i64 a0_2, .string a0_3, .slice A0_4 l0_4.length c0_4, .slice A0_5 l0_5.length c0_5]) (t := 34) ?hr ?_; (case hd => rfl); (case hg => rfl); (case hr => first | (go_simp; done) | (go_simp; rfl)); intro gb232 hg w14 hbox hb; have n0_ := zA (zP apA hb); have n1_ := zA (hbox); have n2_ := zA ((by rw [hg]; exact (zQ apA) : w.heap.size ≤ gb232)); have n3_ := zA ((by rw [hg]; exact (zQ apA) : w.heap.size ≤ gb232)); clear HB; have HB := n0_; have BK232 := n1_; have GW232 := n2_; have GE232 := n3_; clear n0_ n1_ n2_ n3_; clear hb hbox hg; obtain ⟨hcz15_0, hcz15_1, hcz15_2, hcz15_3, hcz15_4, hcz15_5, hfz15_0, hfz15_1, hfz15_2, hfz15_3, hfz15_4, hfz15_5⟩ := zb6 BK232.out) | ((with_reducible refine zT (f := 11) rfl ?_); refine goesL_ (some 5) rfl rfl Tryd.func11 (by kernel_rfl) rfl #[.agg #[.int .i64 a0_0, .int .i64 a0_1, .int .i64 a0_2, .string a0_3, .slice A0_4 l0_4.length c0_4, .slice A0_5 l0_5.length c0_5]] rfl apE ?_; (with_reducible refine (spec_ValueOk.calls k a0_0 a0_1 a0_2 a0_3 _ _ l0_4 _ _ l0_5 true _ ?side1 ?side2 ?side3 ?side4 A2.out).mono ?_); (case side1 => repeat (first | exact (Kd.C_below HR0_4.out HB.out) | (with_reducible refine Kd.C_alloc ?_ _) | (with_reducible refine Kd.C_drewN ?_ _) | (with_reducible refine Kd.C_drew ?_))); (case side2 => exact HC0_4.out); (case side3 => repeat (first | exact (Kd.C_below HR0_5.out HB.out) | (with_reducible refine Kd.C_alloc ?_ _) | (with_reducible refine Kd.C_drewN ?_ _) | (with_reducible refine Kd.C_drew ?_))); (case side4 => exact HC0_5.out); rintro e w16 ⟨rfl, hb⟩; refine ⟨_, rfl, ?_⟩; have n0_ := zA (zN (g := gb232) (o := .cells #[.int .i64 a0_0, .int .i64 a0_1, .int .i64 a0_2, .string a0_3, .slice A0_4 l0_4.length c0_4, .slice A0_5 l0_5.length c0_5] 34 (0, 0)) (by (with_reducible repeat (first | refine zB ?_ _ | refine zD ?_ | refine zC ?_ _)); exact BK232.out) hb); have n1_ := zA (zP (by repeat (first | (with_reducible first | exact HB.out | apply zG | apply zE | apply zF | refine zH ?_ GE232.out) | exact HB.out)) hb); clear BK232; clear HB; have BK232 := n0_; have HB := n1_; clear n0_ n1_; (try clear hb); (try clear hb2); (try clear hk); (try clear hi); obtain ⟨hcz17_0, hcz17_1, hcz17_2, hcz17_3, hcz17_4, hcz17_5, hfz17_0, hfz17_1, hfz17_2, hfz17_3, hfz17_4, hfz17_5⟩ := zb6 BK232.out) | (go_at_call 12; (with_reducible refine (spec_l12Fits.calls k a0_0 a0_1 a0_2 a0_3 _ _ l0_4 _ _ l0_5 false _ ?side1 ?side2 ?side3 ?side4 A4.out).mono ?_); (case side1 => repeat (first | exact (Kd.C_below HR0_4.out HB.out) | (with_reducible refine Kd.C_alloc ?_ _) | (with_reducible refine Kd.C_drewN ?_ _) | (with_reducible refine Kd.C_drew ?_))); (case side2 => exact HC0_4.out); (case side3 => repeat (first | exact (Kd.C_below HR0_5.out HB.out) | (with_reducible refine Kd.C_alloc ?_ _) | (with_reducible refine Kd.C_drewN ?_ _) | (with_reducible refine Kd.C_drew ?_))); (case side4 => exact HC0_5.out); rintro e w18 ⟨rfl, hb⟩; have n0_ := zA (zP apA hb); clear HB; have HB := n0_; clear n0_; (try clear hb); (try clear hb2); (try clear hk); (try clear hi)))
   go_ret2
   exact ⟨apD, apA⟩
 ·replace c3 := Bool.eq_false_iff.mpr c3
  subst c3
  have H1 : (some ((⟨#[]⟩ : ByteArray), false)) = some (r1, r2) := by rw [if_neg (show ¬ (false = true) by decide)] at H; exact H
  clear H
  have H := H1
  clear H1
  simp only [Option.some.injEq, Prod.mk.injEq] at H
  obtain ⟨rfl, rfl⟩ := H
  go_enter Tryd.func5, Tryd.ntmps5
  go_wp2_with (first | ((with_reducible refine zS (N := 1) rfl ?_); refine zW ?hg (N := 1) ?hd (cs := #[.int .i64 a0_0, .int .i64 a0_1, .int .i64 a0_2, .string a0_3, .slice A0_4 l0_4.length c0_4, .slice A0_5 l0_5.length c0_5]) (t := 34) ?hr ?_; (case hd => rfl); (case hg => rfl); (case hr => first | (go_simp; done) | (go_simp; rfl)); intro gb232 hg w19 hbox hb; have n0_ := zA (zP apA hb); have n1_ := zA (hbox); have n2_ := zA ((by rw [hg]; exact (zQ apA) : w.heap.size ≤ gb232)); have n3_ := zA ((by rw [hg]; exact (zQ apA) : w.heap.size ≤ gb232)); clear HB; have HB := n0_; have BK232 := n1_; have GW232 := n2_; have GE232 := n3_; clear n0_ n1_ n2_ n3_; clear hb hbox hg; obtain ⟨hcz20_0, hcz20_1, hcz20_2, hcz20_3, hcz20_4, hcz20_5, hfz20_0, hfz20_1, hfz20_2, hfz20_3, hfz20_4, hfz20_5⟩ := zb6 BK232.out) | ((with_reducible refine zT (f := 11) rfl ?_); refine goesL_ (some 5) rfl rfl Tryd.func11 (by kernel_rfl) rfl #[.agg #[.int .i64 a0_0, .int .i64 a0_1, .int .i64 a0_2, .string a0_3, .slice A0_4 l0_4.length c0_4, .slice A0_5 l0_5.length c0_5]] rfl apE ?_; (with_reducible refine (spec_ValueOk.calls k a0_0 a0_1 a0_2 a0_3 _ _ l0_4 _ _ l0_5 false _ ?side1 ?side2 ?side3 ?side4 A2.out).mono ?_); (case side1 => repeat (first | exact (Kd.C_below HR0_4.out HB.out) | (with_reducible refine Kd.C_alloc ?_ _) | (with_reducible refine Kd.C_drewN ?_ _) | (with_reducible refine Kd.C_drew ?_))); (case side2 => exact HC0_4.out); (case side3 => repeat (first | exact (Kd.C_below HR0_5.out HB.out) | (with_reducible refine Kd.C_alloc ?_ _) | (with_reducible refine Kd.C_drewN ?_ _) | (with_reducible refine Kd.C_drew ?_))); (case side4 => exact HC0_5.out); rintro e w21 ⟨rfl, hb⟩; refine ⟨_, rfl, ?_⟩; have n0_ := zA (zP apA hb); clear HB; have HB := n0_; clear n0_; (try clear hb); (try clear hb2); (try clear hk); (try clear hi)))
  go_ret2
  exact ⟨apD, apA⟩


mutual
def impl_Value_30_at_flat_1.f : Nat → List (S34) → Option (Bool)
 | 0, _ => none
 | k + 1, l0 => (impl_Value_40_at_flat_1.f k l0).bind fun t267 => (some (decide (t267 ≥ 0)))
def impl_flat.f : Nat → Int → Int → Int → ByteArray → List (S34) → List ByteArray → Option (Bool)
 | 0, _, _, _, _, _, _ => none
 | k + 1, a0_0, a0_1, a0_2, a0_3, l0_4, l0_5 => if a0_0 = 0 then (some false) else (if a0_0 = 6 then (some false) else ((impl_Value_30_at_flat_1.f k l0_4).bind fun t269 => (some (!t269))))
def impl_Value_40_at_flat_1.l0 : Nat → List (S34) → Int → Int → Option (Int)
 | 0, _, _, _ => none
 | k + 1, x0, x7, x8 => if x8 < x7 then (if 0 ≤ x8 then (if x8 < (x0.length : Int) then ((impl_flat_1.f k ((rd_T34 x0 x8).f0) ((rd_T34 x0 x8).f1.f0) ((rd_T34 x0 x8).f1.f1) ((rd_T34 x0 x8).f2) ((rd_T34 x0 x8).f3) ((rd_T34 x0 x8).f4)).bind fun t271 => (if t271 = true then (some x8) else (impl_Value_40_at_flat_1.l0 k x0 x7 (wrap64 (x8 + 1))))) else (none)) else (none)) else (some (-1))
def impl_Value_40_at_flat_1.f : Nat → List (S34) → Option (Int)
 | 0, _ => none
 | k + 1, l0 => impl_Value_40_at_flat_1.l0 k l0 (l0.length : Int) 0
def impl_flat_1.f : Nat → Int → Int → Int → ByteArray → List (S34) → List ByteArray → Option (Bool)
 | 0, _, _, _, _, _, _ => none
 | k + 1, a0_0, a0_1, a0_2, a0_3, l0_4, l0_5 => (impl_flat.f k a0_0 a0_1 a0_2 a0_3 l0_4 l0_5).bind fun t273 => (some (!t273))
end
theorem impl_Value_30_at_flat_1.G.mono_l : ∀ k, (∀ y0, LeO (impl_Value_30_at_flat_1.f k y0) (impl_Value_30_at_flat_1.f (k + 1) y0)) ∧ (∀ y0 y1 y2 y3 y4 y5, LeO (impl_flat.f k y0 y1 y2 y3 y4 y5) (impl_flat.f (k + 1) y0 y1 y2 y3 y4 y5)) ∧ (∀ y0, LeO (impl_Value_40_at_flat_1.f k y0) (impl_Value_40_at_flat_1.f (k + 1) y0)) ∧ (∀ y0 y1 y2, LeO (impl_Value_40_at_flat_1.l0 k y0 y1 y2) (impl_Value_40_at_flat_1.l0 (k + 1) y0 y1 y2)) ∧ (∀ y0 y1 y2 y3 y4 y5, LeO (impl_flat_1.f k y0 y1 y2 y3 y4 y5) (impl_flat_1.f (k + 1) y0 y1 y2 y3 y4 y5))
 | 0 => ⟨fun _ r h => by simp [impl_Value_30_at_flat_1.f] at h, fun _ _ _ _ _ _ r h => by simp [impl_flat.f] at h, fun _ r h => by simp [impl_Value_40_at_flat_1.f] at h, fun _ _ _ r h => by simp [impl_Value_40_at_flat_1.l0] at h, fun _ _ _ _ _ _ r h => by simp [impl_flat_1.f] at h⟩
 | k + 1 => by
  obtain ⟨ih0, ih1, ih2, ih3, ih4⟩ := impl_Value_30_at_flat_1.G.mono_l k
  refine ⟨?_, ?_, ?_, ?_, ?_⟩
  ·intro y0
   unfold impl_Value_30_at_flat_1.f
   repeat' first
   | (with_reducible exact ih0 _)
   | (with_reducible exact ih1 _ _ _ _ _ _)
   | (with_reducible exact ih2 _)
   | (with_reducible exact ih3 _ _ _)
   | (with_reducible exact ih4 _ _ _ _ _ _)
   | (with_reducible exact LeO.refl _)
   | (with_reducible exact LeO.none _)
   | (with_reducible refine LeO.ite ?_ ?_)
   | (with_reducible refine LeO.bind ?_ (fun _ => ?_))
   | exact ih0 _
   | exact ih1 _ _ _ _ _ _
   | exact ih2 _
   | exact ih3 _ _ _
   | exact ih4 _ _ _ _ _ _
  ·intro y0 y1 y2 y3 y4 y5
   unfold impl_flat.f
   repeat' first
   | (with_reducible exact ih0 _)
   | (with_reducible exact ih1 _ _ _ _ _ _)
   | (with_reducible exact ih2 _)
   | (with_reducible exact ih3 _ _ _)
   | (with_reducible exact ih4 _ _ _ _ _ _)
   | (with_reducible exact LeO.refl _)
   | (with_reducible exact LeO.none _)
   | (with_reducible refine LeO.ite ?_ ?_)
   | (with_reducible refine LeO.bind ?_ (fun _ => ?_))
   | exact ih0 _
   | exact ih1 _ _ _ _ _ _
   | exact ih2 _
   | exact ih3 _ _ _
   | exact ih4 _ _ _ _ _ _
  ·intro y0
   unfold impl_Value_40_at_flat_1.f
   repeat' first
   | (with_reducible exact ih0 _)
   | (with_reducible exact ih1 _ _ _ _ _ _)
   | (with_reducible exact ih2 _)
   | (with_reducible exact ih3 _ _ _)
   | (with_reducible exact ih4 _ _ _ _ _ _)
   | (with_reducible exact LeO.refl _)
   | (with_reducible exact LeO.none _)
   | (with_reducible refine LeO.ite ?_ ?_)
   | (with_reducible refine LeO.bind ?_ (fun _ => ?_))
   | exact ih0 _
   | exact ih1 _ _ _ _ _ _
   | exact ih2 _
   | exact ih3 _ _ _
   | exact ih4 _ _ _ _ _ _
  ·intro y0 y1 y2
   unfold impl_Value_40_at_flat_1.l0
   repeat' first
   | (with_reducible exact ih0 _)
   | (with_reducible exact ih1 _ _ _ _ _ _)
   | (with_reducible exact ih2 _)
   | (with_reducible exact ih3 _ _ _)
   | (with_reducible exact ih4 _ _ _ _ _ _)
   | (with_reducible exact LeO.refl _)
   | (with_reducible exact LeO.none _)
   | (with_reducible refine LeO.ite ?_ ?_)
   | (with_reducible refine LeO.bind ?_ (fun _ => ?_))
   | exact ih0 _
   | exact ih1 _ _ _ _ _ _
   | exact ih2 _
   | exact ih3 _ _ _
   | exact ih4 _ _ _ _ _ _
  ·intro y0 y1 y2 y3 y4 y5
   unfold impl_flat_1.f
   repeat' first
   | (with_reducible exact ih0 _)
   | (with_reducible exact ih1 _ _ _ _ _ _)
   | (with_reducible exact ih2 _)
   | (with_reducible exact ih3 _ _ _)
   | (with_reducible exact ih4 _ _ _ _ _ _)
   | (with_reducible exact LeO.refl _)
   | (with_reducible exact LeO.none _)
   | (with_reducible refine LeO.ite ?_ ?_)
   | (with_reducible refine LeO.bind ?_ (fun _ => ?_))
   | exact ih0 _
   | exact ih1 _ _ _ _ _ _
   | exact ih2 _
   | exact ih3 _ _ _
   | exact ih4 _ _ _ _ _ _
theorem impl_Value_30_at_flat_1.mono : ∀ a0 k, LeO (impl_Value_30_at_flat_1.f k a0) (impl_Value_30_at_flat_1.f (k + 1) a0) := fun a0 k => (impl_Value_30_at_flat_1.G.mono_l k).1 a0
theorem impl_flat.mono : ∀ a0 a1 a2 a3 a4 a5 k, LeO (impl_flat.f k a0 a1 a2 a3 a4 a5) (impl_flat.f (k + 1) a0 a1 a2 a3 a4 a5) := fun a0 a1 a2 a3 a4 a5 k => (impl_Value_30_at_flat_1.G.mono_l k).2.1 a0 a1 a2 a3 a4 a5
theorem impl_Value_40_at_flat_1.mono : ∀ a0 k, LeO (impl_Value_40_at_flat_1.f k a0) (impl_Value_40_at_flat_1.f (k + 1) a0) := fun a0 k => (impl_Value_30_at_flat_1.G.mono_l k).2.2.1 a0
theorem impl_flat_1.mono : ∀ a0 a1 a2 a3 a4 a5 k, LeO (impl_flat_1.f k a0 a1 a2 a3 a4 a5) (impl_flat_1.f (k + 1) a0 a1 a2 a3 a4 a5) := fun a0 a1 a2 a3 a4 a5 k => (impl_Value_30_at_flat_1.G.mono_l k).2.2.2.2 a0 a1 a2 a3 a4 a5
abbrev impl_Value_30_at_flat_1.Spec (k : Nat) : Prop := ∀ (A0 : Option Addr) (c0 : Nat) (l0 : List (S34))  (r : Bool) (w : World) (hr0 : Kd.C k34 w A0 l0.length l0) (hc0 : l0.length ≤ c0) (h : impl_Value_30_at_flat_1.f k l0 = some r),
  Calls Tryd.prog 30 #[.slice A0 l0.length c0, .func (.func 41) #[] #[]] w fun e w' => e = .returned (.bool r) ∧ Below w.heap.size w w'
abbrev impl_flat.Spec (k : Nat) : Prop := ∀ (a0_0 : Int) (a0_1 : Int) (a0_2 : Int) (a0_3 : ByteArray) (A0_4 : Option Addr) (c0_4 : Nat) (l0_4 : List (S34)) (A0_5 : Option Addr) (c0_5 : Nat) (l0_5 : List ByteArray) (r : Bool) (w : World) (hr0_4 : Kd.C k34 w A0_4 l0_4.length l0_4) (hc0_4 : l0_4.length ≤ c0_4) (hr0_5 : Kd.C Kd.string w A0_5 l0_5.length l0_5) (hc0_5 : l0_5.length ≤ c0_5) (h : impl_flat.f k a0_0 a0_1 a0_2 a0_3 l0_4 l0_5 = some r),
  Calls Tryd.prog 32 #[.agg #[.int .i64 a0_0, .int .i64 a0_1, .int .i64 a0_2, .string a0_3, .slice A0_4 l0_4.length c0_4, .slice A0_5 l0_5.length c0_5]] w fun e w' => e = .returned (.bool r) ∧ Below w.heap.size w w'
abbrev impl_Value_40_at_flat_1.Spec (k : Nat) : Prop := ∀ (A0 : Option Addr) (c0 : Nat) (l0 : List (S34))  (r : Int) (w : World) (hr0 : Kd.C k34 w A0 l0.length l0) (hc0 : l0.length ≤ c0) (h : impl_Value_40_at_flat_1.f k l0 = some r),
  Calls Tryd.prog 40 #[.slice A0 l0.length c0, .func (.func 41) #[] #[]] w fun e w' => e = .returned (.int .i64 r) ∧ Below w.heap.size w w'
abbrev impl_flat_1.Spec (k : Nat) : Prop := ∀ (a0_0 : Int) (a0_1 : Int) (a0_2 : Int) (a0_3 : ByteArray) (A0_4 : Option Addr) (c0_4 : Nat) (l0_4 : List (S34)) (A0_5 : Option Addr) (c0_5 : Nat) (l0_5 : List ByteArray) (r : Bool) (w : World) (hr0_4 : Kd.C k34 w A0_4 l0_4.length l0_4) (hc0_4 : l0_4.length ≤ c0_4) (hr0_5 : Kd.C Kd.string w A0_5 l0_5.length l0_5) (hc0_5 : l0_5.length ≤ c0_5) (h : impl_flat_1.f k a0_0 a0_1 a0_2 a0_3 l0_4 l0_5 = some r),
  Calls Tryd.prog 41 #[.agg #[.int .i64 a0_0, .int .i64 a0_1, .int .i64 a0_2, .string a0_3, .slice A0_4 l0_4.length c0_4, .slice A0_5 l0_5.length c0_5]] w fun e w' => e = .returned (.bool r) ∧ Below w.heap.size w w'
set_option maxHeartbeats 8000000 in
set_option maxRecDepth 100000 in
theorem impl_Value_30_at_flat_1.step (k : Nat) (ih_impl_Value_30_at_flat_1 : ∀ m, m < k → impl_Value_30_at_flat_1.Spec m) (ih_impl_flat : ∀ m, m < k → impl_flat.Spec m) (ih_impl_Value_40_at_flat_1 : ∀ m, m < k → impl_Value_40_at_flat_1.Spec m) (ih_impl_flat_1 : ∀ m, m < k → impl_flat_1.Spec m) : impl_Value_30_at_flat_1.Spec k := by
 intro A0 c0 l0 r w hr0 hc0 h
 cases k with
 | zero => exact absurd h (by simp [impl_Value_30_at_flat_1.f])
 | succ k =>
 simp only [impl_Value_30_at_flat_1.f] at h
 have HR0 := zA hr0
 have HC0 := zA hc0
 clear hr0 hc0
 have HB := zA (yH w.heap.size w)
 have H : ((impl_Value_40_at_flat_1.f k l0).bind fun t267 => (some (decide (t267 ≥ 0)))) = some r := h
 clear h
 replace H := Option.bind_eq_some_iff.mp H
 obtain ⟨t267, A30, H⟩ := H
 have A3 := zA A30
 clear A30
 obtain rfl := yG H
 go_enter Tryd.func30, Tryd.ntmps30
 go_wp2_with (first | ((with_reducible refine zT (f := 40) rfl ?_); refine goesL_ (some 7) rfl rfl Tryd.func40 (by kernel_rfl) rfl #[.slice A0 l0.length c0, .func (.func 41) #[] #[]] rfl apE ?_; (with_reducible refine (ih_impl_Value_40_at_flat_1 k (by omega) _ _ l0 t267 _ ?side1 ?side2 A3.out).mono ?_); (case side1 => repeat (first | exact HR0.out | (with_reducible refine Kd.C_alloc ?_ _) | (with_reducible refine Kd.C_drewN ?_ _) | (with_reducible refine Kd.C_drew ?_))); (case side2 => exact HC0.out); rintro e w4 ⟨rfl, hb⟩; refine ⟨_, rfl, ?_⟩; have n0_ := zA (zP apA hb); clear HB; have HB := n0_; clear n0_; (try clear hb); (try clear hb2); (try clear hk); (try clear hi)))
 go_ret
 exact ⟨apD, apA⟩

set_option maxHeartbeats 8000000 in
set_option maxRecDepth 100000 in
theorem impl_flat.step (k : Nat) (ih_impl_Value_30_at_flat_1 : ∀ m, m < k → impl_Value_30_at_flat_1.Spec m) (ih_impl_flat : ∀ m, m < k → impl_flat.Spec m) (ih_impl_Value_40_at_flat_1 : ∀ m, m < k → impl_Value_40_at_flat_1.Spec m) (ih_impl_flat_1 : ∀ m, m < k → impl_flat_1.Spec m) : impl_flat.Spec k := by
 intro a0_0 a0_1 a0_2 a0_3 A0_4 c0_4 l0_4 A0_5 c0_5 l0_5 r w hr0_4 hc0_4 hr0_5 hc0_5 h
 cases k with
 | zero => exact absurd h (by simp [impl_flat.f])
 | succ k =>
 simp only [impl_flat.f] at h
 have hu34 := Tryd.underlying34
 have HR0_4 := zA hr0_4
 have HC0_4 := zA hc0_4
 clear hr0_4 hc0_4
 have HR0_5 := zA hr0_5
 have HC0_5 := zA hc0_5
 clear hr0_5 hc0_5
 have HB := zA (yH w.heap.size w)
 have H : (if a0_0 = 0 then (some false) else (if a0_0 = 6 then (some false) else ((impl_Value_30_at_flat_1.f k l0_4).bind fun t269 => (some (!t269))))) = some r := h
 clear h
 by_cases c2 : a0_0 = 0
 ·rw [if_pos c2] at H
  have c2b0 : (a0_0 == 0) = true := beq_iff_eq.mpr c2
  have c2b1 : (a0_0 != 0) = false := bne_eq_false_iff_eq.mpr c2
  clear c2
  obtain rfl := yG H
  go_enter Tryd.func32, Tryd.ntmps32
  go_wp2_with (first | ((with_reducible refine zS (N := 1) rfl ?_); refine zW ?hg (N := 1) ?hd (cs := #[.int .i64 a0_0, .int .i64 a0_1, .int .i64 a0_2, .string a0_3, .slice A0_4 l0_4.length c0_4, .slice A0_5 l0_5.length c0_5]) (t := 34) ?hr ?_; (case hd => rfl); (case hg => rfl); (case hr => first | (go_simp; done) | (go_simp; rfl)); intro gb268 hg w3 hbox hb; have n0_ := zA (zP apA hb); have n1_ := zA (hbox); have n2_ := zA ((by rw [hg]; exact (zQ apA) : w.heap.size ≤ gb268)); have n3_ := zA ((by rw [hg]; exact (zQ apA) : w.heap.size ≤ gb268)); clear HB; have HB := n0_; have BK268 := n1_; have GW268 := n2_; have GE268 := n3_; clear n0_ n1_ n2_ n3_; clear hb hbox hg; obtain ⟨hcz4_0, hcz4_1, hcz4_2, hcz4_3, hcz4_4, hcz4_5, hfz4_0, hfz4_1, hfz4_2, hfz4_3, hfz4_4, hfz4_5⟩ := zb6 BK268.out))
  go_ret
  exact ⟨apD, by repeat (first | (with_reducible first | exact HB.out | apply zG | apply zE | apply zF | refine zH ?_ GE268.out) | exact HB.out)⟩
 ·rw [if_neg c2] at H
  have c2b0 : (a0_0 == 0) = false := beq_eq_false_iff_ne.mpr c2
  have c2b1 : (a0_0 != 0) = true := bne_iff_ne.mpr c2
  by_cases c5 : a0_0 = 6
  ·rw [if_pos c5] at H
   have c5b0 : (a0_0 == 6) = true := beq_iff_eq.mpr c5
   have c5b1 : (a0_0 != 6) = false := bne_eq_false_iff_eq.mpr c5
   clear c5
   obtain rfl := yG H
   go_enter Tryd.func32, Tryd.ntmps32
   go_wp2_with (first | ((with_reducible refine zS (N := 1) rfl ?_); refine zW ?hg (N := 1) ?hd (cs := #[.int .i64 a0_0, .int .i64 a0_1, .int .i64 a0_2, .string a0_3, .slice A0_4 l0_4.length c0_4, .slice A0_5 l0_5.length c0_5]) (t := 34) ?hr ?_; (case hd => rfl); (case hg => rfl); (case hr => first | (go_simp; done) | (go_simp; rfl)); intro gb268 hg w6 hbox hb; have n0_ := zA (zP apA hb); have n1_ := zA (hbox); have n2_ := zA ((by rw [hg]; exact (zQ apA) : w.heap.size ≤ gb268)); have n3_ := zA ((by rw [hg]; exact (zQ apA) : w.heap.size ≤ gb268)); clear HB; have HB := n0_; have BK268 := n1_; have GW268 := n2_; have GE268 := n3_; clear n0_ n1_ n2_ n3_; clear hb hbox hg; obtain ⟨hcz7_0, hcz7_1, hcz7_2, hcz7_3, hcz7_4, hcz7_5, hfz7_0, hfz7_1, hfz7_2, hfz7_3, hfz7_4, hfz7_5⟩ := zb6 BK268.out))
   go_ret
   exact ⟨apD, by repeat (first | (with_reducible first | exact HB.out | apply zG | apply zE | apply zF | refine zH ?_ GE268.out) | exact HB.out)⟩
  ·rw [if_neg c5] at H
   have c5b0 : (a0_0 == 6) = false := beq_eq_false_iff_ne.mpr c5
   have c5b1 : (a0_0 != 6) = true := bne_iff_ne.mpr c5
   replace H := Option.bind_eq_some_iff.mp H
   obtain ⟨t269, A80, H⟩ := H
   have A8 := zA A80
   clear A80
   obtain rfl := yG H
   go_enter Tryd.func32, Tryd.ntmps32
   go_wp2_with (first | ((with_reducible refine zS (N := 1) rfl ?_); refine zW ?hg (N := 1) ?hd (cs := #[.int .i64 a0_0, .int .i64 a0_1, .int .i64 a0_2, .string a0_3, .slice A0_4 l0_4.length c0_4, .slice A0_5 l0_5.length c0_5]) (t := 34) ?hr ?_; (case hd => rfl); (case hg => rfl); (case hr => first | (go_simp; done) | (go_simp; rfl)); intro gb268 hg w9 hbox hb; have n0_ := zA (zP apA hb); have n1_ := zA (hbox); have n2_ := zA ((by rw [hg]; exact (zQ apA) : w.heap.size ≤ gb268)); have n3_ := zA ((by rw [hg]; exact (zQ apA) : w.heap.size ≤ gb268)); clear HB; have HB := n0_; have BK268 := n1_; have GW268 := n2_; have GE268 := n3_; clear n0_ n1_ n2_ n3_; clear hb hbox hg; obtain ⟨hcz10_0, hcz10_1, hcz10_2, hcz10_3, hcz10_4, hcz10_5, hfz10_0, hfz10_1, hfz10_2, hfz10_3, hfz10_4, hfz10_5⟩ := zb6 BK268.out) | (go_at_call 30; (with_reducible refine (ih_impl_Value_30_at_flat_1 k (by omega) _ _ l0_4 t269 _ ?side1 ?side2 A8.out).mono ?_); (case side1 => repeat (first | exact (Kd.C_below HR0_4.out HB.out) | (with_reducible refine Kd.C_alloc ?_ _) | (with_reducible refine Kd.C_drewN ?_ _) | (with_reducible refine Kd.C_drew ?_))); (case side2 => exact HC0_4.out); rintro e w11 ⟨rfl, hb⟩; have n0_ := zA (zP apA hb); clear HB; have HB := n0_; clear n0_; (try clear hb); (try clear hb2); (try clear hk); (try clear hi)))
   go_ret
   exact ⟨apD, apA⟩

set_option maxHeartbeats 8000000 in
set_option maxRecDepth 100000 in
theorem impl_Value_40_at_flat_1.step (k : Nat) (ih_impl_Value_30_at_flat_1 : ∀ m, m < k → impl_Value_30_at_flat_1.Spec m) (ih_impl_flat : ∀ m, m < k → impl_flat.Spec m) (ih_impl_Value_40_at_flat_1 : ∀ m, m < k → impl_Value_40_at_flat_1.Spec m) (ih_impl_flat_1 : ∀ m, m < k → impl_flat_1.Spec m) : impl_Value_40_at_flat_1.Spec k := by
 intro A0 c0 l0 r w hr0 hc0 h
 cases k with
 | zero => exact absurd h (by simp [impl_Value_40_at_flat_1.f])
 | succ k =>
 simp only [impl_Value_40_at_flat_1.f] at h
 have hu34 := Tryd.underlying34
 have HR0 := zA hr0
 have HC0 := zA hc0
 clear hr0 hc0
 have HB := zA (yH w.heap.size w)
 have H : (impl_Value_40_at_flat_1.l0 k l0 (l0.length : Int) 0) = some r := h
 clear h
 have H' := zA H
 clear H
 go_enter Tryd.func40, Tryd.ntmps40
 go_wp2
 go_loopg [8] k (fun kq v8 w' => ∃ (x8_1 : Int), v8 = .int .i64 x8_1 ∧ Aside0 (impl_Value_40_at_flat_1.l0 kq l0 (l0.length : Int) x8_1 = some r) ∧ Aside0 (kq ≤ k) ∧ Aside0 (Below w.heap.size w w'))
 case atStart => exact ⟨(0), apC, H', ⟨yJ _⟩, ⟨apA⟩⟩
 case round =>
  clear H'
  try clear p2
  obtain ⟨x8_1, rfl, HA, HK1, HB⟩ := hrel
  cases gk with
  | zero => exact absurd HA.out (by simp [impl_Value_40_at_flat_1.l0])
  | succ k1 =>
   have H := HA.out
   clear HA
   simp only [impl_Value_40_at_flat_1.l0] at H
   by_cases c3 : x8_1 < (l0.length : Int)
   ·rw [if_pos c3] at H
    have c3b0 : decide (x8_1 < (l0.length : Int)) = true := yE c3
    clear c3
    by_cases c4 : 0 ≤ x8_1
    ·rw [if_pos c4] at H
     have c4b0 : decide (0 ≤ x8_1) = true := yE c4
     clear c4
     by_cases c5 : x8_1 < (l0.length : Int)
     ·rw [if_pos c5] at H
      have c5b0 : decide (x8_1 < (l0.length : Int)) = true := yE c5
      clear c5
      replace H := Option.bind_eq_some_iff.mp H
      obtain ⟨t271, A60, H⟩ := H
      have A6 := zA A60
      clear A60
      by_cases c7 : t271 = true
      ·subst c7
       have H1 := H; rw [if_pos rfl] at H1
       clear H
       have H := H1
       clear H1
       obtain rfl := yG H
       have p270 : 0 ≤ (x8_1 : Int) := yF apB
       have q270 : x8_1 < (l0.length : Int) := yF apB
       obtain ⟨ad270, A270_4, c270_4, A270_5, c270_5, e270, hx270_0, hx270_1, hx270_2, hx270_3, hx270_4, hx270_5, hl270_4, hi270_4, hl270_5, hi270_5⟩ := at_T34 HR0.out x8_1 p270 q270
       cases e270
       replace hx270_0 := (HB.out.cell (zR w _ hx270_0)).trans hx270_0
       replace hx270_1 := (HB.out.cell (zR w _ hx270_1)).trans hx270_1
       replace hx270_2 := (HB.out.cell (zR w _ hx270_2)).trans hx270_2
       replace hx270_3 := (HB.out.cell (zR w _ hx270_3)).trans hx270_3
       replace hx270_4 := (HB.out.cell (zR w _ hx270_4)).trans hx270_4
       replace hx270_5 := (HB.out.cell (zR w _ hx270_5)).trans hx270_5
       have HR270_4 := zA hi270_4
       have HC270_4 := zA hl270_4
       clear hi270_4 hl270_4
       have HR270_5 := zA hi270_5
       have HC270_5 := zA hl270_5
       clear hi270_5 hl270_5
       replace p270 := eq_true p270
       replace q270 := eq_true q270
       go_wp2_with (first | ((refine gate_calleev (f := 41) rfl rfl ?_); refine goesvL_ (some 16) rfl rfl Tryd.func41 (by kernel_rfl) rfl #[.agg #[.int .i64 ((rd_T34 l0 x8_1).f0), .int .i64 ((rd_T34 l0 x8_1).f1.f0), .int .i64 ((rd_T34 l0 x8_1).f1.f1), .string ((rd_T34 l0 x8_1).f2), .slice A270_4 ((rd_T34 l0 x8_1).f3).length c270_4, .slice A270_5 ((rd_T34 l0 x8_1).f4).length c270_5]] rfl rfl apE ?_; (with_reducible refine (ih_impl_flat_1 k1 (by have := HK1.out; omega) ((rd_T34 l0 x8_1).f0) ((rd_T34 l0 x8_1).f1.f0) ((rd_T34 l0 x8_1).f1.f1) ((rd_T34 l0 x8_1).f2) _ _ ((rd_T34 l0 x8_1).f3) _ _ ((rd_T34 l0 x8_1).f4) true _ ?side1 ?side2 ?side3 ?side4 A6.out).mono ?_); (case side1 => repeat (first | exact (Kd.C_below HR270_4.out HB.out) | (with_reducible refine Kd.C_alloc ?_ _) | (with_reducible refine Kd.C_drewN ?_ _) | (with_reducible refine Kd.C_drew ?_))); (case side2 => exact HC270_4.out); (case side3 => repeat (first | exact (Kd.C_below HR270_5.out HB.out) | (with_reducible refine Kd.C_alloc ?_ _) | (with_reducible refine Kd.C_drewN ?_ _) | (with_reducible refine Kd.C_drew ?_))); (case side4 => exact HC270_5.out); rintro e w8 ⟨rfl, hb⟩; refine ⟨_, rfl, ?_⟩; have n0_ := zA (zP apA hb); clear HB; have HB := n0_; clear n0_; (try clear hb); (try clear hb2); (try clear hk); (try clear hi)))
       go_ret
       exact ⟨apD, apA⟩
      ·replace c7 := Bool.eq_false_iff.mpr c7
       subst c7
       have H1 := H; rw [if_neg (show ¬ (false = true) by decide)] at H1
       clear H
       have H := H1
       clear H1
       have H' := zA H
       clear H
       have p270 : 0 ≤ (x8_1 : Int) := yF apB
       have q270 : x8_1 < (l0.length : Int) := yF apB
       obtain ⟨ad270, A270_4, c270_4, A270_5, c270_5, e270, hx270_0, hx270_1, hx270_2, hx270_3, hx270_4, hx270_5, hl270_4, hi270_4, hl270_5, hi270_5⟩ := at_T34 HR0.out x8_1 p270 q270
       cases e270
       replace hx270_0 := (HB.out.cell (zR w _ hx270_0)).trans hx270_0
       replace hx270_1 := (HB.out.cell (zR w _ hx270_1)).trans hx270_1
       replace hx270_2 := (HB.out.cell (zR w _ hx270_2)).trans hx270_2
       replace hx270_3 := (HB.out.cell (zR w _ hx270_3)).trans hx270_3
       replace hx270_4 := (HB.out.cell (zR w _ hx270_4)).trans hx270_4
       replace hx270_5 := (HB.out.cell (zR w _ hx270_5)).trans hx270_5
       have HR270_4 := zA hi270_4
       have HC270_4 := zA hl270_4
       clear hi270_4 hl270_4
       have HR270_5 := zA hi270_5
       have HC270_5 := zA hl270_5
       clear hi270_5 hl270_5
       replace p270 := eq_true p270
       replace q270 := eq_true q270
       go_wp2_with (first | ((refine gate_calleev (f := 41) rfl rfl ?_); refine goesvL_ (some 16) rfl rfl Tryd.func41 (by kernel_rfl) rfl #[.agg #[.int .i64 ((rd_T34 l0 x8_1).f0), .int .i64 ((rd_T34 l0 x8_1).f1.f0), .int .i64 ((rd_T34 l0 x8_1).f1.f1), .string ((rd_T34 l0 x8_1).f2), .slice A270_4 ((rd_T34 l0 x8_1).f3).length c270_4, .slice A270_5 ((rd_T34 l0 x8_1).f4).length c270_5]] rfl rfl apE ?_; (with_reducible refine (ih_impl_flat_1 k1 (by have := HK1.out; omega) ((rd_T34 l0 x8_1).f0) ((rd_T34 l0 x8_1).f1.f0) ((rd_T34 l0 x8_1).f1.f1) ((rd_T34 l0 x8_1).f2) _ _ ((rd_T34 l0 x8_1).f3) _ _ ((rd_T34 l0 x8_1).f4) false _ ?side1 ?side2 ?side3 ?side4 A6.out).mono ?_); (case side1 => repeat (first | exact (Kd.C_below HR270_4.out HB.out) | (with_reducible refine Kd.C_alloc ?_ _) | (with_reducible refine Kd.C_drewN ?_ _) | (with_reducible refine Kd.C_drew ?_))); (case side2 => exact HC270_4.out); (case side3 => repeat (first | exact (Kd.C_below HR270_5.out HB.out) | (with_reducible refine Kd.C_alloc ?_ _) | (with_reducible refine Kd.C_drewN ?_ _) | (with_reducible refine Kd.C_drew ?_))); (case side4 => exact HC270_5.out); rintro e w9 ⟨rfl, hb⟩; refine ⟨_, rfl, ?_⟩; have n0_ := zA (zP apA hb); clear HB; have HB := n0_; clear n0_; (try clear hb); (try clear hb2); (try clear hk); (try clear hi)))
       go_roundg k1
       case measure => have := HK1.out; omega
       case rel => exact ⟨(wrap64 (x8_1 + 1)), apC, H', ⟨by have := HK1.out; omega⟩, ⟨apA⟩⟩
     ·rw [if_neg c5] at H
      exact absurd H (by simp)
    ·rw [if_neg c4] at H
     exact absurd H (by simp)
   ·rw [if_neg c3] at H
    have c3b0 : decide (x8_1 < (l0.length : Int)) = false := decide_eq_false c3
    clear c3
    obtain rfl := yG H
    go_wp2
    go_ret
    exact ⟨apD, apA⟩

set_option maxHeartbeats 8000000 in
set_option maxRecDepth 100000 in
theorem impl_flat_1.step (k : Nat) (ih_impl_Value_30_at_flat_1 : ∀ m, m < k → impl_Value_30_at_flat_1.Spec m) (ih_impl_flat : ∀ m, m < k → impl_flat.Spec m) (ih_impl_Value_40_at_flat_1 : ∀ m, m < k → impl_Value_40_at_flat_1.Spec m) (ih_impl_flat_1 : ∀ m, m < k → impl_flat_1.Spec m) : impl_flat_1.Spec k := by
 intro a0_0 a0_1 a0_2 a0_3 A0_4 c0_4 l0_4 A0_5 c0_5 l0_5 r w hr0_4 hc0_4 hr0_5 hc0_5 h
 cases k with
 | zero => exact absurd h (by simp [impl_flat_1.f])
 | succ k =>
 simp only [impl_flat_1.f] at h
 have hu34 := Tryd.underlying34
 have HR0_4 := zA hr0_4
 have HC0_4 := zA hc0_4
 clear hr0_4 hc0_4
 have HR0_5 := zA hr0_5
 have HC0_5 := zA hc0_5
 clear hr0_5 hc0_5
 have HB := zA (yH w.heap.size w)
 have H : ((impl_flat.f k a0_0 a0_1 a0_2 a0_3 l0_4 l0_5).bind fun t273 => (some (!t273))) = some r := h
 clear h
 replace H := Option.bind_eq_some_iff.mp H
 obtain ⟨t273, A20, H⟩ := H
 have A2 := zA A20
 clear A20
 obtain rfl := yG H
 go_enter Tryd.func41, Tryd.ntmps41
 go_wp2_with (first | ((with_reducible refine zS (N := 1) rfl ?_); refine zW ?hg (N := 1) ?hd (cs := #[.int .i64 a0_0, .int .i64 a0_1, .int .i64 a0_2, .string a0_3, .slice A0_4 l0_4.length c0_4, .slice A0_5 l0_5.length c0_5]) (t := 34) ?hr ?_; (case hd => rfl); (case hg => rfl); (case hr => first | (go_simp; done) | (go_simp; rfl)); intro gb272 hg w3 hbox hb; have n0_ := zA (zP apA hb); have n1_ := zA (hbox); have n2_ := zA ((by rw [hg]; exact (zQ apA) : w.heap.size ≤ gb272)); have n3_ := zA ((by rw [hg]; exact (zQ apA) : w.heap.size ≤ gb272)); clear HB; have HB := n0_; have BK272 := n1_; have GW272 := n2_; have GE272 := n3_; clear n0_ n1_ n2_ n3_; clear hb hbox hg; obtain ⟨hcz4_0, hcz4_1, hcz4_2, hcz4_3, hcz4_4, hcz4_5, hfz4_0, hfz4_1, hfz4_2, hfz4_3, hfz4_4, hfz4_5⟩ := zb6 BK272.out) | ((with_reducible refine zT (f := 32) rfl ?_); refine goesL_ (some 4) rfl rfl Tryd.func32 (by kernel_rfl) rfl #[.agg #[.int .i64 a0_0, .int .i64 a0_1, .int .i64 a0_2, .string a0_3, .slice A0_4 l0_4.length c0_4, .slice A0_5 l0_5.length c0_5]] rfl apE ?_; (with_reducible refine (ih_impl_flat k (by omega) a0_0 a0_1 a0_2 a0_3 _ _ l0_4 _ _ l0_5 t273 _ ?side1 ?side2 ?side3 ?side4 A2.out).mono ?_); (case side1 => repeat (first | exact (Kd.C_below HR0_4.out HB.out) | (with_reducible refine Kd.C_alloc ?_ _) | (with_reducible refine Kd.C_drewN ?_ _) | (with_reducible refine Kd.C_drew ?_))); (case side2 => exact HC0_4.out); (case side3 => repeat (first | exact (Kd.C_below HR0_5.out HB.out) | (with_reducible refine Kd.C_alloc ?_ _) | (with_reducible refine Kd.C_drewN ?_ _) | (with_reducible refine Kd.C_drew ?_))); (case side4 => exact HC0_5.out); rintro e w5 ⟨rfl, hb⟩; refine ⟨_, rfl, ?_⟩; have n0_ := zA (zP apA hb); clear HB; have HB := n0_; clear n0_; (try clear hb); (try clear hb2); (try clear hk); (try clear hi)))
 go_ret
 exact ⟨apD, apA⟩

theorem impl_Value_30_at_flat_1.G.all (k : Nat) : impl_Value_30_at_flat_1.Spec k ∧ impl_flat.Spec k ∧ impl_Value_40_at_flat_1.Spec k ∧ impl_flat_1.Spec k := by
 induction k using Nat.strongRecOn with
 | _ k ih =>
  exact ⟨impl_Value_30_at_flat_1.step k (fun m hm => (ih m hm).1) (fun m hm => (ih m hm).2.1) (fun m hm => (ih m hm).2.2.1) (fun m hm => (ih m hm).2.2.2), impl_flat.step k (fun m hm => (ih m hm).1) (fun m hm => (ih m hm).2.1) (fun m hm => (ih m hm).2.2.1) (fun m hm => (ih m hm).2.2.2), impl_Value_40_at_flat_1.step k (fun m hm => (ih m hm).1) (fun m hm => (ih m hm).2.1) (fun m hm => (ih m hm).2.2.1) (fun m hm => (ih m hm).2.2.2), impl_flat_1.step k (fun m hm => (ih m hm).1) (fun m hm => (ih m hm).2.1) (fun m hm => (ih m hm).2.2.1) (fun m hm => (ih m hm).2.2.2)⟩
theorem impl_Value_30_at_flat_1.calls (k : Nat) : impl_Value_30_at_flat_1.Spec k := (impl_Value_30_at_flat_1.G.all k).1
theorem impl_flat.calls (k : Nat) : impl_flat.Spec k := (impl_Value_30_at_flat_1.G.all k).2.1
theorem impl_Value_40_at_flat_1.calls (k : Nat) : impl_Value_40_at_flat_1.Spec k := (impl_Value_30_at_flat_1.G.all k).2.2.1
theorem impl_flat_1.calls (k : Nat) : impl_flat_1.Spec k := (impl_Value_30_at_flat_1.G.all k).2.2.2


mutual
def impl_fits.f : Nat → Int → Int → Int → ByteArray → List (S34) → List ByteArray → Option (Bool)
 | 0, _, _, _, _, _, _ => none
 | k + 1, a0_0, a0_1, a0_2, a0_3, l0_4, l0_5 => if a0_0 = 6 then ((impl_Value_30_at_fits_1.f k l0_4).bind fun t275 => (some (!t275))) else (some false)
def impl_Value_30_at_fits_1.f : Nat → List (S34) → Option (Bool)
 | 0, _ => none
 | k + 1, l0 => (impl_Value_40_at_fits_1.f k l0).bind fun t276 => (some (decide (t276 ≥ 0)))
def impl_fits_1.f : Nat → Int → Int → Int → ByteArray → List (S34) → List ByteArray → Option (Bool)
 | 0, _, _, _, _, _, _ => none
 | k + 1, a0_0, a0_1, a0_2, a0_3, l0_4, l0_5 => (impl_flat.f k a0_0 a0_1 a0_2 a0_3 l0_4 l0_5).bind fun t278 => (if t278 = true then (some false) else ((impl_fits.f k a0_0 a0_1 a0_2 a0_3 l0_4 l0_5).bind fun t279 => (some (!t279))))
def impl_Value_40_at_fits_1.l0 : Nat → List (S34) → Int → Int → Option (Int)
 | 0, _, _, _ => none
 | k + 1, x0, x7, x8 => if x8 < x7 then (if 0 ≤ x8 then (if x8 < (x0.length : Int) then ((impl_fits_1.f k ((rd_T34 x0 x8).f0) ((rd_T34 x0 x8).f1.f0) ((rd_T34 x0 x8).f1.f1) ((rd_T34 x0 x8).f2) ((rd_T34 x0 x8).f3) ((rd_T34 x0 x8).f4)).bind fun t281 => (if t281 = true then (some x8) else (impl_Value_40_at_fits_1.l0 k x0 x7 (wrap64 (x8 + 1))))) else (none)) else (none)) else (some (-1))
def impl_Value_40_at_fits_1.f : Nat → List (S34) → Option (Int)
 | 0, _ => none
 | k + 1, l0 => impl_Value_40_at_fits_1.l0 k l0 (l0.length : Int) 0
end
theorem impl_fits.G.mono_l : ∀ k, (∀ y0 y1 y2 y3 y4 y5, LeO (impl_fits.f k y0 y1 y2 y3 y4 y5) (impl_fits.f (k + 1) y0 y1 y2 y3 y4 y5)) ∧ (∀ y0, LeO (impl_Value_30_at_fits_1.f k y0) (impl_Value_30_at_fits_1.f (k + 1) y0)) ∧ (∀ y0 y1 y2 y3 y4 y5, LeO (impl_fits_1.f k y0 y1 y2 y3 y4 y5) (impl_fits_1.f (k + 1) y0 y1 y2 y3 y4 y5)) ∧ (∀ y0, LeO (impl_Value_40_at_fits_1.f k y0) (impl_Value_40_at_fits_1.f (k + 1) y0)) ∧ (∀ y0 y1 y2, LeO (impl_Value_40_at_fits_1.l0 k y0 y1 y2) (impl_Value_40_at_fits_1.l0 (k + 1) y0 y1 y2))
 | 0 => ⟨fun _ _ _ _ _ _ r h => by simp [impl_fits.f] at h, fun _ r h => by simp [impl_Value_30_at_fits_1.f] at h, fun _ _ _ _ _ _ r h => by simp [impl_fits_1.f] at h, fun _ r h => by simp [impl_Value_40_at_fits_1.f] at h, fun _ _ _ r h => by simp [impl_Value_40_at_fits_1.l0] at h⟩
 | k + 1 => by
  obtain ⟨ih0, ih1, ih2, ih3, ih4⟩ := impl_fits.G.mono_l k
  refine ⟨?_, ?_, ?_, ?_, ?_⟩
  ·intro y0 y1 y2 y3 y4 y5
   unfold impl_fits.f
   repeat' first
   | (with_reducible exact ih0 _ _ _ _ _ _)
   | (with_reducible exact ih1 _)
   | (with_reducible exact ih2 _ _ _ _ _ _)
   | (with_reducible exact ih3 _)
   | (with_reducible exact ih4 _ _ _)
   | (with_reducible exact impl_flat.mono _ _ _ _ _ _ _)
   | (with_reducible exact LeO.refl _)
   | (with_reducible exact LeO.none _)
   | (with_reducible refine LeO.ite ?_ ?_)
   | (with_reducible refine LeO.bind ?_ (fun _ => ?_))
   | exact ih0 _ _ _ _ _ _
   | exact ih1 _
   | exact ih2 _ _ _ _ _ _
   | exact ih3 _
   | exact ih4 _ _ _
  ·intro y0
   unfold impl_Value_30_at_fits_1.f
   repeat' first
   | (with_reducible exact ih0 _ _ _ _ _ _)
   | (with_reducible exact ih1 _)
   | (with_reducible exact ih2 _ _ _ _ _ _)
   | (with_reducible exact ih3 _)
   | (with_reducible exact ih4 _ _ _)
   | (with_reducible exact impl_flat.mono _ _ _ _ _ _ _)
   | (with_reducible exact LeO.refl _)
   | (with_reducible exact LeO.none _)
   | (with_reducible refine LeO.ite ?_ ?_)
   | (with_reducible refine LeO.bind ?_ (fun _ => ?_))
   | exact ih0 _ _ _ _ _ _
   | exact ih1 _
   | exact ih2 _ _ _ _ _ _
   | exact ih3 _
   | exact ih4 _ _ _
  ·intro y0 y1 y2 y3 y4 y5
   unfold impl_fits_1.f
   repeat' first
   | (with_reducible exact ih0 _ _ _ _ _ _)
   | (with_reducible exact ih1 _)
   | (with_reducible exact ih2 _ _ _ _ _ _)
   | (with_reducible exact ih3 _)
   | (with_reducible exact ih4 _ _ _)
   | (with_reducible exact impl_flat.mono _ _ _ _ _ _ _)
   | (with_reducible exact LeO.refl _)
   | (with_reducible exact LeO.none _)
   | (with_reducible refine LeO.ite ?_ ?_)
   | (with_reducible refine LeO.bind ?_ (fun _ => ?_))
   | exact ih0 _ _ _ _ _ _
   | exact ih1 _
   | exact ih2 _ _ _ _ _ _
   | exact ih3 _
   | exact ih4 _ _ _
  ·intro y0
   unfold impl_Value_40_at_fits_1.f
   repeat' first
   | (with_reducible exact ih0 _ _ _ _ _ _)
   | (with_reducible exact ih1 _)
   | (with_reducible exact ih2 _ _ _ _ _ _)
   | (with_reducible exact ih3 _)
   | (with_reducible exact ih4 _ _ _)
   | (with_reducible exact impl_flat.mono _ _ _ _ _ _ _)
   | (with_reducible exact LeO.refl _)
   | (with_reducible exact LeO.none _)
   | (with_reducible refine LeO.ite ?_ ?_)
   | (with_reducible refine LeO.bind ?_ (fun _ => ?_))
   | exact ih0 _ _ _ _ _ _
   | exact ih1 _
   | exact ih2 _ _ _ _ _ _
   | exact ih3 _
   | exact ih4 _ _ _
  ·intro y0 y1 y2
   unfold impl_Value_40_at_fits_1.l0
   repeat' first
   | (with_reducible exact ih0 _ _ _ _ _ _)
   | (with_reducible exact ih1 _)
   | (with_reducible exact ih2 _ _ _ _ _ _)
   | (with_reducible exact ih3 _)
   | (with_reducible exact ih4 _ _ _)
   | (with_reducible exact impl_flat.mono _ _ _ _ _ _ _)
   | (with_reducible exact LeO.refl _)
   | (with_reducible exact LeO.none _)
   | (with_reducible refine LeO.ite ?_ ?_)
   | (with_reducible refine LeO.bind ?_ (fun _ => ?_))
   | exact ih0 _ _ _ _ _ _
   | exact ih1 _
   | exact ih2 _ _ _ _ _ _
   | exact ih3 _
   | exact ih4 _ _ _
theorem impl_fits.mono : ∀ a0 a1 a2 a3 a4 a5 k, LeO (impl_fits.f k a0 a1 a2 a3 a4 a5) (impl_fits.f (k + 1) a0 a1 a2 a3 a4 a5) := fun a0 a1 a2 a3 a4 a5 k => (impl_fits.G.mono_l k).1 a0 a1 a2 a3 a4 a5
theorem impl_Value_30_at_fits_1.mono : ∀ a0 k, LeO (impl_Value_30_at_fits_1.f k a0) (impl_Value_30_at_fits_1.f (k + 1) a0) := fun a0 k => (impl_fits.G.mono_l k).2.1 a0
theorem impl_fits_1.mono : ∀ a0 a1 a2 a3 a4 a5 k, LeO (impl_fits_1.f k a0 a1 a2 a3 a4 a5) (impl_fits_1.f (k + 1) a0 a1 a2 a3 a4 a5) := fun a0 a1 a2 a3 a4 a5 k => (impl_fits.G.mono_l k).2.2.1 a0 a1 a2 a3 a4 a5
theorem impl_Value_40_at_fits_1.mono : ∀ a0 k, LeO (impl_Value_40_at_fits_1.f k a0) (impl_Value_40_at_fits_1.f (k + 1) a0) := fun a0 k => (impl_fits.G.mono_l k).2.2.2.1 a0
abbrev impl_fits.Spec (k : Nat) : Prop := ∀ (a0_0 : Int) (a0_1 : Int) (a0_2 : Int) (a0_3 : ByteArray) (A0_4 : Option Addr) (c0_4 : Nat) (l0_4 : List (S34)) (A0_5 : Option Addr) (c0_5 : Nat) (l0_5 : List ByteArray) (r : Bool) (w : World) (hr0_4 : Kd.C k34 w A0_4 l0_4.length l0_4) (hc0_4 : l0_4.length ≤ c0_4) (hr0_5 : Kd.C Kd.string w A0_5 l0_5.length l0_5) (hc0_5 : l0_5.length ≤ c0_5) (h : impl_fits.f k a0_0 a0_1 a0_2 a0_3 l0_4 l0_5 = some r),
  Calls Tryd.prog 18 #[.agg #[.int .i64 a0_0, .int .i64 a0_1, .int .i64 a0_2, .string a0_3, .slice A0_4 l0_4.length c0_4, .slice A0_5 l0_5.length c0_5]] w fun e w' => e = .returned (.bool r) ∧ Below w.heap.size w w'
abbrev impl_Value_30_at_fits_1.Spec (k : Nat) : Prop := ∀ (A0 : Option Addr) (c0 : Nat) (l0 : List (S34))  (r : Bool) (w : World) (hr0 : Kd.C k34 w A0 l0.length l0) (hc0 : l0.length ≤ c0) (h : impl_Value_30_at_fits_1.f k l0 = some r),
  Calls Tryd.prog 30 #[.slice A0 l0.length c0, .func (.func 31) #[] #[]] w fun e w' => e = .returned (.bool r) ∧ Below w.heap.size w w'
abbrev impl_fits_1.Spec (k : Nat) : Prop := ∀ (a0_0 : Int) (a0_1 : Int) (a0_2 : Int) (a0_3 : ByteArray) (A0_4 : Option Addr) (c0_4 : Nat) (l0_4 : List (S34)) (A0_5 : Option Addr) (c0_5 : Nat) (l0_5 : List ByteArray) (r : Bool) (w : World) (hr0_4 : Kd.C k34 w A0_4 l0_4.length l0_4) (hc0_4 : l0_4.length ≤ c0_4) (hr0_5 : Kd.C Kd.string w A0_5 l0_5.length l0_5) (hc0_5 : l0_5.length ≤ c0_5) (h : impl_fits_1.f k a0_0 a0_1 a0_2 a0_3 l0_4 l0_5 = some r),
  Calls Tryd.prog 31 #[.agg #[.int .i64 a0_0, .int .i64 a0_1, .int .i64 a0_2, .string a0_3, .slice A0_4 l0_4.length c0_4, .slice A0_5 l0_5.length c0_5]] w fun e w' => e = .returned (.bool r) ∧ Below w.heap.size w w'
abbrev impl_Value_40_at_fits_1.Spec (k : Nat) : Prop := ∀ (A0 : Option Addr) (c0 : Nat) (l0 : List (S34))  (r : Int) (w : World) (hr0 : Kd.C k34 w A0 l0.length l0) (hc0 : l0.length ≤ c0) (h : impl_Value_40_at_fits_1.f k l0 = some r),
  Calls Tryd.prog 40 #[.slice A0 l0.length c0, .func (.func 31) #[] #[]] w fun e w' => e = .returned (.int .i64 r) ∧ Below w.heap.size w w'
set_option maxHeartbeats 8000000 in
set_option maxRecDepth 100000 in
theorem impl_fits.step (k : Nat) (ih_impl_fits : ∀ m, m < k → impl_fits.Spec m) (ih_impl_Value_30_at_fits_1 : ∀ m, m < k → impl_Value_30_at_fits_1.Spec m) (ih_impl_fits_1 : ∀ m, m < k → impl_fits_1.Spec m) (ih_impl_Value_40_at_fits_1 : ∀ m, m < k → impl_Value_40_at_fits_1.Spec m) : impl_fits.Spec k := by
 intro a0_0 a0_1 a0_2 a0_3 A0_4 c0_4 l0_4 A0_5 c0_5 l0_5 r w hr0_4 hc0_4 hr0_5 hc0_5 h
 cases k with
 | zero => exact absurd h (by simp [impl_fits.f])
 | succ k =>
 simp only [impl_fits.f] at h
 have hu34 := Tryd.underlying34
 have HR0_4 := zA hr0_4
 have HC0_4 := zA hc0_4
 clear hr0_4 hc0_4
 have HR0_5 := zA hr0_5
 have HC0_5 := zA hc0_5
 clear hr0_5 hc0_5
 have HB := zA (yH w.heap.size w)
 have H : (if a0_0 = 6 then ((impl_Value_30_at_fits_1.f k l0_4).bind fun t275 => (some (!t275))) else (some false)) = some r := h
 clear h
 by_cases c2 : a0_0 = 6
 ·rw [if_pos c2] at H
  have c2b0 : (a0_0 == 6) = true := beq_iff_eq.mpr c2
  have c2b1 : (a0_0 != 6) = false := bne_eq_false_iff_eq.mpr c2
  clear c2
  replace H := Option.bind_eq_some_iff.mp H
  obtain ⟨t275, A30, H⟩ := H
  have A3 := zA A30
  clear A30
  obtain rfl := yG H
  go_enter Tryd.func18, Tryd.ntmps18
  go_wp2_with (first | ((with_reducible refine zS (N := 1) rfl ?_); refine zW ?hg (N := 1) ?hd (cs := #[.int .i64 a0_0, .int .i64 a0_1, .int .i64 a0_2, .string a0_3, .slice A0_4 l0_4.length c0_4, .slice A0_5 l0_5.length c0_5]) (t := 34) ?hr ?_; (case hd => rfl); (case hg => rfl); (case hr => first | (go_simp; done) | (go_simp; rfl)); intro gb274 hg w4 hbox hb; have n0_ := zA (zP apA hb); have n1_ := zA (hbox); have n2_ := zA ((by rw [hg]; exact (zQ apA) : w.heap.size ≤ gb274)); have n3_ := zA ((by rw [hg]; exact (zQ apA) : w.heap.size ≤ gb274)); clear HB; have HB := n0_; have BK274 := n1_; have GW274 := n2_; have GE274 := n3_; clear n0_ n1_ n2_ n3_; clear hb hbox hg; obtain ⟨hcz5_0, hcz5_1, hcz5_2, hcz5_3, hcz5_4, hcz5_5, hfz5_0, hfz5_1, hfz5_2, hfz5_3, hfz5_4, hfz5_5⟩ := zb6 BK274.out) | (go_at_call 30; (with_reducible refine (ih_impl_Value_30_at_fits_1 k (by omega) _ _ l0_4 t275 _ ?side1 ?side2 A3.out).mono ?_); (case side1 => repeat (first | exact (Kd.C_below HR0_4.out HB.out) | (with_reducible refine Kd.C_alloc ?_ _) | (with_reducible refine Kd.C_drewN ?_ _) | (with_reducible refine Kd.C_drew ?_))); (case side2 => exact HC0_4.out); rintro e w6 ⟨rfl, hb⟩; have n0_ := zA (zP apA hb); clear HB; have HB := n0_; clear n0_; (try clear hb); (try clear hb2); (try clear hk); (try clear hi)))
  go_ret
  exact ⟨apD, apA⟩
 ·rw [if_neg c2] at H
  have c2b0 : (a0_0 == 6) = false := beq_eq_false_iff_ne.mpr c2
  have c2b1 : (a0_0 != 6) = true := bne_iff_ne.mpr c2
  obtain rfl := yG H
  go_enter Tryd.func18, Tryd.ntmps18
  go_wp2_with (first | ((with_reducible refine zS (N := 1) rfl ?_); refine zW ?hg (N := 1) ?hd (cs := #[.int .i64 a0_0, .int .i64 a0_1, .int .i64 a0_2, .string a0_3, .slice A0_4 l0_4.length c0_4, .slice A0_5 l0_5.length c0_5]) (t := 34) ?hr ?_; (case hd => rfl); (case hg => rfl); (case hr => first | (go_simp; done) | (go_simp; rfl)); intro gb274 hg w7 hbox hb; have n0_ := zA (zP apA hb); have n1_ := zA (hbox); have n2_ := zA ((by rw [hg]; exact (zQ apA) : w.heap.size ≤ gb274)); have n3_ := zA ((by rw [hg]; exact (zQ apA) : w.heap.size ≤ gb274)); clear HB; have HB := n0_; have BK274 := n1_; have GW274 := n2_; have GE274 := n3_; clear n0_ n1_ n2_ n3_; clear hb hbox hg; obtain ⟨hcz8_0, hcz8_1, hcz8_2, hcz8_3, hcz8_4, hcz8_5, hfz8_0, hfz8_1, hfz8_2, hfz8_3, hfz8_4, hfz8_5⟩ := zb6 BK274.out))
  go_ret
  exact ⟨apD, by repeat (first | (with_reducible first | exact HB.out | apply zG | apply zE | apply zF | refine zH ?_ GE274.out) | exact HB.out)⟩

set_option maxHeartbeats 8000000 in
set_option maxRecDepth 100000 in
theorem impl_Value_30_at_fits_1.step (k : Nat) (ih_impl_fits : ∀ m, m < k → impl_fits.Spec m) (ih_impl_Value_30_at_fits_1 : ∀ m, m < k → impl_Value_30_at_fits_1.Spec m) (ih_impl_fits_1 : ∀ m, m < k → impl_fits_1.Spec m) (ih_impl_Value_40_at_fits_1 : ∀ m, m < k → impl_Value_40_at_fits_1.Spec m) : impl_Value_30_at_fits_1.Spec k := by
 intro A0 c0 l0 r w hr0 hc0 h
 cases k with
 | zero => exact absurd h (by simp [impl_Value_30_at_fits_1.f])
 | succ k =>
 simp only [impl_Value_30_at_fits_1.f] at h
 have HR0 := zA hr0
 have HC0 := zA hc0
 clear hr0 hc0
 have HB := zA (yH w.heap.size w)
 have H : ((impl_Value_40_at_fits_1.f k l0).bind fun t276 => (some (decide (t276 ≥ 0)))) = some r := h
 clear h
 replace H := Option.bind_eq_some_iff.mp H
 obtain ⟨t276, A30, H⟩ := H
 have A3 := zA A30
 clear A30
 obtain rfl := yG H
 go_enter Tryd.func30, Tryd.ntmps30
 go_wp2_with (first | ((with_reducible refine zT (f := 40) rfl ?_); refine goesL_ (some 7) rfl rfl Tryd.func40 (by kernel_rfl) rfl #[.slice A0 l0.length c0, .func (.func 31) #[] #[]] rfl apE ?_; (with_reducible refine (ih_impl_Value_40_at_fits_1 k (by omega) _ _ l0 t276 _ ?side1 ?side2 A3.out).mono ?_); (case side1 => repeat (first | exact HR0.out | (with_reducible refine Kd.C_alloc ?_ _) | (with_reducible refine Kd.C_drewN ?_ _) | (with_reducible refine Kd.C_drew ?_))); (case side2 => exact HC0.out); rintro e w4 ⟨rfl, hb⟩; refine ⟨_, rfl, ?_⟩; have n0_ := zA (zP apA hb); clear HB; have HB := n0_; clear n0_; (try clear hb); (try clear hb2); (try clear hk); (try clear hi)))
 go_ret
 exact ⟨apD, apA⟩

set_option maxHeartbeats 8000000 in
set_option maxRecDepth 100000 in
theorem impl_fits_1.step (k : Nat) (ih_impl_fits : ∀ m, m < k → impl_fits.Spec m) (ih_impl_Value_30_at_fits_1 : ∀ m, m < k → impl_Value_30_at_fits_1.Spec m) (ih_impl_fits_1 : ∀ m, m < k → impl_fits_1.Spec m) (ih_impl_Value_40_at_fits_1 : ∀ m, m < k → impl_Value_40_at_fits_1.Spec m) : impl_fits_1.Spec k := by
 intro a0_0 a0_1 a0_2 a0_3 A0_4 c0_4 l0_4 A0_5 c0_5 l0_5 r w hr0_4 hc0_4 hr0_5 hc0_5 h
 cases k with
 | zero => exact absurd h (by simp [impl_fits_1.f])
 | succ k =>
 simp only [impl_fits_1.f] at h
 have hu34 := Tryd.underlying34
 have HR0_4 := zA hr0_4
 have HC0_4 := zA hc0_4
 clear hr0_4 hc0_4
 have HR0_5 := zA hr0_5
 have HC0_5 := zA hc0_5
 clear hr0_5 hc0_5
 have HB := zA (yH w.heap.size w)
 have H : ((impl_flat.f k a0_0 a0_1 a0_2 a0_3 l0_4 l0_5).bind fun t278 => (if t278 = true then (some false) else ((impl_fits.f k a0_0 a0_1 a0_2 a0_3 l0_4 l0_5).bind fun t279 => (some (!t279))))) = some r := h
 clear h
 replace H := Option.bind_eq_some_iff.mp H
 obtain ⟨t278, A20, H⟩ := H
 have A2 := zA A20
 clear A20
 by_cases c3 : t278 = true
 ·subst c3
  have H1 := H; rw [if_pos rfl] at H1
  clear H
  have H := H1
  clear H1
  obtain rfl := yG H
  go_enter Tryd.func31, Tryd.ntmps31
  go_wp2_with (first | ((with_reducible refine zS (N := 1) rfl ?_); refine zW ?hg (N := 1) ?hd (cs := #[.int .i64 a0_0, .int .i64 a0_1, .int .i64 a0_2, .string a0_3, .slice A0_4 l0_4.length c0_4, .slice A0_5 l0_5.length c0_5]) (t := 34) ?hr ?_; (case hd => rfl); (case hg => rfl); (case hr => first | (go_simp; done) | (go_simp; rfl)); intro gb277 hg w4 hbox hb; have n0_ := zA (zP apA hb); have n1_ := zA (hbox); have n2_ := zA ((by rw [hg]; exact (zQ apA) : w.heap.size ≤ gb277)); have n3_ := zA ((by rw [hg]; exact (zQ apA) : w.heap.size ≤ gb277)); clear HB; have HB := n0_; have BK277 := n1_; have GW277 := n2_; have GE277 := n3_; clear n0_ n1_ n2_ n3_; clear hb hbox hg; obtain ⟨hcz5_0, hcz5_1, hcz5_2, hcz5_3, hcz5_4, hcz5_5, hfz5_0, hfz5_1, hfz5_2, hfz5_3, hfz5_4, hfz5_5⟩ := zb6 BK277.out) | ((with_reducible refine zT (f := 32) rfl ?_); refine goesL_ (some 4) rfl rfl Tryd.func32 (by kernel_rfl) rfl #[.agg #[.int .i64 a0_0, .int .i64 a0_1, .int .i64 a0_2, .string a0_3, .slice A0_4 l0_4.length c0_4, .slice A0_5 l0_5.length c0_5]] rfl apE ?_; (with_reducible refine (impl_flat.calls k a0_0 a0_1 a0_2 a0_3 _ _ l0_4 _ _ l0_5 true _ ?side1 ?side2 ?side3 ?side4 A2.out).mono ?_); (case side1 => repeat (first | exact (Kd.C_below HR0_4.out HB.out) | (with_reducible refine Kd.C_alloc ?_ _) | (with_reducible refine Kd.C_drewN ?_ _) | (with_reducible refine Kd.C_drew ?_))); (case side2 => exact HC0_4.out); (case side3 => repeat (first | exact (Kd.C_below HR0_5.out HB.out) | (with_reducible refine Kd.C_alloc ?_ _) | (with_reducible refine Kd.C_drewN ?_ _) | (with_reducible refine Kd.C_drew ?_))); (case side4 => exact HC0_5.out); rintro e w6 ⟨rfl, hb⟩; refine ⟨_, rfl, ?_⟩; have n0_ := zA (zP apA hb); clear HB; have HB := n0_; clear n0_; (try clear hb); (try clear hb2); (try clear hk); (try clear hi)))
  go_ret
  exact ⟨apD, apA⟩
 ·replace c3 := Bool.eq_false_iff.mpr c3
  subst c3
  have H1 := H; rw [if_neg (show ¬ (false = true) by decide)] at H1
  clear H
  have H := H1
  clear H1
  replace H := Option.bind_eq_some_iff.mp H
  obtain ⟨t279, A70, H⟩ := H
  have A7 := zA A70
  clear A70
  obtain rfl := yG H
  go_enter Tryd.func31, Tryd.ntmps31
  go_wp2_with (first | ((with_reducible refine zS (N := 1) rfl ?_); refine zW ?hg (N := 1) ?hd (cs := #[.int .i64 a0_0, .int .i64 a0_1, .int .i64 a0_2, .string a0_3, .slice A0_4 l0_4.length c0_4, .slice A0_5 l0_5.length c0_5]) (t := 34) ?hr ?_; (case hd => rfl); (case hg => rfl); (case hr => first | (go_simp; done) | (go_simp; rfl)); intro gb277 hg w8 hbox hb; have n0_ := zA (zP apA hb); have n1_ := zA (hbox); have n2_ := zA ((by rw [hg]; exact (zQ apA) : w.heap.size ≤ gb277)); have n3_ := zA ((by rw [hg]; exact (zQ apA) : w.heap.size ≤ gb277)); clear HB; have HB := n0_; have BK277 := n1_; have GW277 := n2_; have GE277 := n3_; clear n0_ n1_ n2_ n3_; clear hb hbox hg; obtain ⟨hcz9_0, hcz9_1, hcz9_2, hcz9_3, hcz9_4, hcz9_5, hfz9_0, hfz9_1, hfz9_2, hfz9_3, hfz9_4, hfz9_5⟩ := zb6 BK277.out) | ((with_reducible refine zT (f := 32) rfl ?_); refine goesL_ (some 4) rfl rfl Tryd.func32 (by kernel_rfl) rfl #[.agg #[.int .i64 a0_0, .int .i64 a0_1, .int .i64 a0_2, .string a0_3, .slice A0_4 l0_4.length c0_4, .slice A0_5 l0_5.length c0_5]] rfl apE ?_; (with_reducible refine (impl_flat.calls k a0_0 a0_1 a0_2 a0_3 _ _ l0_4 _ _ l0_5 false _ ?side1 ?side2 ?side3 ?side4 A2.out).mono ?_); (case side1 => repeat (first | exact (Kd.C_below HR0_4.out HB.out) | (with_reducible refine Kd.C_alloc ?_ _) | (with_reducible refine Kd.C_drewN ?_ _) | (with_reducible refine Kd.C_drew ?_))); (case side2 => exact HC0_4.out); (case side3 => repeat (first | exact (Kd.C_below HR0_5.out HB.out) | (with_reducible refine Kd.C_alloc ?_ _) | (with_reducible refine Kd.C_drewN ?_ _) | (with_reducible refine Kd.C_drew ?_))); (case side4 => exact HC0_5.out); rintro e w10 ⟨rfl, hb⟩; refine ⟨_, rfl, ?_⟩; have n0_ := zA (zN (g := gb277) (o := .cells #[.int .i64 a0_0, .int .i64 a0_1, .int .i64 a0_2, .string a0_3, .slice A0_4 l0_4.length c0_4, .slice A0_5 l0_5.length c0_5] 34 (0, 0)) (by (with_reducible repeat (first | refine zB ?_ _ | refine zD ?_ | refine zC ?_ _)); exact BK277.out) hb); have n1_ := zA (zP (by repeat (first | (with_reducible first | exact HB.out | apply zG | apply zE | apply zF | refine zH ?_ GE277.out) | exact HB.out)) hb); clear BK277; clear HB; have BK277 := n0_; have HB := n1_; clear n0_ n1_; (try clear hb); (try clear hb2); (try clear hk); (try clear hi); obtain ⟨hcz11_0, hcz11_1, hcz11_2, hcz11_3, hcz11_4, hcz11_5, hfz11_0, hfz11_1, hfz11_2, hfz11_3, hfz11_4, hfz11_5⟩ := zb6 BK277.out) | (go_at_call 18; (with_reducible refine (ih_impl_fits k (by omega) a0_0 a0_1 a0_2 a0_3 _ _ l0_4 _ _ l0_5 t279 _ ?side1 ?side2 ?side3 ?side4 A7.out).mono ?_); (case side1 => repeat (first | exact (Kd.C_below HR0_4.out HB.out) | (with_reducible refine Kd.C_alloc ?_ _) | (with_reducible refine Kd.C_drewN ?_ _) | (with_reducible refine Kd.C_drew ?_))); (case side2 => exact HC0_4.out); (case side3 => repeat (first | exact (Kd.C_below HR0_5.out HB.out) | (with_reducible refine Kd.C_alloc ?_ _) | (with_reducible refine Kd.C_drewN ?_ _) | (with_reducible refine Kd.C_drew ?_))); (case side4 => exact HC0_5.out); rintro e w12 ⟨rfl, hb⟩; have n0_ := zA (zP apA hb); clear HB; have HB := n0_; clear n0_; (try clear hb); (try clear hb2); (try clear hk); (try clear hi)))
  go_ret
  exact ⟨apD, apA⟩

set_option maxHeartbeats 8000000 in
set_option maxRecDepth 100000 in
theorem impl_Value_40_at_fits_1.step (k : Nat) (ih_impl_fits : ∀ m, m < k → impl_fits.Spec m) (ih_impl_Value_30_at_fits_1 : ∀ m, m < k → impl_Value_30_at_fits_1.Spec m) (ih_impl_fits_1 : ∀ m, m < k → impl_fits_1.Spec m) (ih_impl_Value_40_at_fits_1 : ∀ m, m < k → impl_Value_40_at_fits_1.Spec m) : impl_Value_40_at_fits_1.Spec k := by
 intro A0 c0 l0 r w hr0 hc0 h
 cases k with
 | zero => exact absurd h (by simp [impl_Value_40_at_fits_1.f])
 | succ k =>
 simp only [impl_Value_40_at_fits_1.f] at h
 have hu34 := Tryd.underlying34
 have HR0 := zA hr0
 have HC0 := zA hc0
 clear hr0 hc0
 have HB := zA (yH w.heap.size w)
 have H : (impl_Value_40_at_fits_1.l0 k l0 (l0.length : Int) 0) = some r := h
 clear h
 have H' := zA H
 clear H
 go_enter Tryd.func40, Tryd.ntmps40
 go_wp2
 go_loopg [8] k (fun kq v8 w' => ∃ (x8_1 : Int), v8 = .int .i64 x8_1 ∧ Aside0 (impl_Value_40_at_fits_1.l0 kq l0 (l0.length : Int) x8_1 = some r) ∧ Aside0 (kq ≤ k) ∧ Aside0 (Below w.heap.size w w'))
 case atStart => exact ⟨(0), apC, H', ⟨yJ _⟩, ⟨apA⟩⟩
 case round =>
  clear H'
  try clear p2
  obtain ⟨x8_1, rfl, HA, HK1, HB⟩ := hrel
  cases gk with
  | zero => exact absurd HA.out (by simp [impl_Value_40_at_fits_1.l0])
  | succ k1 =>
   have H := HA.out
   clear HA
   simp only [impl_Value_40_at_fits_1.l0] at H
   by_cases c3 : x8_1 < (l0.length : Int)
   ·rw [if_pos c3] at H
    have c3b0 : decide (x8_1 < (l0.length : Int)) = true := yE c3
    clear c3
    by_cases c4 : 0 ≤ x8_1
    ·rw [if_pos c4] at H
     have c4b0 : decide (0 ≤ x8_1) = true := yE c4
     clear c4
     by_cases c5 : x8_1 < (l0.length : Int)
     ·rw [if_pos c5] at H
      have c5b0 : decide (x8_1 < (l0.length : Int)) = true := yE c5
      clear c5
      replace H := Option.bind_eq_some_iff.mp H
      obtain ⟨t281, A60, H⟩ := H
      have A6 := zA A60
      clear A60
      by_cases c7 : t281 = true
      ·subst c7
       have H1 := H; rw [if_pos rfl] at H1
       clear H
       have H := H1
       clear H1
       obtain rfl := yG H
       have p280 : 0 ≤ (x8_1 : Int) := yF apB
       have q280 : x8_1 < (l0.length : Int) := yF apB
       obtain ⟨ad280, A280_4, c280_4, A280_5, c280_5, e280, hx280_0, hx280_1, hx280_2, hx280_3, hx280_4, hx280_5, hl280_4, hi280_4, hl280_5, hi280_5⟩ := at_T34 HR0.out x8_1 p280 q280
       cases e280
       replace hx280_0 := (HB.out.cell (zR w _ hx280_0)).trans hx280_0
       replace hx280_1 := (HB.out.cell (zR w _ hx280_1)).trans hx280_1
       replace hx280_2 := (HB.out.cell (zR w _ hx280_2)).trans hx280_2
       replace hx280_3 := (HB.out.cell (zR w _ hx280_3)).trans hx280_3
       replace hx280_4 := (HB.out.cell (zR w _ hx280_4)).trans hx280_4
       replace hx280_5 := (HB.out.cell (zR w _ hx280_5)).trans hx280_5
       have HR280_4 := zA hi280_4
       have HC280_4 := zA hl280_4
       clear hi280_4 hl280_4
       have HR280_5 := zA hi280_5
       have HC280_5 := zA hl280_5
       clear hi280_5 hl280_5
       replace p280 := eq_true p280
       replace q280 := eq_true q280
       go_wp2_with (first | ((refine gate_calleev (f := 31) rfl rfl ?_); refine goesvL_ (some 16) rfl rfl Tryd.func31 (by kernel_rfl) rfl #[.agg #[.int .i64 ((rd_T34 l0 x8_1).f0), .int .i64 ((rd_T34 l0 x8_1).f1.f0), .int .i64 ((rd_T34 l0 x8_1).f1.f1), .string ((rd_T34 l0 x8_1).f2), .slice A280_4 ((rd_T34 l0 x8_1).f3).length c280_4, .slice A280_5 ((rd_T34 l0 x8_1).f4).length c280_5]] rfl rfl apE ?_; (with_reducible refine (ih_impl_fits_1 k1 (by have := HK1.out; omega) ((rd_T34 l0 x8_1).f0) ((rd_T34 l0 x8_1).f1.f0) ((rd_T34 l0 x8_1).f1.f1) ((rd_T34 l0 x8_1).f2) _ _ ((rd_T34 l0 x8_1).f3) _ _ ((rd_T34 l0 x8_1).f4) true _ ?side1 ?side2 ?side3 ?side4 A6.out).mono ?_); (case side1 => repeat (first | exact (Kd.C_below HR280_4.out HB.out) | (with_reducible refine Kd.C_alloc ?_ _) | (with_reducible refine Kd.C_drewN ?_ _) | (with_reducible refine Kd.C_drew ?_))); (case side2 => exact HC280_4.out); (case side3 => repeat (first | exact (Kd.C_below HR280_5.out HB.out) | (with_reducible refine Kd.C_alloc ?_ _) | (with_reducible refine Kd.C_drewN ?_ _) | (with_reducible refine Kd.C_drew ?_))); (case side4 => exact HC280_5.out); rintro e w8 ⟨rfl, hb⟩; refine ⟨_, rfl, ?_⟩; have n0_ := zA (zP apA hb); clear HB; have HB := n0_; clear n0_; (try clear hb); (try clear hb2); (try clear hk); (try clear hi)))
       go_ret
       exact ⟨apD, apA⟩
      ·replace c7 := Bool.eq_false_iff.mpr c7
       subst c7
       have H1 := H; rw [if_neg (show ¬ (false = true) by decide)] at H1
       clear H
       have H := H1
       clear H1
       have H' := zA H
       clear H
       have p280 : 0 ≤ (x8_1 : Int) := yF apB
       have q280 : x8_1 < (l0.length : Int) := yF apB
       obtain ⟨ad280, A280_4, c280_4, A280_5, c280_5, e280, hx280_0, hx280_1, hx280_2, hx280_3, hx280_4, hx280_5, hl280_4, hi280_4, hl280_5, hi280_5⟩ := at_T34 HR0.out x8_1 p280 q280
       cases e280
       replace hx280_0 := (HB.out.cell (zR w _ hx280_0)).trans hx280_0
       replace hx280_1 := (HB.out.cell (zR w _ hx280_1)).trans hx280_1
       replace hx280_2 := (HB.out.cell (zR w _ hx280_2)).trans hx280_2
       replace hx280_3 := (HB.out.cell (zR w _ hx280_3)).trans hx280_3
       replace hx280_4 := (HB.out.cell (zR w _ hx280_4)).trans hx280_4
       replace hx280_5 := (HB.out.cell (zR w _ hx280_5)).trans hx280_5
       have HR280_4 := zA hi280_4
       have HC280_4 := zA hl280_4
       clear hi280_4 hl280_4
       have HR280_5 := zA hi280_5
       have HC280_5 := zA hl280_5
       clear hi280_5 hl280_5
       replace p280 := eq_true p280
       replace q280 := eq_true q280
       go_wp2_with (first | ((refine gate_calleev (f := 31) rfl rfl ?_); refine goesvL_ (some 16) rfl rfl Tryd.func31 (by kernel_rfl) rfl #[.agg #[.int .i64 ((rd_T34 l0 x8_1).f0), .int .i64 ((rd_T34 l0 x8_1).f1.f0), .int .i64 ((rd_T34 l0 x8_1).f1.f1), .string ((rd_T34 l0 x8_1).f2), .slice A280_4 ((rd_T34 l0 x8_1).f3).length c280_4, .slice A280_5 ((rd_T34 l0 x8_1).f4).length c280_5]] rfl rfl apE ?_; (with_reducible refine (ih_impl_fits_1 k1 (by have := HK1.out; omega) ((rd_T34 l0 x8_1).f0) ((rd_T34 l0 x8_1).f1.f0) ((rd_T34 l0 x8_1).f1.f1) ((rd_T34 l0 x8_1).f2) _ _ ((rd_T34 l0 x8_1).f3) _ _ ((rd_T34 l0 x8_1).f4) false _ ?side1 ?side2 ?side3 ?side4 A6.out).mono ?_); (case side1 => repeat (first | exact (Kd.C_below HR280_4.out HB.out) | (with_reducible refine Kd.C_alloc ?_ _) | (with_reducible refine Kd.C_drewN ?_ _) | (with_reducible refine Kd.C_drew ?_))); (case side2 => exact HC280_4.out); (case side3 => repeat (first | exact (Kd.C_below HR280_5.out HB.out) | (with_reducible refine Kd.C_alloc ?_ _) | (with_reducible refine Kd.C_drewN ?_ _) | (with_reducible refine Kd.C_drew ?_))); (case side4 => exact HC280_5.out); rintro e w9 ⟨rfl, hb⟩; refine ⟨_, rfl, ?_⟩; have n0_ := zA (zP apA hb); clear HB; have HB := n0_; clear n0_; (try clear hb); (try clear hb2); (try clear hk); (try clear hi)))
       go_roundg k1
       case measure => have := HK1.out; omega
       case rel => exact ⟨(wrap64 (x8_1 + 1)), apC, H', ⟨by have := HK1.out; omega⟩, ⟨apA⟩⟩
     ·rw [if_neg c5] at H
      exact absurd H (by simp)
    ·rw [if_neg c4] at H
     exact absurd H (by simp)
   ·rw [if_neg c3] at H
    have c3b0 : decide (x8_1 < (l0.length : Int)) = false := decide_eq_false c3
    clear c3
    obtain rfl := yG H
    go_wp2
    go_ret
    exact ⟨apD, apA⟩

theorem impl_fits.G.all (k : Nat) : impl_fits.Spec k ∧ impl_Value_30_at_fits_1.Spec k ∧ impl_fits_1.Spec k ∧ impl_Value_40_at_fits_1.Spec k := by
 induction k using Nat.strongRecOn with
 | _ k ih =>
  exact ⟨impl_fits.step k (fun m hm => (ih m hm).1) (fun m hm => (ih m hm).2.1) (fun m hm => (ih m hm).2.2.1) (fun m hm => (ih m hm).2.2.2), impl_Value_30_at_fits_1.step k (fun m hm => (ih m hm).1) (fun m hm => (ih m hm).2.1) (fun m hm => (ih m hm).2.2.1) (fun m hm => (ih m hm).2.2.2), impl_fits_1.step k (fun m hm => (ih m hm).1) (fun m hm => (ih m hm).2.1) (fun m hm => (ih m hm).2.2.1) (fun m hm => (ih m hm).2.2.2), impl_Value_40_at_fits_1.step k (fun m hm => (ih m hm).1) (fun m hm => (ih m hm).2.1) (fun m hm => (ih m hm).2.2.1) (fun m hm => (ih m hm).2.2.2)⟩
theorem impl_fits.calls (k : Nat) : impl_fits.Spec k := (impl_fits.G.all k).1
theorem impl_Value_30_at_fits_1.calls (k : Nat) : impl_Value_30_at_fits_1.Spec k := (impl_fits.G.all k).2.1
theorem impl_fits_1.calls (k : Nat) : impl_fits_1.Spec k := (impl_fits.G.all k).2.2.1
theorem impl_Value_40_at_fits_1.calls (k : Nat) : impl_Value_40_at_fits_1.Spec k := (impl_fits.G.all k).2.2.2

end Go.Proofs.YtmdpjfmkhnjilaaDoor.Q
