-- laid by a program of this session (wip/tools) out of the translation; Lean checks it
import Derived.Test.YtlmdhmfhopgekaaDoorBFnExactJsonPutq3
namespace Go.Proofs.YtlmdhmfhopgekaaDoor.Q
open Go.RowKit Go.Proofs.YtlmdhmfhopgekaaDoorW.PrintWords Go.Proofs.YtlmdhmfhopgekaaDoorW.PrintLast Go.Proofs.YtlmdhmfhopgekaaDoorW.PrintMore Go.Proofs.YtlmdhmfhopgekaaDoorX
attribute [local go_sem] max2_int min2_int max_two min_two max_three min_three max_four min_four   -- for this text's walks alone
set_option linter.unusedVariables false
set_option linter.unusedSimpArgs false

attribute [-simp] ByteArray.size_extract
mutual
def impl_layout.j0 : Nat → Bool → ByteArray → ByteArray → ByteArray → ByteArray → ByteArray → Bool → List Int → Int → Int → Int → ByteArray → List (S33) → List ByteArray → Option (ByteArray)
 | 0, _, _, _, _, _, _, _, _, _, _, _, _, _, _ => none
 | k + 1, x1, x2, x7, x8, x9, x10, x40, x997, x282000, x282001, x282002, x282003, x282004, x282005 => if x40 = true then (if x2.size + 2 ≤ 9223372036854775807 then (if 1 + (x2 ++ (⟨#[32, 32]⟩ : ByteArray)).size ≤ 9223372036854775807 then (if 1 + x2.size ≤ 9223372036854775807 then (impl_layout.j1 k x1 (x2 ++ (⟨#[32, 32]⟩ : ByteArray)) ((⟨#[10]⟩ : ByteArray) ++ (x2 ++ (⟨#[32, 32]⟩ : ByteArray))) (⟨#[32]⟩ : ByteArray) ((⟨#[10]⟩ : ByteArray) ++ x2) x997 x282000 x282001 x282002 x282003 x282004 x282005) else (none)) else (none)) else (none)) else (impl_layout.j1 k x1 x7 x8 x9 x10 x997 x282000 x282001 x282002 x282003 x282004 x282005)
def impl_layout.j1 : Nat → Bool → ByteArray → ByteArray → ByteArray → ByteArray → List Int → Int → Int → Int → ByteArray → List (S33) → List ByteArray → Option (ByteArray)
 | 0, _, _, _, _, _, _, _, _, _, _, _, _ => none
 | k + 1, x1, x7, x8, x9, x10, x997, x282000, x282001, x282002, x282003, x282004, x282005 => if x282000 = 6 then (impl_layout.j2 k x1 x7 x8 x9 x10 (⟨#[123, 125]⟩ : ByteArray) x997 x282000 x282001 x282002 x282003 x282004 x282005) else (impl_layout.j2 k x1 x7 x8 x9 x10 (⟨#[91, 93]⟩ : ByteArray) x997 x282000 x282001 x282002 x282003 x282004 x282005)
def impl_layout.j2 : Nat → Bool → ByteArray → ByteArray → ByteArray → ByteArray → ByteArray → List Int → Int → Int → Int → ByteArray → List (S33) → List ByteArray → Option (ByteArray)
 | 0, _, _, _, _, _, _, _, _, _, _, _, _, _ => none
 | k + 1, x1, x7, x8, x9, x10, x11, x997, x282000, x282001, x282002, x282003, x282004, x282005 => impl_layout.l0 k x1 x7 x8 x9 x10 x11 (([] : List ByteArray)) x282004 (x282004.length : Int) 0 x997 x282000 x282001 x282002 x282003 x282004 x282005
def impl_layout.l0 : Nat → Bool → ByteArray → ByteArray → ByteArray → ByteArray → ByteArray → List ByteArray → List (S33) → Int → Int → List Int → Int → Int → Int → ByteArray → List (S33) → List ByteArray → Option (ByteArray)
 | 0, _, _, _, _, _, _, _, _, _, _, _, _, _, _, _, _, _ => none
 | k + 1, x1, x7, x8, x9, x10, x11, x12, x52, x53, x54, x997, x282000, x282001, x282002, x282003, x282004, x282005 => if x54 < x53 then (if 0 ≤ x54 then (if x54 < (x52.length : Int) then (if x282000 = 6 then (if x54 < (x282005.length : Int) then ((impl_jsonText.f k (rdOf ByteArray.empty x282005 x54)).bind fun t291 => (if t291.size + 1 ≤ 9223372036854775807 then (if (t291 ++ (⟨#[58]⟩ : ByteArray)).size + x9.size ≤ 9223372036854775807 then (if x8.size + ((t291 ++ (⟨#[58]⟩ : ByteArray)) ++ x9).size ≤ 9223372036854775807 then ((impl_layout.f k ((rd_T33 x52 x54).f0) ((rd_T33 x52 x54).f1.f0) ((rd_T33 x52 x54).f1.f1) ((rd_T33 x52 x54).f2) ((rd_T33 x52 x54).f3) ((rd_T33 x52 x54).f4) x1 x7 x997).bind fun t292 => (if (x8 ++ ((t291 ++ (⟨#[58]⟩ : ByteArray)) ++ x9)).size + t292.size ≤ 9223372036854775807 then (if x12.length < 8796093022208 then (impl_layout.l0 k x1 x7 x8 x9 x10 x11 (x12 ++ [(x8 ++ ((t291 ++ (⟨#[58]⟩ : ByteArray)) ++ x9)) ++ t292]) x52 x53 (wrap64 (x54 + 1)) x997 x282000 x282001 x282002 x282003 x282004 x282005) else (none)) else (none))) else (none)) else (none)) else (none))) else (none)) else ((impl_layout.f k ((rd_T33 x52 x54).f0) ((rd_T33 x52 x54).f1.f0) ((rd_T33 x52 x54).f1.f1) ((rd_T33 x52 x54).f2) ((rd_T33 x52 x54).f3) ((rd_T33 x52 x54).f4) x1 x7 x997).bind fun t296 => (if x8.size + t296.size ≤ 9223372036854775807 then (if x12.length < 8796093022208 then (impl_layout.l0 k x1 x7 x8 x9 x10 x11 (x12 ++ [x8 ++ t296]) x52 x53 (wrap64 (x54 + 1)) x997 x282000 x282001 x282002 x282003 x282004 x282005) else (none)) else (none)))) else (none)) else (none)) else (if 0 ≤ 1 then (if 1 ≤ (x11.size : Int) then ((strings_Join.f x12 (⟨#[44]⟩ : ByteArray)).bind fun t287 => (if (x11.extract 0 1).size + t287.size ≤ 9223372036854775807 then (if ((x11.extract 0 1) ++ t287).size + x10.size ≤ 9223372036854775807 then (if (((x11.extract 0 1) ++ t287) ++ x10).size + (x11.extract 1 x11.size).size ≤ 9223372036854775807 then (some ((((x11.extract 0 1) ++ t287) ++ x10) ++ (x11.extract 1 x11.size))) else (none)) else (none)) else (none))) else (none)) else (none))
def impl_layout.f : Nat → Int → Int → Int → ByteArray → List (S33) → List ByteArray → Bool → ByteArray → List Int → Option (ByteArray)
 | 0, _, _, _, _, _, _, _, _, _ => none
 | k + 1, a0_0, a0_1, a0_2, a0_3, l0_4, l0_5, a1, a2, l3 => if a0_0 = 0 then (some (⟨#[110, 117, 108, 108]⟩ : ByteArray)) else (if a0_0 = 1 then (some (⟨#[116, 114, 117, 101]⟩ : ByteArray)) else (if a0_0 = 2 then (some (⟨#[102, 97, 108, 115, 101]⟩ : ByteArray)) else (if a0_0 = 3 then ((impl_DecText.f k a0_1 a0_2 l3).bind fun t282 => (some t282)) else (if a0_0 = 4 then ((impl_jsonText.f k a0_3).bind fun t283 => (some t283)) else (if a1 = true then (impl_layout.j0 k a1 a2 (⟨#[]⟩ : ByteArray) (⟨#[]⟩ : ByteArray) (⟨#[]⟩ : ByteArray) (⟨#[]⟩ : ByteArray) (decide ((l0_4.length : Int) > 0)) l3 a0_0 a0_1 a0_2 a0_3 l0_4 l0_5) else (impl_layout.j0 k a1 a2 (⟨#[]⟩ : ByteArray) (⟨#[]⟩ : ByteArray) (⟨#[]⟩ : ByteArray) (⟨#[]⟩ : ByteArray) false l3 a0_0 a0_1 a0_2 a0_3 l0_4 l0_5))))))
end
theorem impl_layout.mono_l : ∀ k, (∀ y0 y1 y2 y3 y4 y5 y6 y7 y8, LeO (impl_layout.f k y0 y1 y2 y3 y4 y5 y6 y7 y8) (impl_layout.f (k + 1) y0 y1 y2 y3 y4 y5 y6 y7 y8)) ∧ (∀ y0 y1 y2 y3 y4 y5 y6 y7 y8 y9 y10 y11 y12 y13, LeO (impl_layout.j0 k y0 y1 y2 y3 y4 y5 y6 y7 y8 y9 y10 y11 y12 y13) (impl_layout.j0 (k + 1) y0 y1 y2 y3 y4 y5 y6 y7 y8 y9 y10 y11 y12 y13)) ∧ (∀ y0 y1 y2 y3 y4 y5 y6 y7 y8 y9 y10 y11, LeO (impl_layout.j1 k y0 y1 y2 y3 y4 y5 y6 y7 y8 y9 y10 y11) (impl_layout.j1 (k + 1) y0 y1 y2 y3 y4 y5 y6 y7 y8 y9 y10 y11)) ∧ (∀ y0 y1 y2 y3 y4 y5 y6 y7 y8 y9 y10 y11 y12, LeO (impl_layout.j2 k y0 y1 y2 y3 y4 y5 y6 y7 y8 y9 y10 y11 y12) (impl_layout.j2 (k + 1) y0 y1 y2 y3 y4 y5 y6 y7 y8 y9 y10 y11 y12)) ∧ (∀ y0 y1 y2 y3 y4 y5 y6 y7 y8 y9 y10 y11 y12 y13 y14 y15 y16, LeO (impl_layout.l0 k y0 y1 y2 y3 y4 y5 y6 y7 y8 y9 y10 y11 y12 y13 y14 y15 y16) (impl_layout.l0 (k + 1) y0 y1 y2 y3 y4 y5 y6 y7 y8 y9 y10 y11 y12 y13 y14 y15 y16))
 | 0 => ⟨fun _ _ _ _ _ _ _ _ _ r h => by simp [impl_layout.f] at h, fun _ _ _ _ _ _ _ _ _ _ _ _ _ _ r h => by simp [impl_layout.j0] at h, fun _ _ _ _ _ _ _ _ _ _ _ _ r h => by simp [impl_layout.j1] at h, fun _ _ _ _ _ _ _ _ _ _ _ _ _ r h => by simp [impl_layout.j2] at h, fun _ _ _ _ _ _ _ _ _ _ _ _ _ _ _ _ _ r h => by simp [impl_layout.l0] at h⟩
 | k + 1 => by
  obtain ⟨ih0, ih1, ih2, ih3, ih4⟩ := impl_layout.mono_l k
  refine ⟨?_, ?_, ?_, ?_, ?_⟩
  ·intro y0 y1 y2 y3 y4 y5 y6 y7 y8
   unfold impl_layout.f
   repeat' first
   | (with_reducible exact ih0 _ _ _ _ _ _ _ _ _)
   | (with_reducible exact ih1 _ _ _ _ _ _ _ _ _ _ _ _ _ _)
   | (with_reducible exact ih2 _ _ _ _ _ _ _ _ _ _ _ _)
   | (with_reducible exact ih3 _ _ _ _ _ _ _ _ _ _ _ _ _)
   | (with_reducible exact ih4 _ _ _ _ _ _ _ _ _ _ _ _ _ _ _ _ _)
   | (with_reducible exact impl_DecText.mono _ _ _ _)
   | (with_reducible exact impl_jsonText.mono _ _)
   | (with_reducible exact LeO.refl _)
   | (with_reducible exact LeO.none _)
   | (with_reducible refine LeO.ite ?_ ?_)
   | (with_reducible refine LeO.bind ?_ (fun _ => ?_))
   | exact ih0 _ _ _ _ _ _ _ _ _
   | exact ih1 _ _ _ _ _ _ _ _ _ _ _ _ _ _
   | exact ih2 _ _ _ _ _ _ _ _ _ _ _ _
   | exact ih3 _ _ _ _ _ _ _ _ _ _ _ _ _
   | exact ih4 _ _ _ _ _ _ _ _ _ _ _ _ _ _ _ _ _
  ·intro y0 y1 y2 y3 y4 y5 y6 y7 y8 y9 y10 y11 y12 y13
   unfold impl_layout.j0
   repeat' first
   | (with_reducible exact ih0 _ _ _ _ _ _ _ _ _)
   | (with_reducible exact ih1 _ _ _ _ _ _ _ _ _ _ _ _ _ _)
   | (with_reducible exact ih2 _ _ _ _ _ _ _ _ _ _ _ _)
   | (with_reducible exact ih3 _ _ _ _ _ _ _ _ _ _ _ _ _)
   | (with_reducible exact ih4 _ _ _ _ _ _ _ _ _ _ _ _ _ _ _ _ _)
   | (with_reducible exact impl_DecText.mono _ _ _ _)
   | (with_reducible exact impl_jsonText.mono _ _)
   | (with_reducible exact LeO.refl _)
   | (with_reducible exact LeO.none _)
   | (with_reducible refine LeO.ite ?_ ?_)
   | (with_reducible refine LeO.bind ?_ (fun _ => ?_))
   | exact ih0 _ _ _ _ _ _ _ _ _
   | exact ih1 _ _ _ _ _ _ _ _ _ _ _ _ _ _
   | exact ih2 _ _ _ _ _ _ _ _ _ _ _ _
   | exact ih3 _ _ _ _ _ _ _ _ _ _ _ _ _
   | exact ih4 _ _ _ _ _ _ _ _ _ _ _ _ _ _ _ _ _
  ·intro y0 y1 y2 y3 y4 y5 y6 y7 y8 y9 y10 y11
   unfold impl_layout.j1
   repeat' first
   | (with_reducible exact ih0 _ _ _ _ _ _ _ _ _)
   | (with_reducible exact ih1 _ _ _ _ _ _ _ _ _ _ _ _ _ _)
   | (with_reducible exact ih2 _ _ _ _ _ _ _ _ _ _ _ _)
   | (with_reducible exact ih3 _ _ _ _ _ _ _ _ _ _ _ _ _)
   | (with_reducible exact ih4 _ _ _ _ _ _ _ _ _ _ _ _ _ _ _ _ _)
   | (with_reducible exact impl_DecText.mono _ _ _ _)
   | (with_reducible exact impl_jsonText.mono _ _)
   | (with_reducible exact LeO.refl _)
   | (with_reducible exact LeO.none _)
   | (with_reducible refine LeO.ite ?_ ?_)
   | (with_reducible refine LeO.bind ?_ (fun _ => ?_))
   | exact ih0 _ _ _ _ _ _ _ _ _
   | exact ih1 _ _ _ _ _ _ _ _ _ _ _ _ _ _
   | exact ih2 _ _ _ _ _ _ _ _ _ _ _ _
   | exact ih3 _ _ _ _ _ _ _ _ _ _ _ _ _
   | exact ih4 _ _ _ _ _ _ _ _ _ _ _ _ _ _ _ _ _
  ·intro y0 y1 y2 y3 y4 y5 y6 y7 y8 y9 y10 y11 y12
   unfold impl_layout.j2
   repeat' first
   | (with_reducible exact ih0 _ _ _ _ _ _ _ _ _)
   | (with_reducible exact ih1 _ _ _ _ _ _ _ _ _ _ _ _ _ _)
   | (with_reducible exact ih2 _ _ _ _ _ _ _ _ _ _ _ _)
   | (with_reducible exact ih3 _ _ _ _ _ _ _ _ _ _ _ _ _)
   | (with_reducible exact ih4 _ _ _ _ _ _ _ _ _ _ _ _ _ _ _ _ _)
   | (with_reducible exact impl_DecText.mono _ _ _ _)
   | (with_reducible exact impl_jsonText.mono _ _)
   | (with_reducible exact LeO.refl _)
   | (with_reducible exact LeO.none _)
   | (with_reducible refine LeO.ite ?_ ?_)
   | (with_reducible refine LeO.bind ?_ (fun _ => ?_))
   | exact ih0 _ _ _ _ _ _ _ _ _
   | exact ih1 _ _ _ _ _ _ _ _ _ _ _ _ _ _
   | exact ih2 _ _ _ _ _ _ _ _ _ _ _ _
   | exact ih3 _ _ _ _ _ _ _ _ _ _ _ _ _
   | exact ih4 _ _ _ _ _ _ _ _ _ _ _ _ _ _ _ _ _
  ·intro y0 y1 y2 y3 y4 y5 y6 y7 y8 y9 y10 y11 y12 y13 y14 y15 y16
   unfold impl_layout.l0
   repeat' first
   | (with_reducible exact ih0 _ _ _ _ _ _ _ _ _)
   | (with_reducible exact ih1 _ _ _ _ _ _ _ _ _ _ _ _ _ _)
   | (with_reducible exact ih2 _ _ _ _ _ _ _ _ _ _ _ _)
   | (with_reducible exact ih3 _ _ _ _ _ _ _ _ _ _ _ _ _)
   | (with_reducible exact ih4 _ _ _ _ _ _ _ _ _ _ _ _ _ _ _ _ _)
   | (with_reducible exact impl_DecText.mono _ _ _ _)
   | (with_reducible exact impl_jsonText.mono _ _)
   | (with_reducible exact LeO.refl _)
   | (with_reducible exact LeO.none _)
   | (with_reducible refine LeO.ite ?_ ?_)
   | (with_reducible refine LeO.bind ?_ (fun _ => ?_))
   | exact ih0 _ _ _ _ _ _ _ _ _
   | exact ih1 _ _ _ _ _ _ _ _ _ _ _ _ _ _
   | exact ih2 _ _ _ _ _ _ _ _ _ _ _ _
   | exact ih3 _ _ _ _ _ _ _ _ _ _ _ _ _
   | exact ih4 _ _ _ _ _ _ _ _ _ _ _ _ _ _ _ _ _
theorem impl_layout.mono : ∀ a0 a1 a2 a3 a4 a5 a6 a7 a8 k, LeO (impl_layout.f k a0 a1 a2 a3 a4 a5 a6 a7 a8) (impl_layout.f (k + 1) a0 a1 a2 a3 a4 a5 a6 a7 a8) := by
 intro a0 a1 a2 a3 a4 a5 a6 a7 a8 k
 obtain ⟨ih0, ih1, ih2, ih3, ih4⟩ := impl_layout.mono_l k
 exact ih0 a0 a1 a2 a3 a4 a5 a6 a7 a8
def impl_layout.T28 : Bool × List (List Nat × List Nat) := (true, [([], []), ([0], [0]), ([], []), ([2], [2]), ([1, 3], [1, 3]), ([], []), ([4, 5], [4, 5]), ([], []), ([7], [7]), ([6, 8], [6, 8]), ([9, 3, 0, 1, 2, 3, 4, 5, 6, 7, 8, 9], [9])])
def impl_layout.B28 : List Nat := [0, 1, 0, 4, 15, 0, 63, 0, 128, 511, 1023]
theorem impl_layout.tab28 : rtab .any (opsOf Tryd.f17 28) = impl_layout.T28 := by kernel_rfl
theorem impl_layout.bits28 : waitsOk impl_layout.T28.2 impl_layout.B28 = true := by kernel_rfl
set_option maxHeartbeats 8000000 in
set_option maxRecDepth 100000 in
theorem impl_layout.calls (k : Nat) : ∀ (a0_0 : Int) (a0_1 : Int) (a0_2 : Int) (a0_3 : ByteArray) (A0_4 : Option Addr) (c0_4 : Nat) (l0_4 : List (S33)) (A0_5 : Option Addr) (c0_5 : Nat) (l0_5 : List ByteArray) (a1 : Bool) (a2 : ByteArray) (A3 : Option Addr) (c3 : Nat) (l3 : List Int) (r : ByteArray) (w : World) (hr0_4 : Kd.C k33 w A0_4 l0_4.length l0_4) (hc0_4 : l0_4.length ≤ c0_4) (hr0_5 : Kd.C Kd.string w A0_5 l0_5.length l0_5) (hc0_5 : l0_5.length ≤ c0_5) (hr3 : Kd.C kPow w A3 l3.length l3) (hc3 : l3.length ≤ c3) (hg3 : A3 = some ⟨2, 0, none⟩ ∧ l3 = [1]) (h : impl_layout.f k a0_0 a0_1 a0_2 a0_3 l0_4 l0_5 a1 a2 l3 = some r),
  Calls Tryd.prog 17 #[.agg #[.int .i64 a0_0, .int .i64 a0_1, .int .i64 a0_2, .string a0_3, .slice A0_4 l0_4.length c0_4, .slice A0_5 l0_5.length c0_5], .bool a1, .string a2] w fun e w' => e = .returned (.string r) ∧ Below w.heap.size w w' := by
 induction k using Nat.strongRecOn with
 | _ k ih =>
 intro a0_0 a0_1 a0_2 a0_3 A0_4 c0_4 l0_4 A0_5 c0_5 l0_5 a1 a2 A3 c3 l3 r w hr0_4 hc0_4 hr0_5 hc0_5 hr3 hc3 hg3 h
 cases k with
 | zero => exact absurd h (by simp [impl_layout.f])
 | succ k =>
 simp only [impl_layout.f] at h
 have hu33 := Tryd.underlying33
 have hu30 := Tryd.underlying30
 have HR0_4 := zA hr0_4
 have HC0_4 := zA hc0_4
 clear hr0_4 hc0_4
 have HR0_5 := zA hr0_5
 have HC0_5 := zA hc0_5
 clear hr0_5 hc0_5
 have HG3 := zA hg3
 clear hg3
 have HR3 := zA hr3
 have HC3 := zA hc3
 clear hr3 hc3
 have HB := zA (yJ w.heap.size w)
 have H : (if a0_0 = 0 then (some (⟨#[110, 117, 108, 108]⟩ : ByteArray)) else (if a0_0 = 1 then (some (⟨#[116, 114, 117, 101]⟩ : ByteArray)) else (if a0_0 = 2 then (some (⟨#[102, 97, 108, 115, 101]⟩ : ByteArray)) else (if a0_0 = 3 then ((impl_DecText.f k a0_1 a0_2 l3).bind fun t282 => (some t282)) else (if a0_0 = 4 then ((impl_jsonText.f k a0_3).bind fun t283 => (some t283)) else (if a1 = true then (impl_layout.j0 k a1 a2 (⟨#[]⟩ : ByteArray) (⟨#[]⟩ : ByteArray) (⟨#[]⟩ : ByteArray) (⟨#[]⟩ : ByteArray) (decide ((l0_4.length : Int) > 0)) l3 a0_0 a0_1 a0_2 a0_3 l0_4 l0_5) else (impl_layout.j0 k a1 a2 (⟨#[]⟩ : ByteArray) (⟨#[]⟩ : ByteArray) (⟨#[]⟩ : ByteArray) (⟨#[]⟩ : ByteArray) false l3 a0_0 a0_1 a0_2 a0_3 l0_4 l0_5))))))) = some r := h
 clear h
 by_cases c5 : a0_0 = 0
 ·rw [if_pos c5] at H
  have c5b0 : (a0_0 == 0) = true := beq_iff_eq.mpr c5
  have c5b1 : (a0_0 != 0) = false := bne_eq_false_iff_eq.mpr c5
  clear c5
  obtain rfl := yH H
  go_enter Tryd.func17, Tryd.ntmps17
  go_wp2_with (first | ((with_reducible refine zT (N := 3) rfl ?_); (try (refine gate_guard (by rfl) ?_; dsimp only)); refine zX ?hg (N := 3) ?hd (cs := #[.int .i64 a0_0, .int .i64 a0_1, .int .i64 a0_2, .string a0_3, .slice A0_4 l0_4.length c0_4, .slice A0_5 l0_5.length c0_5]) (t := 33) ?hr ?_; (case hd => rfl); (case hg => rfl); (case hr => first | (go_simp; done) | (go_simp; rfl)); intro gb281 hg w6 hbox hb; have n0_ := zA (zQ (by repeat (first | (with_reducible first | exact HB.out | apply zG | apply zE | apply zF) | exact HB.out)) hb); have n1_ := zA (hbox); have n2_ := zA ((by rw [hg]; exact (zR (by repeat (first | (with_reducible first | exact HB.out | apply zG | apply zE | apply zF) | exact HB.out))) : w.heap.size ≤ gb281)); have n3_ := zA ((by rw [hg]; exact (zR (by repeat (first | (with_reducible first | exact HB.out | apply zG | apply zE | apply zF) | exact HB.out))) : w.heap.size ≤ gb281)); clear HB; have HB := n0_; have BK281 := n1_; have GW281 := n2_; have GE281 := n3_; clear n0_ n1_ n2_ n3_; clear hb hbox hg; have hcz7_0 : w6.cell? ⟨gb281, 0, none⟩ = some (.int .i64 a0_0) := (zJ BK281.out 0).trans rfl; have hcz7_1 : w6.cell? ⟨gb281, 1, none⟩ = some (.int .i64 a0_1) := (zJ BK281.out 1).trans rfl; have hcz7_2 : w6.cell? ⟨gb281, 2, none⟩ = some (.int .i64 a0_2) := (zJ BK281.out 2).trans rfl; have hcz7_3 : w6.cell? ⟨gb281, 3, none⟩ = some (.string a0_3) := (zJ BK281.out 3).trans rfl; have hcz7_4 : w6.cell? ⟨gb281, 4, none⟩ = some (.slice A0_4 l0_4.length c0_4) := (zJ BK281.out 4).trans rfl; have hcz7_5 : w6.cell? ⟨gb281, 5, none⟩ = some (.slice A0_5 l0_5.length c0_5) := (zJ BK281.out 5).trans rfl; have hfz7_0 := zK BK281.out 0; have hfz7_1 := zK BK281.out 1; have hfz7_2 := zK BK281.out 2; have hfz7_3 := zK BK281.out 3; have hfz7_4 := zK BK281.out 4; have hfz7_5 := zK BK281.out 5))
  go_ret
  exact ⟨by first | rfl | (simp [errW_none, errW_some] <;> rfl) | (simp [*, errW_none, errW_some] <;> rfl), by repeat (first | (with_reducible first | exact HB.out | apply zG | apply zE | apply zF | refine zH ?_ GE281.out) | exact HB.out)⟩
 ·rw [if_neg c5] at H
  have c5b0 : (a0_0 == 0) = false := beq_eq_false_iff_ne.mpr c5
  have c5b1 : (a0_0 != 0) = true := bne_iff_ne.mpr c5
  by_cases c8 : a0_0 = 1
  ·rw [if_pos c8] at H
   have c8b0 : (a0_0 == 1) = true := beq_iff_eq.mpr c8
   have c8b1 : (a0_0 != 1) = false := bne_eq_false_iff_eq.mpr c8
   clear c8
   obtain rfl := yH H
   go_enter Tryd.func17, Tryd.ntmps17
   go_wp2_with (first | ((with_reducible refine zT (N := 3) rfl ?_); (try (refine gate_guard (by rfl) ?_; dsimp only)); refine zX ?hg (N := 3) ?hd (cs := #[.int .i64 a0_0, .int .i64 a0_1, .int .i64 a0_2, .string a0_3, .slice A0_4 l0_4.length c0_4, .slice A0_5 l0_5.length c0_5]) (t := 33) ?hr ?_; (case hd => rfl); (case hg => rfl); (case hr => first | (go_simp; done) | (go_simp; rfl)); intro gb281 hg w9 hbox hb; have n0_ := zA (zQ (by repeat (first | (with_reducible first | exact HB.out | apply zG | apply zE | apply zF) | exact HB.out)) hb); have n1_ := zA (hbox); have n2_ := zA ((by rw [hg]; exact (zR (by repeat (first | (with_reducible first | exact HB.out | apply zG | apply zE | apply zF) | exact HB.out))) : w.heap.size ≤ gb281)); have n3_ := zA ((by rw [hg]; exact (zR (by repeat (first | (with_reducible first | exact HB.out | apply zG | apply zE | apply zF) | exact HB.out))) : w.heap.size ≤ gb281)); clear HB; have HB := n0_; have BK281 := n1_; have GW281 := n2_; have GE281 := n3_; clear n0_ n1_ n2_ n3_; clear hb hbox hg; have hcz10_0 : w9.cell? ⟨gb281, 0, none⟩ = some (.int .i64 a0_0) := (zJ BK281.out 0).trans rfl; have hcz10_1 : w9.cell? ⟨gb281, 1, none⟩ = some (.int .i64 a0_1) := (zJ BK281.out 1).trans rfl; have hcz10_2 : w9.cell? ⟨gb281, 2, none⟩ = some (.int .i64 a0_2) := (zJ BK281.out 2).trans rfl; have hcz10_3 : w9.cell? ⟨gb281, 3, none⟩ = some (.string a0_3) := (zJ BK281.out 3).trans rfl; have hcz10_4 : w9.cell? ⟨gb281, 4, none⟩ = some (.slice A0_4 l0_4.length c0_4) := (zJ BK281.out 4).trans rfl; have hcz10_5 : w9.cell? ⟨gb281, 5, none⟩ = some (.slice A0_5 l0_5.length c0_5) := (zJ BK281.out 5).trans rfl; have hfz10_0 := zK BK281.out 0; have hfz10_1 := zK BK281.out 1; have hfz10_2 := zK BK281.out 2; have hfz10_3 := zK BK281.out 3; have hfz10_4 := zK BK281.out 4; have hfz10_5 := zK BK281.out 5))
   go_ret
   exact ⟨by first | rfl | (simp [errW_none, errW_some] <;> rfl) | (simp [*, errW_none, errW_some] <;> rfl), by repeat (first | (with_reducible first | exact HB.out | apply zG | apply zE | apply zF | refine zH ?_ GE281.out) | exact HB.out)⟩
  ·rw [if_neg c8] at H
   have c8b0 : (a0_0 == 1) = false := beq_eq_false_iff_ne.mpr c8
   have c8b1 : (a0_0 != 1) = true := bne_iff_ne.mpr c8
   by_cases c11 : a0_0 = 2
   ·rw [if_pos c11] at H
    have c11b0 : (a0_0 == 2) = true := beq_iff_eq.mpr c11
    have c11b1 : (a0_0 != 2) = false := bne_eq_false_iff_eq.mpr c11
    clear c11
    obtain rfl := yH H
    go_enter Tryd.func17, Tryd.ntmps17
    go_wp2_with (first | ((with_reducible refine zT (N := 3) rfl ?_); (try (refine gate_guard (by rfl) ?_; dsimp only)); refine zX ?hg (N := 3) ?hd (cs := #[.int .i64 a0_0, .int .i64 a0_1, .int .i64 a0_2, .string a0_3, .slice A0_4 l0_4.length c0_4, .slice A0_5 l0_5.length c0_5]) (t := 33) ?hr ?_; (case hd => rfl); (case hg => rfl); (case hr => first | (go_simp; done) | (go_simp; rfl)); intro gb281 hg w12 hbox hb; have n0_ := zA (zQ (by repeat (first | (with_reducible first | exact HB.out | apply zG | apply zE | apply zF) | exact HB.out)) hb); have n1_ := zA (hbox); have n2_ := zA ((by rw [hg]; exact (zR (by repeat (first | (with_reducible first | exact HB.out | apply zG | apply zE | apply zF) | exact HB.out))) : w.heap.size ≤ gb281)); have n3_ := zA ((by rw [hg]; exact (zR (by repeat (first | (with_reducible first | exact HB.out | apply zG | apply zE | apply zF) | exact HB.out))) : w.heap.size ≤ gb281)); clear HB; have HB := n0_; have BK281 := n1_; have GW281 := n2_; have GE281 := n3_; clear n0_ n1_ n2_ n3_; clear hb hbox hg; have hcz13_0 : w12.cell? ⟨gb281, 0, none⟩ = some (.int .i64 a0_0) := (zJ BK281.out 0).trans rfl; have hcz13_1 : w12.cell? ⟨gb281, 1, none⟩ = some (.int .i64 a0_1) := (zJ BK281.out 1).trans rfl; have hcz13_2 : w12.cell? ⟨gb281, 2, none⟩ = some (.int .i64 a0_2) := (zJ BK281.out 2).trans rfl; have hcz13_3 : w12.cell? ⟨gb281, 3, none⟩ = some (.string a0_3) := (zJ BK281.out 3).trans rfl; have hcz13_4 : w12.cell? ⟨gb281, 4, none⟩ = some (.slice A0_4 l0_4.length c0_4) := (zJ BK281.out 4).trans rfl; have hcz13_5 : w12.cell? ⟨gb281, 5, none⟩ = some (.slice A0_5 l0_5.length c0_5) := (zJ BK281.out 5).trans rfl; have hfz13_0 := zK BK281.out 0; have hfz13_1 := zK BK281.out 1; have hfz13_2 := zK BK281.out 2; have hfz13_3 := zK BK281.out 3; have hfz13_4 := zK BK281.out 4; have hfz13_5 := zK BK281.out 5))
    go_ret
    exact ⟨by first | rfl | (simp [errW_none, errW_some] <;> rfl) | (simp [*, errW_none, errW_some] <;> rfl), by repeat (first | (with_reducible first | exact HB.out | apply zG | apply zE | apply zF | refine zH ?_ GE281.out) | exact HB.out)⟩
   ·rw [if_neg c11] at H
    have c11b0 : (a0_0 == 2) = false := beq_eq_false_iff_ne.mpr c11
    have c11b1 : (a0_0 != 2) = true := bne_iff_ne.mpr c11
    by_cases c14 : a0_0 = 3
    ·rw [if_pos c14] at H
     have c14b0 : (a0_0 == 3) = true := beq_iff_eq.mpr c14
     have c14b1 : (a0_0 != 3) = false := bne_eq_false_iff_eq.mpr c14
     clear c14
     replace H := Option.bind_eq_some_iff.mp H
     obtain ⟨t282, A150, H⟩ := H
     replace H : (some t282) = some r := H
     have A15 := zA A150
     clear A150
     obtain rfl := yH H
     go_enter Tryd.func17, Tryd.ntmps17
     go_wp2_with (first | ((with_reducible refine zT (N := 3) rfl ?_); (try (refine gate_guard (by rfl) ?_; dsimp only)); refine zX ?hg (N := 3) ?hd (cs := #[.int .i64 a0_0, .int .i64 a0_1, .int .i64 a0_2, .string a0_3, .slice A0_4 l0_4.length c0_4, .slice A0_5 l0_5.length c0_5]) (t := 33) ?hr ?_; (case hd => rfl); (case hg => rfl); (case hr => first | (go_simp; done) | (go_simp; rfl)); intro gb281 hg w16 hbox hb; have n0_ := zA (zQ (by repeat (first | (with_reducible first | exact HB.out | apply zG | apply zE | apply zF) | exact HB.out)) hb); have n1_ := zA (hbox); have n2_ := zA ((by rw [hg]; exact (zR (by repeat (first | (with_reducible first | exact HB.out | apply zG | apply zE | apply zF) | exact HB.out))) : w.heap.size ≤ gb281)); have n3_ := zA ((by rw [hg]; exact (zR (by repeat (first | (with_reducible first | exact HB.out | apply zG | apply zE | apply zF) | exact HB.out))) : w.heap.size ≤ gb281)); clear HB; have HB := n0_; have BK281 := n1_; have GW281 := n2_; have GE281 := n3_; clear n0_ n1_ n2_ n3_; clear hb hbox hg; have hcz17_0 : w16.cell? ⟨gb281, 0, none⟩ = some (.int .i64 a0_0) := (zJ BK281.out 0).trans rfl; have hcz17_1 : w16.cell? ⟨gb281, 1, none⟩ = some (.int .i64 a0_1) := (zJ BK281.out 1).trans rfl; have hcz17_2 : w16.cell? ⟨gb281, 2, none⟩ = some (.int .i64 a0_2) := (zJ BK281.out 2).trans rfl; have hcz17_3 : w16.cell? ⟨gb281, 3, none⟩ = some (.string a0_3) := (zJ BK281.out 3).trans rfl; have hcz17_4 : w16.cell? ⟨gb281, 4, none⟩ = some (.slice A0_4 l0_4.length c0_4) := (zJ BK281.out 4).trans rfl; have hcz17_5 : w16.cell? ⟨gb281, 5, none⟩ = some (.slice A0_5 l0_5.length c0_5) := (zJ BK281.out 5).trans rfl; have hfz17_0 := zK BK281.out 0; have hfz17_1 := zK BK281.out 1; have hfz17_2 := zK BK281.out 2; have hfz17_3 := zK BK281.out 3; have hfz17_4 := zK BK281.out 4; have hfz17_5 := zK BK281.out 5) | ((with_reducible refine zV (f := 28) rfl ?_); refine goesL_ (some 28) rfl rfl Tryd.func28 (by kernel_rfl) rfl #[.agg #[.int .i64 a0_1, .int .i64 a0_2]] rfl (by (try simp only [yA, yD, yE]); first | done | rfl | (simp only [yB, yC]; rfl)) ?_; (with_reducible refine (impl_DecText.calls k a0_1 a0_2 A3 c3 l3 t282 _ ?side1 ?side2 ?side3 A15.out).mono ?_); (case side1 => repeat (first | exact (Kd.C_below HR3.out HB.out) | (with_reducible refine Kd.C_alloc ?_ _) | (with_reducible refine Kd.C_drewN ?_ _) | (with_reducible refine Kd.C_drew ?_))); (case side2 => exact HC3.out); (case side3 => exact HG3.out); rintro e w18 ⟨rfl, hb⟩; refine ⟨_, rfl, ?_⟩; have n0_ := zA (zQ (by repeat (first | (with_reducible first | exact HB.out | apply zG | apply zE | apply zF) | exact HB.out)) hb); clear HB; have HB := n0_; clear n0_; (try clear hb); (try clear hb2); (try clear hk); (try clear hi)))
     go_ret
     exact ⟨by first | rfl | (simp [errW_none, errW_some] <;> rfl) | (simp [*, errW_none, errW_some] <;> rfl), by repeat (first | (with_reducible first | exact HB.out | apply zG | apply zE | apply zF) | exact HB.out)⟩
    ·rw [if_neg c14] at H
     have c14b0 : (a0_0 == 3) = false := beq_eq_false_iff_ne.mpr c14
     have c14b1 : (a0_0 != 3) = true := bne_iff_ne.mpr c14
     by_cases c19 : a0_0 = 4
     ·rw [if_pos c19] at H
      have c19b0 : (a0_0 == 4) = true := beq_iff_eq.mpr c19
      have c19b1 : (a0_0 != 4) = false := bne_eq_false_iff_eq.mpr c19
      clear c19
      replace H := Option.bind_eq_some_iff.mp H
      obtain ⟨t283, A200, H⟩ := H
      replace H : (some t283) = some r := H
      have A20 := zA A200
      clear A200
      obtain rfl := yH H
      go_enter Tryd.func17, Tryd.ntmps17
      go_wp2_with (first | ((with_reducible refine zT (N := 3) rfl ?_); (try (refine gate_guard (by rfl) ?_; dsimp only)); refine zX ?hg (N := 3) ?hd (cs := #[.int .i64 a0_0, .int .i64 a0_1, .int .i64 a0_2, .string a0_3, .slice A0_4 l0_4.length c0_4, .slice A0_5 l0_5.length c0_5]) (t := 33) ?hr ?_; (case hd => rfl); (case hg => rfl); (case hr => first | (go_simp; done) | (go_simp; rfl)); intro gb281 hg w21 hbox hb; have n0_ := zA (zQ (by repeat (first | (with_reducible first | exact HB.out | apply zG | apply zE | apply zF) | exact HB.out)) hb); have n1_ := zA (hbox); have n2_ := zA ((by rw [hg]; exact (zR (by repeat (first | (with_reducible first | exact HB.out | apply zG | apply zE | apply zF) | exact HB.out))) : w.heap.size ≤ gb281)); have n3_ := zA ((by rw [hg]; exact (zR (by repeat (first | (with_reducible first | exact HB.out | apply zG | apply zE | apply zF) | exact HB.out))) : w.heap.size ≤ gb281)); clear HB; have HB := n0_; have BK281 := n1_; have GW281 := n2_; have GE281 := n3_; clear n0_ n1_ n2_ n3_; clear hb hbox hg; have hcz22_0 : w21.cell? ⟨gb281, 0, none⟩ = some (.int .i64 a0_0) := (zJ BK281.out 0).trans rfl; have hcz22_1 : w21.cell? ⟨gb281, 1, none⟩ = some (.int .i64 a0_1) := (zJ BK281.out 1).trans rfl; have hcz22_2 : w21.cell? ⟨gb281, 2, none⟩ = some (.int .i64 a0_2) := (zJ BK281.out 2).trans rfl; have hcz22_3 : w21.cell? ⟨gb281, 3, none⟩ = some (.string a0_3) := (zJ BK281.out 3).trans rfl; have hcz22_4 : w21.cell? ⟨gb281, 4, none⟩ = some (.slice A0_4 l0_4.length c0_4) := (zJ BK281.out 4).trans rfl; have hcz22_5 : w21.cell? ⟨gb281, 5, none⟩ = some (.slice A0_5 l0_5.length c0_5) := (zJ BK281.out 5).trans rfl; have hfz22_0 := zK BK281.out 0; have hfz22_1 := zK BK281.out 1; have hfz22_2 := zK BK281.out 2; have hfz22_3 := zK BK281.out 3; have hfz22_4 := zK BK281.out 4; have hfz22_5 := zK BK281.out 5) | ((with_reducible refine zV (f := 29) rfl ?_); refine goesL_ (some 33) rfl rfl Tryd.func29 (by kernel_rfl) rfl #[.string a0_3] rfl (by (try simp only [yA, yD, yE]); first | done | rfl | (simp only [yB, yC]; rfl)) ?_; (with_reducible refine (impl_jsonText.calls k a0_3 t283 _ A20.out).mono ?_); rintro e w23 ⟨rfl, hb⟩; refine ⟨_, rfl, ?_⟩; have n0_ := zA (zQ (by repeat (first | (with_reducible first | exact HB.out | apply zG | apply zE | apply zF) | exact HB.out)) hb); clear HB; have HB := n0_; clear n0_; (try clear hb); (try clear hb2); (try clear hk); (try clear hi)))
      go_ret
      exact ⟨by first | rfl | (simp [errW_none, errW_some] <;> rfl) | (simp [*, errW_none, errW_some] <;> rfl), by repeat (first | (with_reducible first | exact HB.out | apply zG | apply zE | apply zF) | exact HB.out)⟩
     ·rw [if_neg c19] at H
      have c19b0 : (a0_0 == 4) = false := beq_eq_false_iff_ne.mpr c19
      have c19b1 : (a0_0 != 4) = true := bne_iff_ne.mpr c19
      have HC24 := zA H
      clear H
      go_enter Tryd.func17, Tryd.ntmps17
      go_upto_region 13 with (first | ((with_reducible refine zT (N := 3) rfl ?_); (try (refine gate_guard (by rfl) ?_; dsimp only)); refine zX ?hg (N := 3) ?hd (cs := #[.int .i64 a0_0, .int .i64 a0_1, .int .i64 a0_2, .string a0_3, .slice A0_4 l0_4.length c0_4, .slice A0_5 l0_5.length c0_5]) (t := 33) ?hr ?_; (case hd => rfl); (case hg => rfl); (case hr => first | (go_simp; done) | (go_simp; rfl)); intro gb281 hg w25 hbox hb; have n0_ := zA (zQ (by repeat (first | (with_reducible first | exact HB.out | apply zG | apply zE | apply zF) | exact HB.out)) hb); have n1_ := zA (hbox); have n2_ := zA ((by rw [hg]; exact (zR (by repeat (first | (with_reducible first | exact HB.out | apply zG | apply zE | apply zF) | exact HB.out))) : w.heap.size ≤ gb281)); have n3_ := zA ((by rw [hg]; exact (zR (by repeat (first | (with_reducible first | exact HB.out | apply zG | apply zE | apply zF) | exact HB.out))) : w.heap.size ≤ gb281)); clear HB; have HB := n0_; have BK281 := n1_; have GW281 := n2_; have GE281 := n3_; clear n0_ n1_ n2_ n3_; clear hb hbox hg; have hcz26_0 : w25.cell? ⟨gb281, 0, none⟩ = some (.int .i64 a0_0) := (zJ BK281.out 0).trans rfl; have hcz26_1 : w25.cell? ⟨gb281, 1, none⟩ = some (.int .i64 a0_1) := (zJ BK281.out 1).trans rfl; have hcz26_2 : w25.cell? ⟨gb281, 2, none⟩ = some (.int .i64 a0_2) := (zJ BK281.out 2).trans rfl; have hcz26_3 : w25.cell? ⟨gb281, 3, none⟩ = some (.string a0_3) := (zJ BK281.out 3).trans rfl; have hcz26_4 : w25.cell? ⟨gb281, 4, none⟩ = some (.slice A0_4 l0_4.length c0_4) := (zJ BK281.out 4).trans rfl; have hcz26_5 : w25.cell? ⟨gb281, 5, none⟩ = some (.slice A0_5 l0_5.length c0_5) := (zJ BK281.out 5).trans rfl; have hfz26_0 := zK BK281.out 0; have hfz26_1 := zK BK281.out 1; have hfz26_2 := zK BK281.out 2; have hfz26_3 := zK BK281.out 3; have hfz26_4 := zK BK281.out 4; have hfz26_5 := zK BK281.out 5))
      (try simp only [Act.put, zL, zM, zN])
      go_cut [40] (fun v40 wc => ∃ (kq : Nat) (x40_23 : Bool), v40 = .bool x40_23 ∧ Aside0 (impl_layout.j0 kq a1 a2 (⟨#[]⟩ : ByteArray) (⟨#[]⟩ : ByteArray) (⟨#[]⟩ : ByteArray) (⟨#[]⟩ : ByteArray) x40_23 l3 a0_0 a0_1 a0_2 a0_3 l0_4 l0_5 = some r) ∧ Aside0 (kq ≤ k) ∧ Aside0 (wc.heap[gb281]? = some (.cells #[.int .i64 a0_0, .int .i64 a0_1, .int .i64 a0_2, .string a0_3, (.slice A0_4 l0_4.length c0_4), (.slice A0_5 l0_5.length c0_5)] 33 (0, 0))) ∧ Aside0 (Below w.heap.size w wc))
      case first =>
       have H := HC24.out
       clear HC24
       by_cases c27 : a1 = true
       ·subst c27
        have H1 : (impl_layout.j0 k true a2 (⟨#[]⟩ : ByteArray) (⟨#[]⟩ : ByteArray) (⟨#[]⟩ : ByteArray) (⟨#[]⟩ : ByteArray) (decide ((l0_4.length : Int) > 0)) l3 a0_0 a0_1 a0_2 a0_3 l0_4 l0_5) = some r := by rw [if_pos rfl] at H; exact H
        clear H
        have H := H1
        clear H1
        have H' := zA H
        clear H
        have hcz28_0 : w25.cell? ⟨gb281, 0, none⟩ = some (.int .i64 a0_0) := (zJ BK281.out 0).trans rfl
        have hcz28_1 : w25.cell? ⟨gb281, 1, none⟩ = some (.int .i64 a0_1) := (zJ BK281.out 1).trans rfl
        have hcz28_2 : w25.cell? ⟨gb281, 2, none⟩ = some (.int .i64 a0_2) := (zJ BK281.out 2).trans rfl
        have hcz28_3 : w25.cell? ⟨gb281, 3, none⟩ = some (.string a0_3) := (zJ BK281.out 3).trans rfl
        have hcz28_4 : w25.cell? ⟨gb281, 4, none⟩ = some (.slice A0_4 l0_4.length c0_4) := (zJ BK281.out 4).trans rfl
        have hcz28_5 : w25.cell? ⟨gb281, 5, none⟩ = some (.slice A0_5 l0_5.length c0_5) := (zJ BK281.out 5).trans rfl
        have hfz28_0 := zK BK281.out 0
        have hfz28_1 := zK BK281.out 1
        have hfz28_2 := zK BK281.out 2
        have hfz28_3 := zK BK281.out 3
        have hfz28_4 := zK BK281.out 4
        have hfz28_5 := zK BK281.out 5
        go_wp2
        go_meet
        case rel => exact ⟨_, (decide ((l0_4.length : Int) > 0)), (by first | rfl | (simp; done) | (simp [*]; done) | (simp [isEmpty_bne]; done)), H', ⟨by first | omega | exact yK _⟩, ⟨by (with_reducible repeat (first | refine zB ?_ _ | refine zD ?_ | refine zC ?_ _)); exact BK281.out⟩, ⟨by repeat (first | (with_reducible first | exact HB.out | apply zG | apply zE | apply zF | refine zH ?_ GE281.out) | exact HB.out)⟩⟩
       ·replace c27 := Bool.eq_false_iff.mpr c27
        subst c27
        have H1 : (impl_layout.j0 k false a2 (⟨#[]⟩ : ByteArray) (⟨#[]⟩ : ByteArray) (⟨#[]⟩ : ByteArray) (⟨#[]⟩ : ByteArray) false l3 a0_0 a0_1 a0_2 a0_3 l0_4 l0_5) = some r := by rw [if_neg (show ¬ (false = true) by decide)] at H; exact H
        clear H
        have H := H1
        clear H1
        have H' := zA H
        clear H
        go_wp2
        go_meet
        case rel => exact ⟨_, (false), (by first | rfl | (simp; done) | (simp [*]; done) | (simp [isEmpty_bne]; done)), H', ⟨by first | omega | exact yK _⟩, ⟨by (with_reducible repeat (first | refine zB ?_ _ | refine zD ?_ | refine zC ?_ _)); exact BK281.out⟩, ⟨by repeat (first | (with_reducible first | exact HB.out | apply zG | apply zE | apply zF | refine zH ?_ GE281.out) | exact HB.out)⟩⟩
      case rest =>
       clear HC24
       try clear c1
       try clear c2
       try clear p2
       try clear c3
       try clear c5
       try clear c5b0
       try clear c5b1
       try clear c8
       try clear c8b0
       try clear c8b1
       try clear c11
       try clear c11b0
       try clear c11b1
       try clear c14
       try clear c14b0
       try clear c14b1
       try clear c17
       try clear c19
       try clear c19b0
       try clear c19b1
       try clear c27
       try clear c28
       try clear hcz10_0
       try clear hcz10_1
       try clear hcz10_2
       try clear hcz10_3
       try clear hcz10_4
       try clear hcz10_5
       try clear hcz13_0
       try clear hcz13_1
       try clear hcz13_2
       try clear hcz13_3
       try clear hcz13_4
       try clear hcz13_5
       try clear hcz17_0
       try clear hcz17_1
       try clear hcz17_2
       try clear hcz17_3
       try clear hcz17_4
       try clear hcz17_5
       try clear hcz22_0
       try clear hcz22_1
       try clear hcz22_2
       try clear hcz22_3
       try clear hcz22_4
       try clear hcz22_5
       try clear hcz26_0
       try clear hcz26_1
       try clear hcz26_2
       try clear hcz26_3
       try clear hcz26_4
       try clear hcz26_5
       try clear hcz28_0
       try clear hcz28_1
       try clear hcz28_2
       try clear hcz28_3
       try clear hcz28_4
       try clear hcz28_5
       try clear hcz7_0
       try clear hcz7_1
       try clear hcz7_2
       try clear hcz7_3
       try clear hcz7_4
       try clear hcz7_5
       try clear hfz10_0
       try clear hfz10_1
       try clear hfz10_2
       try clear hfz10_3
       try clear hfz10_4
       try clear hfz10_5
       try clear hfz13_0
       try clear hfz13_1
       try clear hfz13_2
       try clear hfz13_3
       try clear hfz13_4
       try clear hfz13_5
       try clear hfz17_0
       try clear hfz17_1
       try clear hfz17_2
       try clear hfz17_3
       try clear hfz17_4
       try clear hfz17_5
       try clear hfz22_0
       try clear hfz22_1
       try clear hfz22_2
       try clear hfz22_3
       try clear hfz22_4
       try clear hfz22_5
       try clear hfz26_0
       try clear hfz26_1
       try clear hfz26_2
       try clear hfz26_3
       try clear hfz26_4
       try clear hfz26_5
       try clear hfz28_0
       try clear hfz28_1
       try clear hfz28_2
       try clear hfz28_3
       try clear hfz28_4
       try clear hfz28_5
       try clear hfz7_0
       try clear hfz7_1
       try clear hfz7_2
       try clear hfz7_3
       try clear hfz7_4
       try clear hfz7_5
       obtain ⟨kq, x40_23, rfl, HA, HJ23, BK281, HB⟩ := hcut
       cases kq with
       | zero => exact absurd HA.out (by simp [impl_layout.j0])
       | succ kj23 =>
        have H := HA.out
        clear HA
        simp only [impl_layout.j0] at H
        have HC29 := zA H
        clear H
        go_upto_if 40 with (fail)
        go_cut [7, 8, 9, 10] (fun v7 v8 v9 v10 wc => ∃ (kq : Nat) (x7_28 : ByteArray) (x8_28 : ByteArray) (x9_28 : ByteArray) (x10_28 : ByteArray), v7 = .string x7_28 ∧ v8 = .string x8_28 ∧ v9 = .string x9_28 ∧ v10 = .string x10_28 ∧ Aside0 (impl_layout.j1 kq a1 x7_28 x8_28 x9_28 x10_28 l3 a0_0 a0_1 a0_2 a0_3 l0_4 l0_5 = some r) ∧ Aside0 (kq ≤ kj23) ∧ Aside0 (wc.heap[gb281]? = some (.cells #[.int .i64 a0_0, .int .i64 a0_1, .int .i64 a0_2, .string a0_3, (.slice A0_4 l0_4.length c0_4), (.slice A0_5 l0_5.length c0_5)] 33 (0, 0))) ∧ Aside0 (Below w.heap.size w wc))
        case first =>
         have H := HC29.out
         clear HC29
         by_cases c30 : x40_23 = true
         ·subst c30
          have H1 : (if a2.size + 2 ≤ 9223372036854775807 then (if 1 + (a2 ++ (⟨#[32, 32]⟩ : ByteArray)).size ≤ 9223372036854775807 then (if 1 + a2.size ≤ 9223372036854775807 then (impl_layout.j1 kj23 a1 (a2 ++ (⟨#[32, 32]⟩ : ByteArray)) ((⟨#[10]⟩ : ByteArray) ++ (a2 ++ (⟨#[32, 32]⟩ : ByteArray))) (⟨#[32]⟩ : ByteArray) ((⟨#[10]⟩ : ByteArray) ++ a2) l3 a0_0 a0_1 a0_2 a0_3 l0_4 l0_5) else (none)) else (none)) else (none)) = some r := by rw [if_pos rfl] at H; exact H
          clear H
          have H := H1
          clear H1
          by_cases c31 : a2.size + 2 ≤ 9223372036854775807
          ·rw [if_pos c31] at H
           have c31b0 := eq_true c31
           have c31b1 : decide (a2.size + 2 ≤ 9223372036854775807) = true := yF c31
           try have c31b2 : (9223372036854775807 < a2.size + 2) = False := eq_false (Nat.not_lt.2 c31)
           by_cases c32 : 1 + (a2 ++ (⟨#[32, 32]⟩ : ByteArray)).size ≤ 9223372036854775807
           ·rw [if_pos c32] at H
            (try (have c32b9 := eq_true c32; simp only [ByteArray.size_append, Int.natCast_add, show ((⟨#[32, 32]⟩ : ByteArray)).size = 2 from rfl] at c32b9))
            (try (have c32b8 := eq_false (Nat.not_lt.2 c32); simp only [ByteArray.size_append, show ((⟨#[32, 32]⟩ : ByteArray)).size = 2 from rfl] at c32b8))
            have c32b0 := eq_true c32
            have c32b1 : decide (1 + (a2 ++ (⟨#[32, 32]⟩ : ByteArray)).size ≤ 9223372036854775807) = true := yF c32
            try have c32b2 : (9223372036854775807 < 1 + (a2 ++ (⟨#[32, 32]⟩ : ByteArray)).size) = False := eq_false (Nat.not_lt.2 c32)
            try simp only [ByteArray.size_append] at c32b2
            by_cases c33 : 1 + a2.size ≤ 9223372036854775807
            ·rw [if_pos c33] at H
             have c33b0 := eq_true c33
             have c33b1 : decide (1 + a2.size ≤ 9223372036854775807) = true := yF c33
             try have c33b2 : (9223372036854775807 < 1 + a2.size) = False := eq_false (Nat.not_lt.2 c33)
             have H' := zA H
             clear H
             go_wp2
             go_meet
             case rel => exact ⟨_, (a2 ++ (⟨#[32, 32]⟩ : ByteArray)), ((⟨#[10]⟩ : ByteArray) ++ (a2 ++ (⟨#[32, 32]⟩ : ByteArray))), ((⟨#[32]⟩ : ByteArray)), ((⟨#[10]⟩ : ByteArray) ++ a2), (by first | rfl | (simp; done) | (simp [*]; done) | (simp [isEmpty_bne]; done)), (by first | rfl | (simp; done) | (simp [*]; done) | (simp [isEmpty_bne]; done)), (by first | rfl | (simp; done) | (simp [*]; done) | (simp [isEmpty_bne]; done)), (by first | rfl | (simp; done) | (simp [*]; done) | (simp [isEmpty_bne]; done)), H', ⟨by have := HJ23.out; first | omega | exact yK _⟩, ⟨by (with_reducible repeat (first | refine zB ?_ _ | refine zD ?_ | refine zC ?_ _)); exact BK281.out⟩, ⟨by repeat (first | (with_reducible first | exact HB.out | apply zG | apply zE | apply zF | refine zH ?_ GE281.out) | exact HB.out)⟩⟩
            ·rw [if_neg c33] at H
             exact absurd H (by simp)
           ·rw [if_neg c32] at H
            exact absurd H (by simp)
          ·rw [if_neg c31] at H
           exact absurd H (by simp)
         ·replace c30 := Bool.eq_false_iff.mpr c30
          subst c30
          have H1 : (impl_layout.j1 kj23 a1 (⟨#[]⟩ : ByteArray) (⟨#[]⟩ : ByteArray) (⟨#[]⟩ : ByteArray) (⟨#[]⟩ : ByteArray) l3 a0_0 a0_1 a0_2 a0_3 l0_4 l0_5) = some r := by rw [if_neg (show ¬ (false = true) by decide)] at H; exact H
          clear H
          have H := H1
          clear H1
          have H' := zA H
          clear H
          go_wp2
          go_meet
          case rel => exact ⟨_, ((⟨#[]⟩ : ByteArray)), ((⟨#[]⟩ : ByteArray)), ((⟨#[]⟩ : ByteArray)), ((⟨#[]⟩ : ByteArray)), (by first | rfl | (simp; done) | (simp [*]; done) | (simp [isEmpty_bne]; done)), (by first | rfl | (simp; done) | (simp [*]; done) | (simp [isEmpty_bne]; done)), (by first | rfl | (simp; done) | (simp [*]; done) | (simp [isEmpty_bne]; done)), (by first | rfl | (simp; done) | (simp [*]; done) | (simp [isEmpty_bne]; done)), H', ⟨by have := HJ23.out; first | omega | exact yK _⟩, ⟨by (with_reducible repeat (first | refine zB ?_ _ | refine zD ?_ | refine zC ?_ _)); exact BK281.out⟩, ⟨by repeat (first | (with_reducible first | exact HB.out | apply zG | apply zE | apply zF | refine zH ?_ GE281.out) | exact HB.out)⟩⟩
        case rest =>
         clear HC29
         try clear c1
         try clear c2
         try clear p2
         try clear c3
         try clear c5
         try clear c5b0
         try clear c5b1
         try clear c8
         try clear c8b0
         try clear c8b1
         try clear c11
         try clear c11b0
         try clear c11b1
         try clear c14
         try clear c14b0
         try clear c14b1
         try clear c17
         try clear c19
         try clear c19b0
         try clear c19b1
         try clear c27
         try clear c28
         try clear c29
         try clear c30
         try clear c31
         try clear c31b0
         try clear c31b1
         try clear c31b2
         try clear c32
         try clear c32b0
         try clear c32b1
         try clear c32b2
         try clear c33
         try clear c33b0
         try clear c33b1
         try clear c33b2
         try clear hcz10_0
         try clear hcz10_1
         try clear hcz10_2
         try clear hcz10_3
         try clear hcz10_4
         try clear hcz10_5
         try clear hcz13_0
         try clear hcz13_1
         try clear hcz13_2
         try clear hcz13_3
         try clear hcz13_4
         try clear hcz13_5
         try clear hcz17_0
         try clear hcz17_1
         try clear hcz17_2
         try clear hcz17_3
         try clear hcz17_4
         try clear hcz17_5
         try clear hcz22_0
         try clear hcz22_1
         try clear hcz22_2
         try clear hcz22_3
         try clear hcz22_4
         try clear hcz22_5
         try clear hcz26_0
         try clear hcz26_1
         try clear hcz26_2
         try clear hcz26_3
         try clear hcz26_4
         try clear hcz26_5
         try clear hcz28_0
         try clear hcz28_1
         try clear hcz28_2
         try clear hcz28_3
         try clear hcz28_4
         try clear hcz28_5
         try clear hcz7_0
         try clear hcz7_1
         try clear hcz7_2
         try clear hcz7_3
         try clear hcz7_4
         try clear hcz7_5
         try clear hfz10_0
         try clear hfz10_1
         try clear hfz10_2
         try clear hfz10_3
         try clear hfz10_4
         try clear hfz10_5
         try clear hfz13_0
         try clear hfz13_1
         try clear hfz13_2
         try clear hfz13_3
         try clear hfz13_4
         try clear hfz13_5
         try clear hfz17_0
         try clear hfz17_1
         try clear hfz17_2
         try clear hfz17_3
         try clear hfz17_4
         try clear hfz17_5
         try clear hfz22_0
         try clear hfz22_1
         try clear hfz22_2
         try clear hfz22_3
         try clear hfz22_4
         try clear hfz22_5
         try clear hfz26_0
         try clear hfz26_1
         try clear hfz26_2
         try clear hfz26_3
         try clear hfz26_4
         try clear hfz26_5
         try clear hfz28_0
         try clear hfz28_1
         try clear hfz28_2
         try clear hfz28_3
         try clear hfz28_4
         try clear hfz28_5
         try clear hfz7_0
         try clear hfz7_1
         try clear hfz7_2
         try clear hfz7_3
         try clear hfz7_4
         try clear hfz7_5
         try clear p2
         obtain ⟨kq, x7_28, x8_28, x9_28, x10_28, rfl, rfl, rfl, rfl, HA, HJ28, BK281, HB⟩ := hcut
         cases kq with
         | zero => exact absurd HA.out (by simp [impl_layout.j1])
         | succ kj28 =>
          have H := HA.out
          clear HA
          simp only [impl_layout.j1] at H
          have HC34 := zA H
          clear H
          have hcz35_0 : wc.cell? ⟨gb281, 0, none⟩ = some (.int .i64 a0_0) := (zJ BK281.out 0).trans rfl
          have hcz35_1 : wc.cell? ⟨gb281, 1, none⟩ = some (.int .i64 a0_1) := (zJ BK281.out 1).trans rfl
          have hcz35_2 : wc.cell? ⟨gb281, 2, none⟩ = some (.int .i64 a0_2) := (zJ BK281.out 2).trans rfl
          have hcz35_3 : wc.cell? ⟨gb281, 3, none⟩ = some (.string a0_3) := (zJ BK281.out 3).trans rfl
          have hcz35_4 : wc.cell? ⟨gb281, 4, none⟩ = some (.slice A0_4 l0_4.length c0_4) := (zJ BK281.out 4).trans rfl
          have hcz35_5 : wc.cell? ⟨gb281, 5, none⟩ = some (.slice A0_5 l0_5.length c0_5) := (zJ BK281.out 5).trans rfl
          have hfz35_0 := zK BK281.out 0
          have hfz35_1 := zK BK281.out 1
          have hfz35_2 := zK BK281.out 2
          have hfz35_3 := zK BK281.out 3
          have hfz35_4 := zK BK281.out 4
          have hfz35_5 := zK BK281.out 5
          go_upto_if 49 with (fail)
          go_cut [11] (fun v11 wc => ∃ (kq : Nat) (x11_33 : ByteArray), v11 = .string x11_33 ∧ Aside0 (impl_layout.j2 kq a1 x7_28 x8_28 x9_28 x10_28 x11_33 l3 a0_0 a0_1 a0_2 a0_3 l0_4 l0_5 = some r) ∧ Aside0 (kq ≤ kj28) ∧ Aside0 (wc.heap[gb281]? = some (.cells #[.int .i64 a0_0, .int .i64 a0_1, .int .i64 a0_2, .string a0_3, (.slice A0_4 l0_4.length c0_4), (.slice A0_5 l0_5.length c0_5)] 33 (0, 0))) ∧ Aside0 (Below w.heap.size w wc))
          case first =>
           have H := HC34.out
           clear HC34
           by_cases c36 : a0_0 = 6
           ·rw [if_pos c36] at H
            have c36b0 : (a0_0 == 6) = true := beq_iff_eq.mpr c36
            have c36b1 : (a0_0 != 6) = false := bne_eq_false_iff_eq.mpr c36
            clear c36
            (first | rw [c36b0] | (simp only [i64_w, i32_w]; rw [c36b0]) | skip)
            have H' := zA H
            clear H
            go_wp2
            go_meet
            case rel => exact ⟨_, ((⟨#[123, 125]⟩ : ByteArray)), (by first | rfl | (simp; done) | (simp [*]; done) | (simp [isEmpty_bne]; done)), H', ⟨by have := HJ23.out; have := HJ28.out; first | omega | exact yK _⟩, ⟨by (with_reducible repeat (first | refine zB ?_ _ | refine zD ?_ | refine zC ?_ _)); exact BK281.out⟩, ⟨by repeat (first | (with_reducible first | exact HB.out | apply zG | apply zE | apply zF | refine zH ?_ GE281.out) | exact HB.out)⟩⟩
           ·rw [if_neg c36] at H
            have c36b0 : (a0_0 == 6) = false := beq_eq_false_iff_ne.mpr c36
            have c36b1 : (a0_0 != 6) = true := bne_iff_ne.mpr c36
            (first | rw [c36b0] | (simp only [i64_w, i32_w]; rw [c36b0]) | skip)
            have H' := zA H
            clear H
            go_wp2
            go_meet
            case rel => exact ⟨_, ((⟨#[91, 93]⟩ : ByteArray)), (by first | rfl | (simp; done) | (simp [*]; done) | (simp [isEmpty_bne]; done)), H', ⟨by have := HJ23.out; have := HJ28.out; first | omega | exact yK _⟩, ⟨by (with_reducible repeat (first | refine zB ?_ _ | refine zD ?_ | refine zC ?_ _)); exact BK281.out⟩, ⟨by repeat (first | (with_reducible first | exact HB.out | apply zG | apply zE | apply zF | refine zH ?_ GE281.out) | exact HB.out)⟩⟩
          case rest =>
           clear HC34
           try clear c1
           try clear c2
           try clear p2
           try clear c3
           try clear c5
           try clear c5b0
           try clear c5b1
           try clear c8
           try clear c8b0
           try clear c8b1
           try clear c11
           try clear c11b0
           try clear c11b1
           try clear c14
           try clear c14b0
           try clear c14b1
           try clear c17
           try clear c19
           try clear c19b0
           try clear c19b1
           try clear c27
           try clear c28
           try clear c29
           try clear c30
           try clear c31
           try clear c31b0
           try clear c31b1
           try clear c31b2
           try clear c32
           try clear c32b0
           try clear c32b1
           try clear c32b2
           try clear c33
           try clear c33b0
           try clear c33b1
           try clear c33b2
           try clear c36
           try clear c36b0
           try clear c36b1
           try clear hcz10_0
           try clear hcz10_1
           try clear hcz10_2
           try clear hcz10_3
           try clear hcz10_4
           try clear hcz10_5
           try clear hcz13_0
           try clear hcz13_1
           try clear hcz13_2
           try clear hcz13_3
           try clear hcz13_4
           try clear hcz13_5
           try clear hcz17_0
           try clear hcz17_1
           try clear hcz17_2
           try clear hcz17_3
           try clear hcz17_4
           try clear hcz17_5
           try clear hcz22_0
           try clear hcz22_1
           try clear hcz22_2
           try clear hcz22_3
           try clear hcz22_4
           try clear hcz22_5
           try clear hcz26_0
           try clear hcz26_1
           try clear hcz26_2
           try clear hcz26_3
           try clear hcz26_4
           try clear hcz26_5
           try clear hcz28_0
           try clear hcz28_1
           try clear hcz28_2
           try clear hcz28_3
           try clear hcz28_4
           try clear hcz28_5
           try clear hcz35_0
           try clear hcz35_1
           try clear hcz35_2
           try clear hcz35_3
           try clear hcz35_4
           try clear hcz35_5
           try clear hcz7_0
           try clear hcz7_1
           try clear hcz7_2
           try clear hcz7_3
           try clear hcz7_4
           try clear hcz7_5
           try clear hfz10_0
           try clear hfz10_1
           try clear hfz10_2
           try clear hfz10_3
           try clear hfz10_4
           try clear hfz10_5
           try clear hfz13_0
           try clear hfz13_1
           try clear hfz13_2
           try clear hfz13_3
           try clear hfz13_4
           try clear hfz13_5
           try clear hfz17_0
           try clear hfz17_1
           try clear hfz17_2
           try clear hfz17_3
           try clear hfz17_4
           try clear hfz17_5
           try clear hfz22_0
           try clear hfz22_1
           try clear hfz22_2
           try clear hfz22_3
           try clear hfz22_4
           try clear hfz22_5
           try clear hfz26_0
           try clear hfz26_1
           try clear hfz26_2
           try clear hfz26_3
           try clear hfz26_4
           try clear hfz26_5
           try clear hfz28_0
           try clear hfz28_1
           try clear hfz28_2
           try clear hfz28_3
           try clear hfz28_4
           try clear hfz28_5
           try clear hfz35_0
           try clear hfz35_1
           try clear hfz35_2
           try clear hfz35_3
           try clear hfz35_4
           try clear hfz35_5
           try clear hfz7_0
           try clear hfz7_1
           try clear hfz7_2
           try clear hfz7_3
           try clear hfz7_4
           try clear hfz7_5
           try clear p2
           obtain ⟨kq, x11_33, rfl, HA, HJ33, BK281, HB⟩ := hcut
           cases kq with
           | zero => exact absurd HA.out (by simp [impl_layout.j2])
           | succ kj33 =>
            have H := HA.out
            clear HA
            simp only [impl_layout.j2] at H
            obtain ⟨y284, hy284⟩ : ∃ y_ : List ByteArray, y_ = (([] : List ByteArray)) := ⟨_, rfl⟩
            replace H : (impl_layout.l0 kj33 a1 x7_28 x8_28 x9_28 x10_28 x11_33 y284 l0_4 (l0_4.length : Int) 0 l3 a0_0 a0_1 a0_2 a0_3 l0_4 l0_5) = some r := by first | (rw [hy284]; with_reducible exact H) | (have H2_ := (Option.bind_some _ _).symm.trans H; rw [hy284]; with_reducible exact H2_) | (have H2_ := (Option.bind_some _ _).symm.trans H; with_reducible exact H2_) | with_reducible exact H | (rw [hy284]; exact H) | exact H
            have Ny284 := zA hy284
            clear hy284
            have H' := zA H
            clear H
            go_wp2_with (first | ((with_reducible refine zT (N := 50) rfl ?_); (try (refine gate_guard (by rfl) ?_; dsimp only)); refine Kd.R_lit Kd.string _ 9 ?hg (N := 50) ?hd (xs := ([] : List ByteArray)) (inner := []) (ok := fun _ => True) (okp := fun _ => True) ?hr ?hp (fun _ hk => hk) trivial (yJ _ _) (yK _) (by simp) ?_; (case hd => rfl); (case hg => rfl); (case hr => first | (go_simp; done) | (go_simp; rfl)); (case hp => exact (Reps.none _ _)); intro v285 w37 ho38 hb hg_ hnew_; clear hg_ hnew_; (first | rw [← Ny284.out] at ho38 | (simp only [Int.reduceToNat] at ho38; rw [← Ny284.out] at ho38)); have n0_ := zA (Kd.R_lower ho38 (zR (by repeat (first | (with_reducible first | exact HB.out | apply zG | apply zE | apply zF | refine zH ?_ GE281.out) | exact HB.out)))); have n1_ := zA (zP (g := gb281) (o := .cells #[.int .i64 a0_0, .int .i64 a0_1, .int .i64 a0_2, .string a0_3, .slice A0_4 l0_4.length c0_4, .slice A0_5 l0_5.length c0_5] 33 (0, 0)) (by (with_reducible repeat (first | refine zB ?_ _ | refine zD ?_ | refine zC ?_ _)); exact BK281.out) hb); have n2_ := zA (zQ (by repeat (first | (with_reducible first | exact HB.out | apply zG | apply zE | apply zF | refine zH ?_ GE281.out) | exact HB.out)) hb); clear BK281; clear HB; have HO286 := n0_; have BK281 := n1_; have HB := n2_; clear n0_ n1_ n2_; clear hb ho38; have hcz39_0 : w37.cell? ⟨gb281, 0, none⟩ = some (.int .i64 a0_0) := (zJ BK281.out 0).trans rfl; have hcz39_1 : w37.cell? ⟨gb281, 1, none⟩ = some (.int .i64 a0_1) := (zJ BK281.out 1).trans rfl; have hcz39_2 : w37.cell? ⟨gb281, 2, none⟩ = some (.int .i64 a0_2) := (zJ BK281.out 2).trans rfl; have hcz39_3 : w37.cell? ⟨gb281, 3, none⟩ = some (.string a0_3) := (zJ BK281.out 3).trans rfl; have hcz39_4 : w37.cell? ⟨gb281, 4, none⟩ = some (.slice A0_4 l0_4.length c0_4) := (zJ BK281.out 4).trans rfl; have hcz39_5 : w37.cell? ⟨gb281, 5, none⟩ = some (.slice A0_5 l0_5.length c0_5) := (zJ BK281.out 5).trans rfl; have hfz39_0 := zK BK281.out 0; have hfz39_1 := zK BK281.out 1; have hfz39_2 := zK BK281.out 2; have hfz39_3 := zK BK281.out 3; have hfz39_4 := zK BK281.out 4; have hfz39_5 := zK BK281.out 5))
            go_loopg [12, 54] kj33 (fun kq v12 v54 w' => ∃ (x12_4 : List ByteArray) (x54_4 : Int), v54 = .int .i64 x54_4 ∧ Aside0 (impl_layout.l0 kq a1 x7_28 x8_28 x9_28 x10_28 x11_33 x12_4 l0_4 (l0_4.length : Int) x54_4 l3 a0_0 a0_1 a0_2 a0_3 l0_4 l0_5 = some r) ∧ Aside0 (kq ≤ kj33) ∧ Aside0 (Kd.R Kd.string 9 w' w.heap.size (fun _ => True) v12 x12_4) ∧ Aside0 (w'.heap[gb281]? = some (.cells #[.int .i64 a0_0, .int .i64 a0_1, .int .i64 a0_2, .string a0_3, (.slice A0_4 l0_4.length c0_4), (.slice A0_5 l0_5.length c0_5)] 33 (0, 0))) ∧ Aside0 (Below w.heap.size w w'))
            case atStart => exact ⟨(y284), (0), (by first | rfl | (simp; done) | (simp [*]; done) | (simp [isEmpty_bne]; done)), H', ⟨yK _⟩, ⟨by (with_reducible repeat (first | apply Kd.R_alloc | apply Kd.R_drewN | apply Kd.R_drew)); exact HO286.out⟩, ⟨by (with_reducible repeat (first | refine zB ?_ _ | refine zD ?_ | refine zC ?_ _)); exact BK281.out⟩, ⟨by repeat (first | (with_reducible first | exact HB.out | apply zG | apply zE | apply zF | refine zH ?_ GE281.out) | exact HB.out)⟩⟩
            case round =>
             clear H'
             try clear c1
             try clear c2
             try clear p2
             try clear c3
             try clear c5
             try clear c5b0
             try clear c5b1
             try clear c8
             try clear c8b0
             try clear c8b1
             try clear c11
             try clear c11b0
             try clear c11b1
             try clear c14
             try clear c14b0
             try clear c14b1
             try clear c17
             try clear c19
             try clear c19b0
             try clear c19b1
             try clear c27
             try clear c28
             try clear c29
             try clear c30
             try clear c31
             try clear c31b0
             try clear c31b1
             try clear c31b2
             try clear c32
             try clear c32b0
             try clear c32b1
             try clear c32b2
             try clear c33
             try clear c33b0
             try clear c33b1
             try clear c33b2
             try clear c36
             try clear c36b0
             try clear c36b1
             try clear hcz10_0
             try clear hcz10_1
             try clear hcz10_2
             try clear hcz10_3
             try clear hcz10_4
             try clear hcz10_5
             try clear hcz13_0
             try clear hcz13_1
             try clear hcz13_2
             try clear hcz13_3
             try clear hcz13_4
             try clear hcz13_5
             try clear hcz17_0
             try clear hcz17_1
             try clear hcz17_2
             try clear hcz17_3
             try clear hcz17_4
             try clear hcz17_5
             try clear hcz22_0
             try clear hcz22_1
             try clear hcz22_2
             try clear hcz22_3
             try clear hcz22_4
             try clear hcz22_5
             try clear hcz26_0
             try clear hcz26_1
             try clear hcz26_2
             try clear hcz26_3
             try clear hcz26_4
             try clear hcz26_5
             try clear hcz28_0
             try clear hcz28_1
             try clear hcz28_2
             try clear hcz28_3
             try clear hcz28_4
             try clear hcz28_5
             try clear hcz35_0
             try clear hcz35_1
             try clear hcz35_2
             try clear hcz35_3
             try clear hcz35_4
             try clear hcz35_5
             try clear hcz39_0
             try clear hcz39_1
             try clear hcz39_2
             try clear hcz39_3
             try clear hcz39_4
             try clear hcz39_5
             try clear hcz7_0
             try clear hcz7_1
             try clear hcz7_2
             try clear hcz7_3
             try clear hcz7_4
             try clear hcz7_5
             try clear hfz10_0
             try clear hfz10_1
             try clear hfz10_2
             try clear hfz10_3
             try clear hfz10_4
             try clear hfz10_5
             try clear hfz13_0
             try clear hfz13_1
             try clear hfz13_2
             try clear hfz13_3
             try clear hfz13_4
             try clear hfz13_5
             try clear hfz17_0
             try clear hfz17_1
             try clear hfz17_2
             try clear hfz17_3
             try clear hfz17_4
             try clear hfz17_5
             try clear hfz22_0
             try clear hfz22_1
             try clear hfz22_2
             try clear hfz22_3
             try clear hfz22_4
             try clear hfz22_5
             try clear hfz26_0
             try clear hfz26_1
             try clear hfz26_2
             try clear hfz26_3
             try clear hfz26_4
             try clear hfz26_5
             try clear hfz28_0
             try clear hfz28_1
             try clear hfz28_2
             try clear hfz28_3
             try clear hfz28_4
             try clear hfz28_5
             try clear hfz35_0
             try clear hfz35_1
             try clear hfz35_2
             try clear hfz35_3
             try clear hfz35_4
             try clear hfz35_5
             try clear hfz39_0
             try clear hfz39_1
             try clear hfz39_2
             try clear hfz39_3
             try clear hfz39_4
             try clear hfz39_5
             try clear hfz7_0
             try clear hfz7_1
             try clear hfz7_2
             try clear hfz7_3
             try clear hfz7_4
             try clear hfz7_5
             try clear p2
             obtain ⟨x12_4, x54_4, rfl, HA, HK4, HO_12, BK281, HB⟩ := hrel
             cases gk with
             | zero => exact absurd HA.out (by simp [impl_layout.l0])
             | succ k4 =>
              have H := HA.out
              clear HA
              simp only [impl_layout.l0] at H
              by_cases c40 : x54_4 < (l0_4.length : Int)
              ·rw [if_pos c40] at H
               have c40b0 : decide (x54_4 < (l0_4.length : Int)) = true := yF c40
               clear c40
               by_cases c41 : 0 ≤ x54_4
               ·rw [if_pos c41] at H
                have c41b0 : decide (0 ≤ x54_4) = true := yF c41
                clear c41
                by_cases c42 : x54_4 < (l0_4.length : Int)
                ·rw [if_pos c42] at H
                 have c42b0 : decide (x54_4 < (l0_4.length : Int)) = true := yF c42
                 clear c42
                 by_cases c43 : a0_0 = 6
                 ·rw [if_pos c43] at H
                  have c43b0 : (a0_0 == 6) = true := beq_iff_eq.mpr c43
                  have c43b1 : (a0_0 != 6) = false := bne_eq_false_iff_eq.mpr c43
                  clear c43
                  by_cases c44 : x54_4 < (l0_5.length : Int)
                  ·rw [if_pos c44] at H
                   have c44b0 : decide (x54_4 < (l0_5.length : Int)) = true := yF c44
                   clear c44
                   replace H := Option.bind_eq_some_iff.mp H
                   obtain ⟨t291, A450, H⟩ := H
                   replace H : (if t291.size + 1 ≤ 9223372036854775807 then (if (t291 ++ (⟨#[58]⟩ : ByteArray)).size + x9_28.size ≤ 9223372036854775807 then (if x8_28.size + ((t291 ++ (⟨#[58]⟩ : ByteArray)) ++ x9_28).size ≤ 9223372036854775807 then ((impl_layout.f k4 ((rd_T33 l0_4 x54_4).f0) ((rd_T33 l0_4 x54_4).f1.f0) ((rd_T33 l0_4 x54_4).f1.f1) ((rd_T33 l0_4 x54_4).f2) ((rd_T33 l0_4 x54_4).f3) ((rd_T33 l0_4 x54_4).f4) a1 x7_28 l3).bind fun t292 => (if (x8_28 ++ ((t291 ++ (⟨#[58]⟩ : ByteArray)) ++ x9_28)).size + t292.size ≤ 9223372036854775807 then (if x12_4.length < 8796093022208 then (impl_layout.l0 k4 a1 x7_28 x8_28 x9_28 x10_28 x11_33 (x12_4 ++ [(x8_28 ++ ((t291 ++ (⟨#[58]⟩ : ByteArray)) ++ x9_28)) ++ t292]) l0_4 (l0_4.length : Int) (wrap64 (x54_4 + 1)) l3 a0_0 a0_1 a0_2 a0_3 l0_4 l0_5) else (none)) else (none))) else (none)) else (none)) else (none)) = some r := H
                   have A45 := zA A450
                   clear A450
                   by_cases c46 : t291.size + 1 ≤ 9223372036854775807
                   ·rw [if_pos c46] at H
                    have c46b0 := eq_true c46
                    have c46b1 : decide (t291.size + 1 ≤ 9223372036854775807) = true := yF c46
                    try have c46b2 : (9223372036854775807 < t291.size + 1) = False := eq_false (Nat.not_lt.2 c46)
                    by_cases c47 : (t291 ++ (⟨#[58]⟩ : ByteArray)).size + x9_28.size ≤ 9223372036854775807
                    ·rw [if_pos c47] at H
                     (try (have c47b9 := eq_true c47; simp only [ByteArray.size_append, Int.natCast_add, show ((⟨#[58]⟩ : ByteArray)).size = 1 from rfl] at c47b9))
                     (try (have c47b8 := eq_false (Nat.not_lt.2 c47); simp only [ByteArray.size_append, show ((⟨#[58]⟩ : ByteArray)).size = 1 from rfl] at c47b8))
                     have c47b0 := eq_true c47
                     have c47b1 : decide ((t291 ++ (⟨#[58]⟩ : ByteArray)).size + x9_28.size ≤ 9223372036854775807) = true := yF c47
                     try have c47b2 : (9223372036854775807 < (t291 ++ (⟨#[58]⟩ : ByteArray)).size + x9_28.size) = False := eq_false (Nat.not_lt.2 c47)
                     try simp only [ByteArray.size_append] at c47b2
                     by_cases c48 : x8_28.size + ((t291 ++ (⟨#[58]⟩ : ByteArray)) ++ x9_28).size ≤ 9223372036854775807
                     ·rw [if_pos c48] at H
                      (try (have c48b9 := eq_true c48; simp only [ByteArray.size_append, Int.natCast_add, show ((⟨#[58]⟩ : ByteArray)).size = 1 from rfl] at c48b9))
                      (try (have c48b8 := eq_false (Nat.not_lt.2 c48); simp only [ByteArray.size_append, show ((⟨#[58]⟩ : ByteArray)).size = 1 from rfl] at c48b8))
                      have c48b0 := eq_true c48
                      have c48b1 : decide (x8_28.size + ((t291 ++ (⟨#[58]⟩ : ByteArray)) ++ x9_28).size ≤ 9223372036854775807) = true := yF c48
                      try have c48b2 : (9223372036854775807 < x8_28.size + ((t291 ++ (⟨#[58]⟩ : ByteArray)) ++ x9_28).size) = False := eq_false (Nat.not_lt.2 c48)
                      try simp only [ByteArray.size_append] at c48b2
                      replace H := Option.bind_eq_some_iff.mp H
                      obtain ⟨t292, A490, H⟩ := H
                      replace H : (if (x8_28 ++ ((t291 ++ (⟨#[58]⟩ : ByteArray)) ++ x9_28)).size + t292.size ≤ 9223372036854775807 then (if x12_4.length < 8796093022208 then (impl_layout.l0 k4 a1 x7_28 x8_28 x9_28 x10_28 x11_33 (x12_4 ++ [(x8_28 ++ ((t291 ++ (⟨#[58]⟩ : ByteArray)) ++ x9_28)) ++ t292]) l0_4 (l0_4.length : Int) (wrap64 (x54_4 + 1)) l3 a0_0 a0_1 a0_2 a0_3 l0_4 l0_5) else (none)) else (none)) = some r := H
                      have A49 := zA A490
                      clear A490
                      by_cases c50 : (x8_28 ++ ((t291 ++ (⟨#[58]⟩ : ByteArray)) ++ x9_28)).size + t292.size ≤ 9223372036854775807
                      ·rw [if_pos c50] at H
                       (try (have c50b9 := eq_true c50; simp only [ByteArray.size_append, Int.natCast_add, show ((⟨#[58]⟩ : ByteArray)).size = 1 from rfl] at c50b9))
                       (try (have c50b8 := eq_false (Nat.not_lt.2 c50); simp only [ByteArray.size_append, show ((⟨#[58]⟩ : ByteArray)).size = 1 from rfl] at c50b8))
                       have c50b0 := eq_true c50
                       have c50b1 : decide ((x8_28 ++ ((t291 ++ (⟨#[58]⟩ : ByteArray)) ++ x9_28)).size + t292.size ≤ 9223372036854775807) = true := yF c50
                       try have c50b2 : (9223372036854775807 < (x8_28 ++ ((t291 ++ (⟨#[58]⟩ : ByteArray)) ++ x9_28)).size + t292.size) = False := eq_false (Nat.not_lt.2 c50)
                       try simp only [ByteArray.size_append] at c50b2
                       by_cases c51 : x12_4.length < 8796093022208
                       ·rw [if_pos c51] at H
                        have LMc51 := zA c51
                        clear c51
                        obtain ⟨y293, hy293⟩ : ∃ y_ : List ByteArray, y_ = (x12_4 ++ [(x8_28 ++ ((t291 ++ (⟨#[58]⟩ : ByteArray)) ++ x9_28)) ++ t292]) := ⟨_, rfl⟩
                        replace H : (impl_layout.l0 k4 a1 x7_28 x8_28 x9_28 x10_28 x11_33 y293 l0_4 (l0_4.length : Int) (wrap64 (x54_4 + 1)) l3 a0_0 a0_1 a0_2 a0_3 l0_4 l0_5) = some r := by first | (rw [hy293]; with_reducible exact H) | (have H2_ := (Option.bind_some _ _).symm.trans H; rw [hy293]; with_reducible exact H2_) | (have H2_ := (Option.bind_some _ _).symm.trans H; with_reducible exact H2_) | with_reducible exact H | (rw [hy293]; exact H) | exact H
                        have Ny293 := zA hy293
                        clear hy293
                        have H' := zA H
                        clear H
                        have p288 : 0 ≤ (x54_4 : Int) := yG (by first | (with_reducible assumption) | assumption)
                        have q288 : x54_4 < (l0_4.length : Int) := yG (by first | (with_reducible assumption) | assumption)
                        obtain ⟨ad288, A288_4, c288_4, A288_5, c288_5, e288, hx288_0, hx288_1, hx288_2, hx288_3, hx288_4, hx288_5, hl288_4, hi288_4, hl288_5, hi288_5⟩ := at_T33 HR0_4.out x54_4 p288 q288
                        cases e288
                        replace hx288_0 := (HB.out.cell (zS w _ hx288_0)).trans hx288_0
                        replace hx288_1 := (HB.out.cell (zS w _ hx288_1)).trans hx288_1
                        replace hx288_2 := (HB.out.cell (zS w _ hx288_2)).trans hx288_2
                        replace hx288_3 := (HB.out.cell (zS w _ hx288_3)).trans hx288_3
                        replace hx288_4 := (HB.out.cell (zS w _ hx288_4)).trans hx288_4
                        replace hx288_5 := (HB.out.cell (zS w _ hx288_5)).trans hx288_5
                        have HR288_4 := zA hi288_4
                        have HC288_4 := zA hl288_4
                        clear hi288_4 hl288_4
                        have HR288_5 := zA hi288_5
                        have HC288_5 := zA hl288_5
                        clear hi288_5 hl288_5
                        replace p288 := eq_true p288
                        replace q288 := eq_true q288
                        go_wp2_with (first | ((with_reducible refine zT (N := 14) rfl ?_); (try (refine gate_guard (by rfl) ?_; dsimp only)); refine zX ?hg (N := 14) ?hd (cs := #[.int .i64 0, .int .i64 0, .int .i64 0, .string (⟨#[]⟩ : ByteArray), .slice none 0 0, .slice none 0 0]) (t := 33) ?hr ?_; (case hd => rfl); (case hg => rfl); (case hr => first | (go_simp; done) | (go_simp; rfl)); intro gb289 hg w52 hbox hb; have n0_ := zA (Kd.R_below (by (with_reducible repeat (first | apply Kd.R_alloc | apply Kd.R_drewN | apply Kd.R_drew)); exact HO_12.out) hb); have n1_ := zA (zP (g := gb281) (o := .cells #[.int .i64 a0_0, .int .i64 a0_1, .int .i64 a0_2, .string a0_3, .slice (some ad288) l0_4.length c0_4, .slice A0_5 l0_5.length c0_5] 33 (0, 0)) (by (with_reducible repeat (first | refine zB ?_ _ | refine zD ?_ | refine zC ?_ _)); exact BK281.out) hb); have n2_ := zA (zQ (by repeat (first | (with_reducible first | exact HB.out | apply zG | apply zE | apply zF | refine zH ?_ GE281.out) | exact HB.out)) hb); have n3_ := zA (hbox); have n4_ := zA ((by rw [hg]; exact (zR (by repeat (first | (with_reducible first | exact HB.out | apply zG | apply zE | apply zF | refine zH ?_ GE281.out) | exact HB.out))) : w.heap.size ≤ gb289)); have n5_ := zA ((by rw [hg]; exact (zR (by repeat (first | (with_reducible first | exact HB.out | apply zG | apply zE | apply zF | refine zH ?_ GE281.out) | exact HB.out))) : w.heap.size ≤ gb289)); have n6_ := zA ((by rw [hg]; exact Nat.ne_of_lt (blk_lt (g := gb281) (o := .cells #[.int .i64 a0_0, .int .i64 a0_1, .int .i64 a0_2, .string a0_3, .slice (some ad288) l0_4.length c0_4, .slice A0_5 l0_5.length c0_5] 33 (0, 0)) (by (with_reducible repeat (first | refine zB ?_ _ | refine zD ?_ | refine zC ?_ _)); exact BK281.out)) : gb281 ≠ gb289)); have n7_ := zA ((by rw [hg]; exact Nat.ne_of_gt (blk_lt (g := gb281) (o := .cells #[.int .i64 a0_0, .int .i64 a0_1, .int .i64 a0_2, .string a0_3, .slice (some ad288) l0_4.length c0_4, .slice A0_5 l0_5.length c0_5] 33 (0, 0)) (by (with_reducible repeat (first | refine zB ?_ _ | refine zD ?_ | refine zC ?_ _)); exact BK281.out)) : gb289 ≠ gb281)); clear HO_12; clear BK281; clear HB; have HO_12 := n0_; have BK281 := n1_; have HB := n2_; have BK289 := n3_; have GW289 := n4_; have GE289 := n5_; have NB281_289 := n6_; have NB289_281 := n7_; clear n0_ n1_ n2_ n3_ n4_ n5_ n6_ n7_; clear hb hbox hg; have hnb53 := NB289_281.out; have hnc53 := NB281_289.out; have hcz54_0 : w52.cell? ⟨gb289, 0, none⟩ = some (.int .i64 0) := (zJ BK289.out 0).trans rfl; have hcz54_1 : w52.cell? ⟨gb289, 1, none⟩ = some (.int .i64 0) := (zJ BK289.out 1).trans rfl; have hcz54_2 : w52.cell? ⟨gb289, 2, none⟩ = some (.int .i64 0) := (zJ BK289.out 2).trans rfl; have hcz54_3 : w52.cell? ⟨gb289, 3, none⟩ = some (.string (⟨#[]⟩ : ByteArray)) := (zJ BK289.out 3).trans rfl; have hcz54_4 : w52.cell? ⟨gb289, 4, none⟩ = some (.slice none 0 0) := (zJ BK289.out 4).trans rfl; have hcz54_5 : w52.cell? ⟨gb289, 5, none⟩ = some (.slice none 0 0) := (zJ BK289.out 5).trans rfl; have hfz54_0 := zK BK289.out 0; have hfz54_1 := zK BK289.out 1; have hfz54_2 := zK BK289.out 2; have hfz54_3 := zK BK289.out 3; have hfz54_4 := zK BK289.out 4; have hfz54_5 := zK BK289.out 5; have hcz55_0 : w52.cell? ⟨gb281, 0, none⟩ = some (.int .i64 a0_0) := (zJ BK281.out 0).trans rfl; have hcz55_1 : w52.cell? ⟨gb281, 1, none⟩ = some (.int .i64 a0_1) := (zJ BK281.out 1).trans rfl; have hcz55_2 : w52.cell? ⟨gb281, 2, none⟩ = some (.int .i64 a0_2) := (zJ BK281.out 2).trans rfl; have hcz55_3 : w52.cell? ⟨gb281, 3, none⟩ = some (.string a0_3) := (zJ BK281.out 3).trans rfl; have hcz55_4 : w52.cell? ⟨gb281, 4, none⟩ = some (.slice (some ad288) l0_4.length c0_4) := (zJ BK281.out 4).trans rfl; have hcz55_5 : w52.cell? ⟨gb281, 5, none⟩ = some (.slice A0_5 l0_5.length c0_5) := (zJ BK281.out 5).trans rfl; have hfz55_0 := zK BK281.out 0; have hfz55_1 := zK BK281.out 1; have hfz55_2 := zK BK281.out 2; have hfz55_3 := zK BK281.out 3; have hfz55_4 := zK BK281.out 4; have hfz55_5 := zK BK281.out 5; have p290 : 0 ≤ (x54_4 : Int) := yG (by first | (with_reducible assumption) | assumption); have q290 : x54_4 < (l0_5.length : Int) := yG (by first | (with_reducible assumption) | assumption); obtain ⟨ad290, e290, hx290_0⟩ := Kd.at_string HR0_5.out x54_4 p290 q290; cases e290; have hn290_0 : ad290.block ≠ gb289 := Nat.ne_of_lt (Nat.lt_of_lt_of_le (by have := zS _ _ hx290_0; first | rwa [add_block] at this | exact this) GW289.out); have hn290_1 : ad290.block ≠ gb289 := Nat.ne_of_lt (Nat.lt_of_lt_of_le (by have := zS _ _ hx290_0; first | rwa [add_block] at this | exact this) GW289.out); have hn290_2 : ad290.block ≠ gb289 := Nat.ne_of_lt (Nat.lt_of_lt_of_le (by have := zS _ _ hx290_0; first | rwa [add_block] at this | exact this) GW289.out); have hn290_3 : ad290.block ≠ gb289 := Nat.ne_of_lt (Nat.lt_of_lt_of_le (by have := zS _ _ hx290_0; first | rwa [add_block] at this | exact this) GW289.out); have hn290_4 : ad290.block ≠ gb289 := Nat.ne_of_lt (Nat.lt_of_lt_of_le (by have := zS _ _ hx290_0; first | rwa [add_block] at this | exact this) GW289.out); have hn290_5 : ad290.block ≠ gb289 := Nat.ne_of_lt (Nat.lt_of_lt_of_le (by have := zS _ _ hx290_0; first | rwa [add_block] at this | exact this) GW289.out); replace hx290_0 := (HB.out.cell (zS w _ hx290_0)).trans hx290_0; replace hx290_0 := (cell_far (p := ⟨gb289, 0, none⟩) (by first | (rw [add_block]; exact hn290_0) | (show (Addr.add _ _).block ≠ _; rw [add_block]; exact hn290_0) | exact hn290_0) (.int .i64 ((rd_T33 l0_4 x54_4).f0))).trans hx290_0; replace hx290_0 := (cell_far (p := ⟨gb289, 1, none⟩) (by first | (rw [add_block]; exact hn290_1) | (show (Addr.add _ _).block ≠ _; rw [add_block]; exact hn290_1) | exact hn290_1) (.int .i64 ((rd_T33 l0_4 x54_4).f1.f0))).trans hx290_0; replace hx290_0 := (cell_far (p := ⟨gb289, 2, none⟩) (by first | (rw [add_block]; exact hn290_2) | (show (Addr.add _ _).block ≠ _; rw [add_block]; exact hn290_2) | exact hn290_2) (.int .i64 ((rd_T33 l0_4 x54_4).f1.f1))).trans hx290_0; replace hx290_0 := (cell_far (p := ⟨gb289, 3, none⟩) (by first | (rw [add_block]; exact hn290_3) | (show (Addr.add _ _).block ≠ _; rw [add_block]; exact hn290_3) | exact hn290_3) (.string ((rd_T33 l0_4 x54_4).f2))).trans hx290_0; replace hx290_0 := (cell_far (p := ⟨gb289, 4, none⟩) (by first | (rw [add_block]; exact hn290_4) | (show (Addr.add _ _).block ≠ _; rw [add_block]; exact hn290_4) | exact hn290_4) (.slice A288_4 ((rd_T33 l0_4 x54_4).f3).length c288_4)).trans hx290_0; replace hx290_0 := (cell_far (p := ⟨gb289, 5, none⟩) (by first | (rw [add_block]; exact hn290_5) | (show (Addr.add _ _).block ≠ _; rw [add_block]; exact hn290_5) | exact hn290_5) (.slice A288_5 ((rd_T33 l0_4 x54_4).f4).length c288_5)).trans hx290_0; clear hn290_0; clear hn290_1; clear hn290_2; clear hn290_3; clear hn290_4; clear hn290_5; replace p290 := eq_true p290; replace q290 := eq_true q290) | ((with_reducible refine zV (f := 29) rfl ?_); refine goesL_ (some 69) rfl rfl Tryd.func29 (by kernel_rfl) rfl #[.string (rdOf ByteArray.empty l0_5 x54_4)] rfl (by (try simp only [yA, yD, yE]); first | done | rfl | (simp only [yB, yC]; rfl)) ?_; (with_reducible refine (impl_jsonText.calls k4 (rdOf ByteArray.empty l0_5 x54_4) t291 _ A45.out).mono ?_); rintro e w56 ⟨rfl, hb⟩; refine ⟨_, rfl, ?_⟩; have n0_ := zA (Kd.R_below (by (with_reducible repeat (first | apply Kd.R_alloc | apply Kd.R_drewN | apply Kd.R_drew)); exact (Kd.R_mono (Kd.R_far (p := ⟨gb289, 5, none⟩) (Kd.R_far (p := ⟨gb289, 4, none⟩) (Kd.R_far (p := ⟨gb289, 3, none⟩) (Kd.R_far (p := ⟨gb289, 2, none⟩) (Kd.R_far (p := ⟨gb289, 1, none⟩) (Kd.R_far (p := ⟨gb289, 0, none⟩) (Kd.R_types HO_12.out BK289.out (by decide)) (fun _ hk => hk.2) (.int .i64 ((rd_T33 l0_4 x54_4).f0))) (fun _ hk => hk.2) (.int .i64 ((rd_T33 l0_4 x54_4).f1.f0))) (fun _ hk => hk.2) (.int .i64 ((rd_T33 l0_4 x54_4).f1.f1))) (fun _ hk => hk.2) (.string ((rd_T33 l0_4 x54_4).f2))) (fun _ hk => hk.2) (.slice A288_4 ((rd_T33 l0_4 x54_4).f3).length c288_4)) (fun _ hk => hk.2) (.slice A288_5 ((rd_T33 l0_4 x54_4).f4).length c288_5)) (fun _ h_ => h_.1))) hb); have n1_ := zA (zP (g := gb281) (o := .cells #[.int .i64 a0_0, .int .i64 a0_1, .int .i64 a0_2, .string a0_3, .slice (some ad288) l0_4.length c0_4, .slice (some ad290) l0_5.length c0_5] 33 (0, 0)) (by (with_reducible repeat (first | refine zB ?_ _ | refine zD ?_ | refine zC ?_ _)); refine blk_far ?_ NB281_289.out _; (with_reducible repeat (first | refine zB ?_ _ | refine zD ?_ | refine zC ?_ _)); refine blk_far ?_ NB281_289.out _; (with_reducible repeat (first | refine zB ?_ _ | refine zD ?_ | refine zC ?_ _)); refine blk_far ?_ NB281_289.out _; (with_reducible repeat (first | refine zB ?_ _ | refine zD ?_ | refine zC ?_ _)); refine blk_far ?_ NB281_289.out _; (with_reducible repeat (first | refine zB ?_ _ | refine zD ?_ | refine zC ?_ _)); refine blk_far ?_ NB281_289.out _; (with_reducible repeat (first | refine zB ?_ _ | refine zD ?_ | refine zC ?_ _)); refine blk_far ?_ NB281_289.out _; (with_reducible repeat (first | refine zB ?_ _ | refine zD ?_ | refine zC ?_ _)); exact BK281.out) hb); have n2_ := zA (zP (g := gb289) (o := .cells #[.int .i64 ((rd_T33 l0_4 x54_4).f0), .int .i64 ((rd_T33 l0_4 x54_4).f1.f0), .int .i64 ((rd_T33 l0_4 x54_4).f1.f1), .string ((rd_T33 l0_4 x54_4).f2), .slice A288_4 ((rd_T33 l0_4 x54_4).f3).length c288_4, .slice A288_5 ((rd_T33 l0_4 x54_4).f4).length c288_5] 33 (0, 0)) (by (with_reducible repeat (first | refine zB ?_ _ | refine zD ?_ | refine zC ?_ _)); refine blk_put (cs := #[.int .i64 ((rd_T33 l0_4 x54_4).f0), .int .i64 ((rd_T33 l0_4 x54_4).f1.f0), .int .i64 ((rd_T33 l0_4 x54_4).f1.f1), .string ((rd_T33 l0_4 x54_4).f2), .slice A288_4 ((rd_T33 l0_4 x54_4).f3).length c288_4, .slice none 0 0]) ?_ 5 _ rfl; (with_reducible repeat (first | refine zB ?_ _ | refine zD ?_ | refine zC ?_ _)); refine blk_put (cs := #[.int .i64 ((rd_T33 l0_4 x54_4).f0), .int .i64 ((rd_T33 l0_4 x54_4).f1.f0), .int .i64 ((rd_T33 l0_4 x54_4).f1.f1), .string ((rd_T33 l0_4 x54_4).f2), .slice none 0 0, .slice none 0 0]) ?_ 4 _ rfl; (with_reducible repeat (first | refine zB ?_ _ | refine zD ?_ | refine zC ?_ _)); refine blk_put (cs := #[.int .i64 ((rd_T33 l0_4 x54_4).f0), .int .i64 ((rd_T33 l0_4 x54_4).f1.f0), .int .i64 ((rd_T33 l0_4 x54_4).f1.f1), .string (⟨#[]⟩ : ByteArray), .slice none 0 0, .slice none 0 0]) ?_ 3 _ rfl; (with_reducible repeat (first | refine zB ?_ _ | refine zD ?_ | refine zC ?_ _)); refine blk_put (cs := #[.int .i64 ((rd_T33 l0_4 x54_4).f0), .int .i64 ((rd_T33 l0_4 x54_4).f1.f0), .int .i64 0, .string (⟨#[]⟩ : ByteArray), .slice none 0 0, .slice none 0 0]) ?_ 2 _ rfl; (with_reducible repeat (first | refine zB ?_ _ | refine zD ?_ | refine zC ?_ _)); refine blk_put (cs := #[.int .i64 ((rd_T33 l0_4 x54_4).f0), .int .i64 0, .int .i64 0, .string (⟨#[]⟩ : ByteArray), .slice none 0 0, .slice none 0 0]) ?_ 1 _ rfl; (with_reducible repeat (first | refine zB ?_ _ | refine zD ?_ | refine zC ?_ _)); refine blk_put (cs := #[.int .i64 0, .int .i64 0, .int .i64 0, .string (⟨#[]⟩ : ByteArray), .slice none 0 0, .slice none 0 0]) ?_ 0 _ rfl; (with_reducible repeat (first | refine zB ?_ _ | refine zD ?_ | refine zC ?_ _)); exact BK289.out) hb); have n3_ := zA (zQ (by repeat (first | (with_reducible first | exact HB.out | apply zG | apply zE | apply zF | refine zH ?_ GE281.out | refine zH ?_ GE289.out) | exact HB.out)) hb); clear HO_12; clear BK281; clear BK289; clear HB; have HO_12 := n0_; have BK281 := n1_; have BK289 := n2_; have HB := n3_; clear n0_ n1_ n2_ n3_; (try clear hb); (try clear hb2); (try clear hk); (try clear hi); have hcz57_0 : w56.cell? ⟨gb289, 0, none⟩ = some (.int .i64 ((rd_T33 l0_4 x54_4).f0)) := (zJ BK289.out 0).trans rfl; have hcz57_1 : w56.cell? ⟨gb289, 1, none⟩ = some (.int .i64 ((rd_T33 l0_4 x54_4).f1.f0)) := (zJ BK289.out 1).trans rfl; have hcz57_2 : w56.cell? ⟨gb289, 2, none⟩ = some (.int .i64 ((rd_T33 l0_4 x54_4).f1.f1)) := (zJ BK289.out 2).trans rfl; have hcz57_3 : w56.cell? ⟨gb289, 3, none⟩ = some (.string ((rd_T33 l0_4 x54_4).f2)) := (zJ BK289.out 3).trans rfl; have hcz57_4 : w56.cell? ⟨gb289, 4, none⟩ = some (.slice A288_4 ((rd_T33 l0_4 x54_4).f3).length c288_4) := (zJ BK289.out 4).trans rfl; have hcz57_5 : w56.cell? ⟨gb289, 5, none⟩ = some (.slice A288_5 ((rd_T33 l0_4 x54_4).f4).length c288_5) := (zJ BK289.out 5).trans rfl; have hfz57_0 := zK BK289.out 0; have hfz57_1 := zK BK289.out 1; have hfz57_2 := zK BK289.out 2; have hfz57_3 := zK BK289.out 3; have hfz57_4 := zK BK289.out 4; have hfz57_5 := zK BK289.out 5) | ((with_reducible refine zV (f := 17) rfl ?_); refine goesL_ (some 79) rfl rfl Tryd.func17 (by kernel_rfl) rfl #[.agg #[.int .i64 ((rd_T33 l0_4 x54_4).f0), .int .i64 ((rd_T33 l0_4 x54_4).f1.f0), .int .i64 ((rd_T33 l0_4 x54_4).f1.f1), .string ((rd_T33 l0_4 x54_4).f2), .slice A288_4 ((rd_T33 l0_4 x54_4).f3).length c288_4, .slice A288_5 ((rd_T33 l0_4 x54_4).f4).length c288_5], .bool a1, .string x7_28] rfl (by (try simp only [yA, yD, yE]); first | done | rfl | (simp only [yB, yC]; rfl)) ?_; (with_reducible refine (ih k4 (by have := HJ23.out; have := HJ28.out; have := HJ33.out; have := HK4.out; omega) ((rd_T33 l0_4 x54_4).f0) ((rd_T33 l0_4 x54_4).f1.f0) ((rd_T33 l0_4 x54_4).f1.f1) ((rd_T33 l0_4 x54_4).f2) _ _ ((rd_T33 l0_4 x54_4).f3) _ _ ((rd_T33 l0_4 x54_4).f4) a1 x7_28 A3 c3 l3 t292 _ ?side1 ?side2 ?side3 ?side4 ?side5 ?side6 ?side7 A49.out).mono ?_); (case side1 => repeat (first | exact (Kd.C_below HR288_4.out HB.out) | (with_reducible refine Kd.C_alloc ?_ _) | (with_reducible refine Kd.C_drewN ?_ _) | (with_reducible refine Kd.C_drew ?_))); (case side2 => exact HC288_4.out); (case side3 => repeat (first | exact (Kd.C_below HR288_5.out HB.out) | (with_reducible refine Kd.C_alloc ?_ _) | (with_reducible refine Kd.C_drewN ?_ _) | (with_reducible refine Kd.C_drew ?_))); (case side4 => exact HC288_5.out); (case side5 => repeat (first | exact (Kd.C_below HR3.out HB.out) | (with_reducible refine Kd.C_alloc ?_ _) | (with_reducible refine Kd.C_drewN ?_ _) | (with_reducible refine Kd.C_drew ?_))); (case side6 => exact HC3.out); (case side7 => exact HG3.out); rintro e w58 ⟨rfl, hb⟩; refine ⟨_, rfl, ?_⟩; have n0_ := zA (Kd.R_below (by (with_reducible repeat (first | apply Kd.R_alloc | apply Kd.R_drewN | apply Kd.R_drew)); exact HO_12.out) hb); have n1_ := zA (zP (g := gb281) (o := .cells #[.int .i64 a0_0, .int .i64 a0_1, .int .i64 a0_2, .string a0_3, .slice (some ad288) l0_4.length c0_4, .slice (some ad290) l0_5.length c0_5] 33 (0, 0)) (by (with_reducible repeat (first | refine zB ?_ _ | refine zD ?_ | refine zC ?_ _)); exact BK281.out) hb); have n2_ := zA (zP (g := gb289) (o := .cells #[.int .i64 ((rd_T33 l0_4 x54_4).f0), .int .i64 ((rd_T33 l0_4 x54_4).f1.f0), .int .i64 ((rd_T33 l0_4 x54_4).f1.f1), .string ((rd_T33 l0_4 x54_4).f2), .slice A288_4 ((rd_T33 l0_4 x54_4).f3).length c288_4, .slice A288_5 ((rd_T33 l0_4 x54_4).f4).length c288_5] 33 (0, 0)) (by (with_reducible repeat (first | refine zB ?_ _ | refine zD ?_ | refine zC ?_ _)); exact BK289.out) hb); have n3_ := zA (zQ (by repeat (first | (with_reducible first | exact HB.out | apply zG | apply zE | apply zF | refine zH ?_ GE281.out | refine zH ?_ GE289.out) | exact HB.out)) hb); clear HO_12; clear BK281; clear BK289; clear HB; have HO_12 := n0_; have BK281 := n1_; have BK289 := n2_; have HB := n3_; clear n0_ n1_ n2_ n3_; (try clear hb); (try clear hb2); (try clear hk); (try clear hi)) | ((with_reducible refine gate_builtin (b := .append) (xs := #[.tmp 74, .tmp 81]) rfl ?_); (try (refine gate_guard (by rfl) ?_; dsimp only)); at_builtin; refine Kd.R_append Kd.string (w0 := w) w.heap.size rfl (.tmp 74) (.tmp 81) 25 9 (.string ⟨#[]⟩) 16 rfl Tryd.underlying25 info9 rfl (by decide) (by omega) u12 x12_4 ((x8_28 ++ ((t291 ++ (⟨#[58]⟩ : ByteArray)) ++ x9_28)) ++ t292) [.string ((x8_28 ++ ((t291 ++ (⟨#[58]⟩ : ByteArray)) ++ x9_28)) ++ t292)] (fun _ => True) (fun _ => False) rfl rfl ?aP (fun _ hk => hk.elim) ?aF ?aO ?aB ?aS ?aL ?_; (case aP => exact rfl); (case aB => exact (by repeat (first | (with_reducible first | exact HB.out | apply zG | apply zE | apply zF | refine zH ?_ GE281.out | refine zH ?_ GE289.out) | exact HB.out))); (case aF => exact (fun _ _ => trivial)); (case aO => exact (by (with_reducible repeat (first | apply Kd.R_alloc | apply Kd.R_drewN | apply Kd.R_drew)); exact HO_12.out)); (case aS => exact (zR (by repeat (first | (with_reducible first | exact HB.out | apply zG | apply zE | apply zF | refine zH ?_ GE281.out | refine zH ?_ GE289.out) | exact HB.out)))); (case aL => have := LMc51.out; (first | omega | (simp only [ByteArray.size, List.size_toArray, List.length_cons, List.length_nil] at *; omega))); intro v294 w59 ho hb hg hat; rw [← Ny293.out] at ho; have n0_ := zA (blk_grown (g := gb281) (o := .cells #[.int .i64 a0_0, .int .i64 a0_1, .int .i64 a0_2, .string a0_3, .slice (some ad288) l0_4.length c0_4, .slice (some ad290) l0_5.length c0_5] 33 (0, 0)) (by (with_reducible repeat (first | refine zB ?_ _ | refine zD ?_ | refine zC ?_ _)); exact BK281.out) hg (Kd.R_ne HO_12.out BK281.out (by decide))); have n1_ := zA (blk_grown (g := gb289) (o := .cells #[.int .i64 ((rd_T33 l0_4 x54_4).f0), .int .i64 ((rd_T33 l0_4 x54_4).f1.f0), .int .i64 ((rd_T33 l0_4 x54_4).f1.f1), .string ((rd_T33 l0_4 x54_4).f2), .slice A288_4 ((rd_T33 l0_4 x54_4).f3).length c288_4, .slice A288_5 ((rd_T33 l0_4 x54_4).f4).length c288_5] 33 (0, 0)) (by (with_reducible repeat (first | refine zB ?_ _ | refine zD ?_ | refine zC ?_ _)); exact BK289.out) hg (Kd.R_ne HO_12.out BK289.out (by decide))); have n2_ := zA (hb); have n3_ := zA (ho); clear BK281; clear BK289; clear HB; clear HO_12; have BK281 := n0_; have BK289 := n1_; have HB := n2_; have HO295 := n3_; clear n0_ n1_ n2_ n3_; clear ho hb hg hat))
                        go_roundg k4
                        case measure => have := HJ23.out; have := HJ28.out; have := HJ33.out; have := HK4.out; omega
                        case rel => exact ⟨(y293), (wrap64 (x54_4 + 1)), (by first | rfl | (simp; done) | (simp [*]; done) | (simp [isEmpty_bne]; done)), H', ⟨by have := HJ23.out; have := HJ28.out; have := HJ33.out; have := HK4.out; omega⟩, ⟨by (with_reducible repeat (first | apply Kd.R_alloc | apply Kd.R_drewN | apply Kd.R_drew)); exact HO295.out⟩, ⟨by (with_reducible repeat (first | refine zB ?_ _ | refine zD ?_ | refine zC ?_ _)); exact BK281.out⟩, ⟨by repeat (first | (with_reducible first | exact HB.out | apply zG | apply zE | apply zF | refine zH ?_ GE281.out | refine zH ?_ GE289.out) | exact HB.out)⟩⟩
                       ·rw [if_neg c51] at H
                        exact absurd H (by simp)
                      ·rw [if_neg c50] at H
                       exact absurd H (by simp)
                     ·rw [if_neg c48] at H
                      exact absurd H (by simp)
                    ·rw [if_neg c47] at H
                     exact absurd H (by simp)
                   ·rw [if_neg c46] at H
                    exact absurd H (by simp)
                  ·rw [if_neg c44] at H
                   exact absurd H (by simp)
                 ·rw [if_neg c43] at H
                  have c43b0 : (a0_0 == 6) = false := beq_eq_false_iff_ne.mpr c43
                  have c43b1 : (a0_0 != 6) = true := bne_iff_ne.mpr c43
                  replace H := Option.bind_eq_some_iff.mp H
                  obtain ⟨t296, A600, H⟩ := H
                  replace H : (if x8_28.size + t296.size ≤ 9223372036854775807 then (if x12_4.length < 8796093022208 then (impl_layout.l0 k4 a1 x7_28 x8_28 x9_28 x10_28 x11_33 (x12_4 ++ [x8_28 ++ t296]) l0_4 (l0_4.length : Int) (wrap64 (x54_4 + 1)) l3 a0_0 a0_1 a0_2 a0_3 l0_4 l0_5) else (none)) else (none)) = some r := H
                  have A60 := zA A600
                  clear A600
                  by_cases c61 : x8_28.size + t296.size ≤ 9223372036854775807
                  ·rw [if_pos c61] at H
                   have c61b0 := eq_true c61
                   have c61b1 : decide (x8_28.size + t296.size ≤ 9223372036854775807) = true := yF c61
                   try have c61b2 : (9223372036854775807 < x8_28.size + t296.size) = False := eq_false (Nat.not_lt.2 c61)
                   by_cases c62 : x12_4.length < 8796093022208
                   ·rw [if_pos c62] at H
                    have LMc62 := zA c62
                    clear c62
                    obtain ⟨y297, hy297⟩ : ∃ y_ : List ByteArray, y_ = (x12_4 ++ [x8_28 ++ t296]) := ⟨_, rfl⟩
                    replace H : (impl_layout.l0 k4 a1 x7_28 x8_28 x9_28 x10_28 x11_33 y297 l0_4 (l0_4.length : Int) (wrap64 (x54_4 + 1)) l3 a0_0 a0_1 a0_2 a0_3 l0_4 l0_5) = some r := by first | (rw [hy297]; with_reducible exact H) | (have H2_ := (Option.bind_some _ _).symm.trans H; rw [hy297]; with_reducible exact H2_) | (have H2_ := (Option.bind_some _ _).symm.trans H; with_reducible exact H2_) | with_reducible exact H | (rw [hy297]; exact H) | exact H
                    have Ny297 := zA hy297
                    clear hy297
                    have H' := zA H
                    clear H
                    have p288 : 0 ≤ (x54_4 : Int) := yG (by first | (with_reducible assumption) | assumption)
                    have q288 : x54_4 < (l0_4.length : Int) := yG (by first | (with_reducible assumption) | assumption)
                    obtain ⟨ad288, A288_4, c288_4, A288_5, c288_5, e288, hx288_0, hx288_1, hx288_2, hx288_3, hx288_4, hx288_5, hl288_4, hi288_4, hl288_5, hi288_5⟩ := at_T33 HR0_4.out x54_4 p288 q288
                    cases e288
                    replace hx288_0 := (HB.out.cell (zS w _ hx288_0)).trans hx288_0
                    replace hx288_1 := (HB.out.cell (zS w _ hx288_1)).trans hx288_1
                    replace hx288_2 := (HB.out.cell (zS w _ hx288_2)).trans hx288_2
                    replace hx288_3 := (HB.out.cell (zS w _ hx288_3)).trans hx288_3
                    replace hx288_4 := (HB.out.cell (zS w _ hx288_4)).trans hx288_4
                    replace hx288_5 := (HB.out.cell (zS w _ hx288_5)).trans hx288_5
                    have HR288_4 := zA hi288_4
                    have HC288_4 := zA hl288_4
                    clear hi288_4 hl288_4
                    have HR288_5 := zA hi288_5
                    have HC288_5 := zA hl288_5
                    clear hi288_5 hl288_5
                    replace p288 := eq_true p288
                    replace q288 := eq_true q288
                    go_wp2_with (first | ((with_reducible refine zT (N := 14) rfl ?_); (try (refine gate_guard (by rfl) ?_; dsimp only)); refine zX ?hg (N := 14) ?hd (cs := #[.int .i64 0, .int .i64 0, .int .i64 0, .string (⟨#[]⟩ : ByteArray), .slice none 0 0, .slice none 0 0]) (t := 33) ?hr ?_; (case hd => rfl); (case hg => rfl); (case hr => first | (go_simp; done) | (go_simp; rfl)); intro gb289 hg w63 hbox hb; have n0_ := zA (Kd.R_below (by (with_reducible repeat (first | apply Kd.R_alloc | apply Kd.R_drewN | apply Kd.R_drew)); exact HO_12.out) hb); have n1_ := zA (zP (g := gb281) (o := .cells #[.int .i64 a0_0, .int .i64 a0_1, .int .i64 a0_2, .string a0_3, .slice (some ad288) l0_4.length c0_4, .slice A0_5 l0_5.length c0_5] 33 (0, 0)) (by (with_reducible repeat (first | refine zB ?_ _ | refine zD ?_ | refine zC ?_ _)); exact BK281.out) hb); have n2_ := zA (zQ (by repeat (first | (with_reducible first | exact HB.out | apply zG | apply zE | apply zF | refine zH ?_ GE281.out) | exact HB.out)) hb); have n3_ := zA (hbox); have n4_ := zA ((by rw [hg]; exact (zR (by repeat (first | (with_reducible first | exact HB.out | apply zG | apply zE | apply zF | refine zH ?_ GE281.out) | exact HB.out))) : w.heap.size ≤ gb289)); have n5_ := zA ((by rw [hg]; exact (zR (by repeat (first | (with_reducible first | exact HB.out | apply zG | apply zE | apply zF | refine zH ?_ GE281.out) | exact HB.out))) : w.heap.size ≤ gb289)); have n6_ := zA ((by rw [hg]; exact Nat.ne_of_lt (blk_lt (g := gb281) (o := .cells #[.int .i64 a0_0, .int .i64 a0_1, .int .i64 a0_2, .string a0_3, .slice (some ad288) l0_4.length c0_4, .slice A0_5 l0_5.length c0_5] 33 (0, 0)) (by (with_reducible repeat (first | refine zB ?_ _ | refine zD ?_ | refine zC ?_ _)); exact BK281.out)) : gb281 ≠ gb289)); have n7_ := zA ((by rw [hg]; exact Nat.ne_of_gt (blk_lt (g := gb281) (o := .cells #[.int .i64 a0_0, .int .i64 a0_1, .int .i64 a0_2, .string a0_3, .slice (some ad288) l0_4.length c0_4, .slice A0_5 l0_5.length c0_5] 33 (0, 0)) (by (with_reducible repeat (first | refine zB ?_ _ | refine zD ?_ | refine zC ?_ _)); exact BK281.out)) : gb289 ≠ gb281)); clear HO_12; clear BK281; clear HB; have HO_12 := n0_; have BK281 := n1_; have HB := n2_; have BK289 := n3_; have GW289 := n4_; have GE289 := n5_; have NB281_289 := n6_; have NB289_281 := n7_; clear n0_ n1_ n2_ n3_ n4_ n5_ n6_ n7_; clear hb hbox hg; have hnb64 := NB289_281.out; have hnc64 := NB281_289.out; have hcz65_0 : w63.cell? ⟨gb289, 0, none⟩ = some (.int .i64 0) := (zJ BK289.out 0).trans rfl; have hcz65_1 : w63.cell? ⟨gb289, 1, none⟩ = some (.int .i64 0) := (zJ BK289.out 1).trans rfl; have hcz65_2 : w63.cell? ⟨gb289, 2, none⟩ = some (.int .i64 0) := (zJ BK289.out 2).trans rfl; have hcz65_3 : w63.cell? ⟨gb289, 3, none⟩ = some (.string (⟨#[]⟩ : ByteArray)) := (zJ BK289.out 3).trans rfl; have hcz65_4 : w63.cell? ⟨gb289, 4, none⟩ = some (.slice none 0 0) := (zJ BK289.out 4).trans rfl; have hcz65_5 : w63.cell? ⟨gb289, 5, none⟩ = some (.slice none 0 0) := (zJ BK289.out 5).trans rfl; have hfz65_0 := zK BK289.out 0; have hfz65_1 := zK BK289.out 1; have hfz65_2 := zK BK289.out 2; have hfz65_3 := zK BK289.out 3; have hfz65_4 := zK BK289.out 4; have hfz65_5 := zK BK289.out 5; have hcz66_0 : w63.cell? ⟨gb281, 0, none⟩ = some (.int .i64 a0_0) := (zJ BK281.out 0).trans rfl; have hcz66_1 : w63.cell? ⟨gb281, 1, none⟩ = some (.int .i64 a0_1) := (zJ BK281.out 1).trans rfl; have hcz66_2 : w63.cell? ⟨gb281, 2, none⟩ = some (.int .i64 a0_2) := (zJ BK281.out 2).trans rfl; have hcz66_3 : w63.cell? ⟨gb281, 3, none⟩ = some (.string a0_3) := (zJ BK281.out 3).trans rfl; have hcz66_4 : w63.cell? ⟨gb281, 4, none⟩ = some (.slice (some ad288) l0_4.length c0_4) := (zJ BK281.out 4).trans rfl; have hcz66_5 : w63.cell? ⟨gb281, 5, none⟩ = some (.slice A0_5 l0_5.length c0_5) := (zJ BK281.out 5).trans rfl; have hfz66_0 := zK BK281.out 0; have hfz66_1 := zK BK281.out 1; have hfz66_2 := zK BK281.out 2; have hfz66_3 := zK BK281.out 3; have hfz66_4 := zK BK281.out 4; have hfz66_5 := zK BK281.out 5) | ((with_reducible refine zV (f := 17) rfl ?_); refine goesL_ (some 79) rfl rfl Tryd.func17 (by kernel_rfl) rfl #[.agg #[.int .i64 ((rd_T33 l0_4 x54_4).f0), .int .i64 ((rd_T33 l0_4 x54_4).f1.f0), .int .i64 ((rd_T33 l0_4 x54_4).f1.f1), .string ((rd_T33 l0_4 x54_4).f2), .slice A288_4 ((rd_T33 l0_4 x54_4).f3).length c288_4, .slice A288_5 ((rd_T33 l0_4 x54_4).f4).length c288_5], .bool a1, .string x7_28] rfl (by (try simp only [yA, yD, yE]); first | done | rfl | (simp only [yB, yC]; rfl)) ?_; (with_reducible refine (ih k4 (by have := HJ23.out; have := HJ28.out; have := HJ33.out; have := HK4.out; omega) ((rd_T33 l0_4 x54_4).f0) ((rd_T33 l0_4 x54_4).f1.f0) ((rd_T33 l0_4 x54_4).f1.f1) ((rd_T33 l0_4 x54_4).f2) _ _ ((rd_T33 l0_4 x54_4).f3) _ _ ((rd_T33 l0_4 x54_4).f4) a1 x7_28 A3 c3 l3 t296 _ ?side1 ?side2 ?side3 ?side4 ?side5 ?side6 ?side7 A60.out).mono ?_); (case side1 => exact Kd.C_below HR288_4.out (by repeat (first | (with_reducible first | exact HB.out | apply zG | apply zE | apply zF | refine zH ?_ GE281.out | refine zH ?_ GE289.out) | exact HB.out))); (case side2 => exact HC288_4.out); (case side3 => exact Kd.C_below HR288_5.out (by repeat (first | (with_reducible first | exact HB.out | apply zG | apply zE | apply zF | refine zH ?_ GE281.out | refine zH ?_ GE289.out) | exact HB.out))); (case side4 => exact HC288_5.out); (case side5 => exact Kd.C_below HR3.out (by repeat (first | (with_reducible first | exact HB.out | apply zG | apply zE | apply zF | refine zH ?_ GE281.out | refine zH ?_ GE289.out) | exact HB.out))); (case side6 => exact HC3.out); (case side7 => exact HG3.out); rintro e w67 ⟨rfl, hb⟩; refine ⟨_, rfl, ?_⟩; have n0_ := zA (Kd.R_below (by (with_reducible repeat (first | apply Kd.R_alloc | apply Kd.R_drewN | apply Kd.R_drew)); exact (Kd.R_mono (Kd.R_far (p := ⟨gb289, 5, none⟩) (Kd.R_far (p := ⟨gb289, 4, none⟩) (Kd.R_far (p := ⟨gb289, 3, none⟩) (Kd.R_far (p := ⟨gb289, 2, none⟩) (Kd.R_far (p := ⟨gb289, 1, none⟩) (Kd.R_far (p := ⟨gb289, 0, none⟩) (Kd.R_types HO_12.out BK289.out (by decide)) (fun _ hk => hk.2) (.int .i64 ((rd_T33 l0_4 x54_4).f0))) (fun _ hk => hk.2) (.int .i64 ((rd_T33 l0_4 x54_4).f1.f0))) (fun _ hk => hk.2) (.int .i64 ((rd_T33 l0_4 x54_4).f1.f1))) (fun _ hk => hk.2) (.string ((rd_T33 l0_4 x54_4).f2))) (fun _ hk => hk.2) (.slice A288_4 ((rd_T33 l0_4 x54_4).f3).length c288_4)) (fun _ hk => hk.2) (.slice A288_5 ((rd_T33 l0_4 x54_4).f4).length c288_5)) (fun _ h_ => h_.1))) hb); have n1_ := zA (zP (g := gb281) (o := .cells #[.int .i64 a0_0, .int .i64 a0_1, .int .i64 a0_2, .string a0_3, .slice (some ad288) l0_4.length c0_4, .slice A0_5 l0_5.length c0_5] 33 (0, 0)) (by (with_reducible repeat (first | refine zB ?_ _ | refine zD ?_ | refine zC ?_ _)); refine blk_far ?_ NB281_289.out _; (with_reducible repeat (first | refine zB ?_ _ | refine zD ?_ | refine zC ?_ _)); refine blk_far ?_ NB281_289.out _; (with_reducible repeat (first | refine zB ?_ _ | refine zD ?_ | refine zC ?_ _)); refine blk_far ?_ NB281_289.out _; (with_reducible repeat (first | refine zB ?_ _ | refine zD ?_ | refine zC ?_ _)); refine blk_far ?_ NB281_289.out _; (with_reducible repeat (first | refine zB ?_ _ | refine zD ?_ | refine zC ?_ _)); refine blk_far ?_ NB281_289.out _; (with_reducible repeat (first | refine zB ?_ _ | refine zD ?_ | refine zC ?_ _)); refine blk_far ?_ NB281_289.out _; (with_reducible repeat (first | refine zB ?_ _ | refine zD ?_ | refine zC ?_ _)); exact BK281.out) hb); have n2_ := zA (zP (g := gb289) (o := .cells #[.int .i64 ((rd_T33 l0_4 x54_4).f0), .int .i64 ((rd_T33 l0_4 x54_4).f1.f0), .int .i64 ((rd_T33 l0_4 x54_4).f1.f1), .string ((rd_T33 l0_4 x54_4).f2), .slice A288_4 ((rd_T33 l0_4 x54_4).f3).length c288_4, .slice A288_5 ((rd_T33 l0_4 x54_4).f4).length c288_5] 33 (0, 0)) (by (with_reducible repeat (first | refine zB ?_ _ | refine zD ?_ | refine zC ?_ _)); refine blk_put (cs := #[.int .i64 ((rd_T33 l0_4 x54_4).f0), .int .i64 ((rd_T33 l0_4 x54_4).f1.f0), .int .i64 ((rd_T33 l0_4 x54_4).f1.f1), .string ((rd_T33 l0_4 x54_4).f2), .slice A288_4 ((rd_T33 l0_4 x54_4).f3).length c288_4, .slice none 0 0]) ?_ 5 _ rfl; (with_reducible repeat (first | refine zB ?_ _ | refine zD ?_ | refine zC ?_ _)); refine blk_put (cs := #[.int .i64 ((rd_T33 l0_4 x54_4).f0), .int .i64 ((rd_T33 l0_4 x54_4).f1.f0), .int .i64 ((rd_T33 l0_4 x54_4).f1.f1), .string ((rd_T33 l0_4 x54_4).f2), .slice none 0 0, .slice none 0 0]) ?_ 4 _ rfl; (with_reducible repeat (first | refine zB ?_ _ | refine zD ?_ | refine zC ?_ _)); refine blk_put (cs := #[.int .i64 ((rd_T33 l0_4 x54_4).f0), .int .i64 ((rd_T33 l0_4 x54_4).f1.f0), .int .i64 ((rd_T33 l0_4 x54_4).f1.f1), .string (⟨#[]⟩ : ByteArray), .slice none 0 0, .slice none 0 0]) ?_ 3 _ rfl; (with_reducible repeat (first | refine zB ?_ _ | refine zD ?_ | refine zC ?_ _)); refine blk_put (cs := #[.int .i64 ((rd_T33 l0_4 x54_4).f0), .int .i64 ((rd_T33 l0_4 x54_4).f1.f0), .int .i64 0, .string (⟨#[]⟩ : ByteArray), .slice none 0 0, .slice none 0 0]) ?_ 2 _ rfl; (with_reducible repeat (first | refine zB ?_ _ | refine zD ?_ | refine zC ?_ _)); refine blk_put (cs := #[.int .i64 ((rd_T33 l0_4 x54_4).f0), .int .i64 0, .int .i64 0, .string (⟨#[]⟩ : ByteArray), .slice none 0 0, .slice none 0 0]) ?_ 1 _ rfl; (with_reducible repeat (first | refine zB ?_ _ | refine zD ?_ | refine zC ?_ _)); refine blk_put (cs := #[.int .i64 0, .int .i64 0, .int .i64 0, .string (⟨#[]⟩ : ByteArray), .slice none 0 0, .slice none 0 0]) ?_ 0 _ rfl; (with_reducible repeat (first | refine zB ?_ _ | refine zD ?_ | refine zC ?_ _)); exact BK289.out) hb); have n3_ := zA (zQ (by repeat (first | (with_reducible first | exact HB.out | apply zG | apply zE | apply zF | refine zH ?_ GE281.out | refine zH ?_ GE289.out) | exact HB.out)) hb); clear HO_12; clear BK281; clear BK289; clear HB; have HO_12 := n0_; have BK281 := n1_; have BK289 := n2_; have HB := n3_; clear n0_ n1_ n2_ n3_; (try clear hb); (try clear hb2); (try clear hk); (try clear hi)) | ((with_reducible refine gate_builtin (b := .append) (xs := #[.tmp 74, .tmp 81]) rfl ?_); (try (refine gate_guard (by rfl) ?_; dsimp only)); at_builtin; refine Kd.R_append Kd.string (w0 := w) w.heap.size rfl (.tmp 74) (.tmp 81) 25 9 (.string ⟨#[]⟩) 16 rfl Tryd.underlying25 info9 rfl (by decide) (by omega) u12 x12_4 (x8_28 ++ t296) [.string (x8_28 ++ t296)] (fun _ => True) (fun _ => False) rfl rfl ?aP (fun _ hk => hk.elim) ?aF ?aO ?aB ?aS ?aL ?_; (case aP => exact rfl); (case aB => exact (by repeat (first | (with_reducible first | exact HB.out | apply zG | apply zE | apply zF | refine zH ?_ GE281.out | refine zH ?_ GE289.out) | exact HB.out))); (case aF => exact (fun _ _ => trivial)); (case aO => exact (by (with_reducible repeat (first | apply Kd.R_alloc | apply Kd.R_drewN | apply Kd.R_drew)); exact HO_12.out)); (case aS => exact (zR (by repeat (first | (with_reducible first | exact HB.out | apply zG | apply zE | apply zF | refine zH ?_ GE281.out | refine zH ?_ GE289.out) | exact HB.out)))); (case aL => have := LMc62.out; (first | omega | (simp only [ByteArray.size, List.size_toArray, List.length_cons, List.length_nil] at *; omega))); intro v298 w68 ho hb hg hat; rw [← Ny297.out] at ho; have n0_ := zA (blk_grown (g := gb281) (o := .cells #[.int .i64 a0_0, .int .i64 a0_1, .int .i64 a0_2, .string a0_3, .slice (some ad288) l0_4.length c0_4, .slice A0_5 l0_5.length c0_5] 33 (0, 0)) (by (with_reducible repeat (first | refine zB ?_ _ | refine zD ?_ | refine zC ?_ _)); exact BK281.out) hg (Kd.R_ne HO_12.out BK281.out (by decide))); have n1_ := zA (blk_grown (g := gb289) (o := .cells #[.int .i64 ((rd_T33 l0_4 x54_4).f0), .int .i64 ((rd_T33 l0_4 x54_4).f1.f0), .int .i64 ((rd_T33 l0_4 x54_4).f1.f1), .string ((rd_T33 l0_4 x54_4).f2), .slice A288_4 ((rd_T33 l0_4 x54_4).f3).length c288_4, .slice A288_5 ((rd_T33 l0_4 x54_4).f4).length c288_5] 33 (0, 0)) (by (with_reducible repeat (first | refine zB ?_ _ | refine zD ?_ | refine zC ?_ _)); exact BK289.out) hg (Kd.R_ne HO_12.out BK289.out (by decide))); have n2_ := zA (hb); have n3_ := zA (ho); clear BK281; clear BK289; clear HB; clear HO_12; have BK281 := n0_; have BK289 := n1_; have HB := n2_; have HO299 := n3_; clear n0_ n1_ n2_ n3_; clear ho hb hg hat))
                    go_roundg k4
                    case measure => have := HJ23.out; have := HJ28.out; have := HJ33.out; have := HK4.out; omega
                    case rel => exact ⟨(y297), (wrap64 (x54_4 + 1)), (by first | rfl | (simp; done) | (simp [*]; done) | (simp [isEmpty_bne]; done)), H', ⟨by have := HJ23.out; have := HJ28.out; have := HJ33.out; have := HK4.out; omega⟩, ⟨by (with_reducible repeat (first | apply Kd.R_alloc | apply Kd.R_drewN | apply Kd.R_drew)); exact HO299.out⟩, ⟨by (with_reducible repeat (first | refine zB ?_ _ | refine zD ?_ | refine zC ?_ _)); exact BK281.out⟩, ⟨by repeat (first | (with_reducible first | exact HB.out | apply zG | apply zE | apply zF | refine zH ?_ GE281.out | refine zH ?_ GE289.out) | exact HB.out)⟩⟩
                   ·rw [if_neg c62] at H
                    exact absurd H (by simp)
                  ·rw [if_neg c61] at H
                   exact absurd H (by simp)
                ·rw [if_neg c42] at H
                 exact absurd H (by simp)
               ·rw [if_neg c41] at H
                exact absurd H (by simp)
              ·rw [if_neg c40] at H
               have c40b0 : decide (x54_4 < (l0_4.length : Int)) = false := decide_eq_false c40
               clear c40
               by_cases c69 : 0 ≤ 1
               ·rw [if_pos c69] at H
                have c69b0 := eq_true c69
                have c69b1 : decide (0 ≤ 1) = true := yF c69
                clear c69
                by_cases c70 : 1 ≤ (x11_33.size : Int)
                ·rw [if_pos c70] at H
                 have c70b0 := eq_true c70
                 have c70b1 : decide (1 ≤ (x11_33.size : Int)) = true := yF c70
                 clear c70
                 replace H := Option.bind_eq_some_iff.mp H
                 obtain ⟨t287, A710, H⟩ := H
                 replace H : (if (x11_33.extract 0 1).size + t287.size ≤ 9223372036854775807 then (if ((x11_33.extract 0 1) ++ t287).size + x10_28.size ≤ 9223372036854775807 then (if (((x11_33.extract 0 1) ++ t287) ++ x10_28).size + (x11_33.extract 1 x11_33.size).size ≤ 9223372036854775807 then (some ((((x11_33.extract 0 1) ++ t287) ++ x10_28) ++ (x11_33.extract 1 x11_33.size))) else (none)) else (none)) else (none)) = some r := H
                 have A71 := zA A710
                 clear A710
                 by_cases c72 : (x11_33.extract 0 1).size + t287.size ≤ 9223372036854775807
                 ·rw [if_pos c72] at H
                  have c72b0 := eq_true c72
                  have c72b1 : decide ((x11_33.extract 0 1).size + t287.size ≤ 9223372036854775807) = true := yF c72
                  try have c72b2 : (9223372036854775807 < (x11_33.extract 0 1).size + t287.size) = False := eq_false (Nat.not_lt.2 c72)
                  by_cases c73 : ((x11_33.extract 0 1) ++ t287).size + x10_28.size ≤ 9223372036854775807
                  ·rw [if_pos c73] at H
                   have c73b0 := eq_true c73
                   have c73b1 : decide (((x11_33.extract 0 1) ++ t287).size + x10_28.size ≤ 9223372036854775807) = true := yF c73
                   try have c73b2 : (9223372036854775807 < ((x11_33.extract 0 1) ++ t287).size + x10_28.size) = False := eq_false (Nat.not_lt.2 c73)
                   try simp only [ByteArray.size_append] at c73b2
                   have c74b0 := eq_true (yG (by first | (with_reducible assumption) | assumption) : 1 ≤ (x11_33.size : Int))
                   by_cases c75 : (((x11_33.extract 0 1) ++ t287) ++ x10_28).size + (x11_33.extract 1 x11_33.size).size ≤ 9223372036854775807
                   ·rw [if_pos c75] at H
                    have c75b0 := eq_true c75
                    have c75b1 : decide ((((x11_33.extract 0 1) ++ t287) ++ x10_28).size + (x11_33.extract 1 x11_33.size).size ≤ 9223372036854775807) = true := yF c75
                    try have c75b2 : (9223372036854775807 < (((x11_33.extract 0 1) ++ t287) ++ x10_28).size + (x11_33.extract 1 x11_33.size).size) = False := eq_false (Nat.not_lt.2 c75)
                    try simp only [ByteArray.size_append] at c75b2
                    obtain rfl := yH H
                    try go_wp2
                    have n0_ := zA (Kd.R_drew HO_12.out)
                    have n1_ := zA (zD BK281.out)
                    have n2_ := zA (zF HB.out)
                    clear HO_12
                    clear BK281
                    clear HB
                    have HO_12 := n0_
                    have BK281 := n1_
                    have HB := n2_
                    clear n0_ n1_ n2_
                    obtain ⟨Ao77, co77, eo77⟩ := Kd.R_slice HO_12.out
                    (first | subst eo77 | (injection eo77 with f1_ f2_ f3_; have f4_ := f1_.symm; have f5_ := f3_.symm; clear f1_ f2_ f3_; subst f4_; subst f5_))
                    refine start_ (n := 11) (S := fun w' => True) (ds := []) #[false, false, false, false, false, false, false, false, false, false, false] (by kernel_rfl) rfl rfl trivial (fun hHeld => ?_); refine with_tabW impl_layout.tab28 impl_layout.bits28 (fun HT_ HW_ => ?_)
                    generalize wr.drew = w76 at HO_12 BK281 HB hHeld ⊢
                    refine pure_ (i := 0) (N := some 84) (v := ?_) (a' := ?_) #[true, false, false, false, false, false, false, false, false, false, false] rfl rfl (any_of HT_.out (by kernel_rfl)) (fun _ _ _ h => h) (Or.inl ⟨by rfl, ?_⟩) ?_ ?_
                    rotate_left
                    ·intro w'
                     go_simp
                     with_reducible rfl
                    rotate_left
                    ·simp only [Act.put, zL, zM, zN, i64_w, i32_w]
                     rfl
                    refine pure_ (i := 1) (N := some 85) (v := ?_) (a' := ?_) #[true, true, false, false, false, false, false, false, false, false, false] rfl rfl (any_of HT_.out (by kernel_rfl)) (fun _ _ _ h => h) (Or.inl ⟨by rfl, ?_⟩) ?_ ?_
                    rotate_left
                    ·intro w'
                     go_simp
                     with_reducible rfl
                    rotate_left
                    ·simp only [Act.put, zL, zM, zN, i64_w, i32_w]
                     rfl
                    refine pure_ (i := 2) (N := some 86) (v := ?_) (a' := ?_) #[true, true, true, false, false, false, false, false, false, false, false] rfl rfl (any_of HT_.out (by kernel_rfl)) (fun _ _ _ h => h) (Or.inl ⟨by rfl, ?_⟩) ?_ ?_
                    rotate_left
                    ·intro w'
                     go_simp
                     with_reducible rfl
                    rotate_left
                    ·simp only [Act.put, zL, zM, zN, i64_w, i32_w]
                     rfl
                    refine pure_ (i := 5) (N := some 89) (v := ?_) (a' := ?_) #[true, true, true, false, false, true, false, false, false, false, false] rfl rfl (any_of HT_.out (by kernel_rfl)) (fun _ _ _ h => h) (Or.inl ⟨by rfl, ?_⟩) ?_ ?_
                    rotate_left
                    ·intro w'
                     go_simp
                     with_reducible rfl
                    rotate_left
                    ·simp only [Act.put, zL, zM, zN, i64_w, i32_w]
                     rfl
                    refine pure_ (i := 7) (N := some 91) (v := ?_) (a' := ?_) #[true, true, true, false, false, true, false, true, false, false, false] rfl rfl (any_of HT_.out (by kernel_rfl)) (fun _ _ _ h => h) (Or.inl ⟨by rfl, ?_⟩) ?_ ?_
                    rotate_left
                    ·intro w'
                     go_simp
                     with_reducible rfl
                    rotate_left
                    ·simp only [Act.put, zL, zM, zN, i64_w, i32_w]
                     rfl
                    refine pure_ (i := 8) (N := some 92) (v := ?_) (a' := ?_) #[true, true, true, false, false, true, false, true, true, false, false] rfl rfl (any_of HT_.out (by kernel_rfl)) (fun _ _ _ h => h) (Or.inl ⟨by rfl, ?_⟩) ?_ ?_
                    rotate_left
                    ·intro w'
                     go_simp
                     with_reducible rfl
                    rotate_left
                    ·simp only [Act.put, zL, zM, zN, i64_w, i32_w]
                     rfl
                    refine one_ (i := 3) (N := some 87) #[true, true, true, true, false, true, false, true, true, false, false] rfl rfl (one_of HT_.out (by kernel_rfl)) (by decide) (fun K hK => ?_)
                    refine goes_ Tryd.func30 (by kernel_rfl) rfl #[.slice Ao77 x12_4.length co77, .string (⟨#[44]⟩ : ByteArray)] (by rfl) rfl rfl (by (try simp only [yA, yD, yE]); first | done | rfl | (simp only [yB, yC]; rfl)) ?_
                    with_reducible refine (strings_Join.calls _ _ x12_4 (⟨#[44]⟩ : ByteArray) t287 _ ?side1 ?side2 A71.out).mono ?_
                    (case side1 => repeat (first | exact (Kd.R_reads' HO_12.out).2.2 | (with_reducible refine Kd.C_alloc ?_ _) | (with_reducible refine Kd.C_drewN ?_ _) | (with_reducible refine Kd.C_drew ?_)))
                    (case side2 => exact (Kd.R_reads' HO_12.out).2.1)
                    rintro e w78 ⟨rfl, hb⟩
                    refine ⟨_, rfl, ?_⟩
                    have n0_ := zA (Kd.R_below (by (with_reducible repeat (first | apply Kd.R_alloc | apply Kd.R_drewN | apply Kd.R_drew)); exact HO_12.out) hb)
                    have n1_ := zA (zP (g := gb281) (o := .cells #[.int .i64 a0_0, .int .i64 a0_1, .int .i64 a0_2, .string a0_3, .slice A0_4 l0_4.length c0_4, .slice A0_5 l0_5.length c0_5] 33 (0, 0)) (by (with_reducible repeat (first | refine zB ?_ _ | refine zD ?_ | refine zC ?_ _)); exact BK281.out) hb)
                    have n2_ := zA (zQ (by repeat (first | (with_reducible first | exact HB.out | apply zG | apply zE | apply zF | refine zH ?_ GE281.out) | exact HB.out)) hb)
                    clear HO_12
                    clear BK281
                    clear HB
                    have HO_12 := n0_
                    have BK281 := n1_
                    have HB := n2_
                    clear n0_ n1_ n2_
                    (try clear hb)
                    (try clear hb2)
                    (try clear hk)
                    (try clear hi)
                    refine hK.out _ _ trivial (fun hHeld => ?_)
                    clear hK K
                    refine norm_ (a' := ?_) ?_ ?_
                    rotate_left
                    ·show Act.put _ (some 87) _ = _
                     simp only [Act.put, zL, zM, zN, i64_w, i32_w]
                     rfl
                    refine pure_ (i := 4) (N := some 88) (v := ?_) (a' := ?_) #[true, true, true, true, true, true, false, true, true, false, false] rfl rfl (any_of HT_.out (by kernel_rfl)) (fun _ _ _ h => h) (Or.inl ⟨by rfl, ?_⟩) ?_ ?_
                    rotate_left
                    ·intro w'
                     go_simp
                     with_reducible rfl
                    rotate_left
                    ·simp only [Act.put, zL, zM, zN, i64_w, i32_w]
                     rfl
                    refine pure_ (i := 6) (N := some 90) (v := ?_) (a' := ?_) #[true, true, true, true, true, true, true, true, true, false, false] rfl rfl (any_of HT_.out (by kernel_rfl)) (fun _ _ _ h => h) (Or.inl ⟨by rfl, ?_⟩) ?_ ?_
                    rotate_left
                    ·intro w'
                     go_simp
                     with_reducible rfl
                    rotate_left
                    ·simp only [Act.put, zL, zM, zN, i64_w, i32_w]
                     rfl
                    refine pure_ (i := 9) (N := some 93) (v := ?_) (a' := ?_) #[true, true, true, true, true, true, true, true, true, true, false] rfl rfl (any_of HT_.out (by kernel_rfl)) (fun _ _ _ h => h) (Or.inl ⟨by rfl, ?_⟩) ?_ ?_
                    rotate_left
                    ·intro w'
                     go_simp
                     with_reducible rfl
                    rotate_left
                    ·simp only [Act.put, zL, zM, zN, i64_w, i32_w]
                     rfl
                    refine pure_ (i := 10) (N := some 6) (v := ?_) (a' := ?_) #[true, true, true, true, true, true, true, true, true, true, true] rfl rfl (any_of HT_.out (by kernel_rfl)) (fun _ _ _ h => h) (Or.inl ⟨by rfl, ?_⟩) ?_ ?_
                    rotate_left
                    ·intro w'
                     go_simp
                     with_reducible rfl
                    rotate_left
                    ·simp only [Act.put, zL, zM, zN, i64_w, i32_w]
                     rfl
                    refine done_ (done_of HT_.out (by kernel_rfl)) ?_
                    try go_wp2
                    go_ret
                    exact ⟨by first | rfl | (simp [errW_none, errW_some] <;> rfl) | (simp [*, errW_none, errW_some] <;> rfl), by repeat (first | (with_reducible first | exact HB.out | apply zG | apply zE | apply zF | refine zH ?_ GE281.out) | exact HB.out)⟩
                   ·rw [if_neg c75] at H
                    exact absurd H (by simp)
                  ·rw [if_neg c73] at H
                   exact absurd H (by simp)
                 ·rw [if_neg c72] at H
                  exact absurd H (by simp)
                ·rw [if_neg c70] at H
                 exact absurd H (by simp)
               ·rw [if_neg c69] at H
                exact absurd H (by simp)

end Go.Proofs.YtlmdhmfhopgekaaDoor.Q

namespace Go.Proofs.YtlmdhmfhopgekaaDoor.Q
open Go.RowKit Go.Proofs.YtlmdhmfhopgekaaDoorW.PrintWords Go.Proofs.YtlmdhmfhopgekaaDoorW.PrintLast Go.Proofs.YtlmdhmfhopgekaaDoorW.PrintMore Go.Proofs.YtlmdhmfhopgekaaDoorX
attribute [local go_sem] max2_int min2_int max_two min_two max_three min_three max_four min_four   -- for this text's walks alone
set_option linter.unusedVariables false
set_option linter.unusedSimpArgs false

def spec_JsonPut.f (k : Nat) (a0_0 : Int) (a0_1 : Int) (a0_2 : Int) (a0_3 : ByteArray) (l0_4 : List (S33)) (l0_5 : List ByteArray) : Option (ByteArray) := (spec_ValueOk.f k a0_0 a0_1 a0_2 a0_3 l0_4 l0_5).bind fun t216 => (if t216 = true then ((spec_l7Put.f k a0_0 a0_1 a0_2 a0_3 l0_4 l0_5).bind fun t217 => (some t217)) else (some (⟨#[]⟩ : ByteArray)))
theorem spec_JsonPut.mono : ∀ a0 a1 a2 a3 a4 a5 k, LeO (spec_JsonPut.f k a0 a1 a2 a3 a4 a5) (spec_JsonPut.f (k + 1) a0 a1 a2 a3 a4 a5) := by
 intro a0 a1 a2 a3 a4 a5 k
 unfold spec_JsonPut.f
 repeat' first
   | (with_reducible exact spec_ValueOk.mono _ _ _ _ _ _ _)
   | (with_reducible exact spec_l7Put.mono _ _ _ _ _ _ _)
   | (with_reducible exact LeO.refl _)
   | (with_reducible exact LeO.none _)
   | (with_reducible refine LeO.ite ?_ ?_)
   | (with_reducible refine LeO.bind ?_ (fun _ => ?_))
set_option maxHeartbeats 8000000 in
set_option maxRecDepth 100000 in
theorem spec_JsonPut.calls (k : Nat) (a0_0 : Int) (a0_1 : Int) (a0_2 : Int) (a0_3 : ByteArray) (A0_4 : Option Addr) (c0_4 : Nat) (l0_4 : List (S33)) (A0_5 : Option Addr) (c0_5 : Nat) (l0_5 : List ByteArray) (r : ByteArray) (w : World) (hr0_4 : Kd.C k33 w A0_4 l0_4.length l0_4) (hc0_4 : l0_4.length ≤ c0_4) (hr0_5 : Kd.C Kd.string w A0_5 l0_5.length l0_5) (hc0_5 : l0_5.length ≤ c0_5) (h : spec_JsonPut.f k a0_0 a0_1 a0_2 a0_3 l0_4 l0_5 = some r) :
  Calls Tryd.prog 5 #[.agg #[.int .i64 a0_0, .int .i64 a0_1, .int .i64 a0_2, .string a0_3, .slice A0_4 l0_4.length c0_4, .slice A0_5 l0_5.length c0_5]] w fun e w' => e = .returned (.string r) ∧ Below w.heap.size w w' := by
 have hu33 := Tryd.underlying33
 have HR0_4 := zA hr0_4
 have HC0_4 := zA hc0_4
 clear hr0_4 hc0_4
 have HR0_5 := zA hr0_5
 have HC0_5 := zA hc0_5
 clear hr0_5 hc0_5
 have HB := zA (yJ w.heap.size w)
 have H : ((spec_ValueOk.f k a0_0 a0_1 a0_2 a0_3 l0_4 l0_5).bind fun t216 => (if t216 = true then ((spec_l7Put.f k a0_0 a0_1 a0_2 a0_3 l0_4 l0_5).bind fun t217 => (some t217)) else (some (⟨#[]⟩ : ByteArray)))) = some r := h
 clear h
 replace H := Option.bind_eq_some_iff.mp H
 obtain ⟨t216, A20, H⟩ := H
 replace H : (if t216 = true then ((spec_l7Put.f k a0_0 a0_1 a0_2 a0_3 l0_4 l0_5).bind fun t217 => (some t217)) else (some (⟨#[]⟩ : ByteArray))) = some r := H
 have A2 := zA A20
 clear A20
 by_cases c3 : t216 = true
 ·subst c3
  have H1 : ((spec_l7Put.f k a0_0 a0_1 a0_2 a0_3 l0_4 l0_5).bind fun t217 => (some t217)) = some r := by rw [if_pos rfl] at H; exact H
  clear H
  have H := H1
  clear H1
  replace H := Option.bind_eq_some_iff.mp H
  obtain ⟨t217, A40, H⟩ := H
  replace H : (some t217) = some r := H
  have A4 := zA A40
  clear A40
  obtain rfl := yH H
  go_enter Tryd.func5, Tryd.ntmps5
  go_wp2_with (first | ((with_reducible refine zT (N := 1) rfl ?_); refine zX ?hg (N := 1) ?hd (cs := #[.int .i64 a0_0, .int .i64 a0_1, .int .i64 a0_2, .string a0_3, .slice A0_4 l0_4.length c0_4, .slice A0_5 l0_5.length c0_5]) (t := 33) ?hr ?_; (case hd => rfl); (case hg => rfl); (case hr => first | (go_simp; done) | (go_simp; rfl)); intro gb215 hg w5 hbox hb; have n0_ := zA (zQ (by repeat (first | (with_reducible first | exact HB.out | apply zG | apply zE | apply zF) | exact HB.out)) hb); have n1_ := zA (hbox); have n2_ := zA ((by rw [hg]; exact (zR (by repeat (first | (with_reducible first | exact HB.out | apply zG | apply zE | apply zF) | exact HB.out))) : w.heap.size ≤ gb215)); have n3_ := zA ((by rw [hg]; exact (zR (by repeat (first | (with_reducible first | exact HB.out | apply zG | apply zE | apply zF) | exact HB.out))) : w.heap.size ≤ gb215)); clear HB; have HB := n0_; have BK215 := n1_; have GW215 := n2_; have GE215 := n3_; clear n0_ n1_ n2_ n3_; clear hb hbox hg; have hcz6_0 : w5.cell? ⟨gb215, 0, none⟩ = some (.int .i64 a0_0) := (zJ BK215.out 0).trans rfl; have hcz6_1 : w5.cell? ⟨gb215, 1, none⟩ = some (.int .i64 a0_1) := (zJ BK215.out 1).trans rfl; have hcz6_2 : w5.cell? ⟨gb215, 2, none⟩ = some (.int .i64 a0_2) := (zJ BK215.out 2).trans rfl; have hcz6_3 : w5.cell? ⟨gb215, 3, none⟩ = some (.string a0_3) := (zJ BK215.out 3).trans rfl; have hcz6_4 : w5.cell? ⟨gb215, 4, none⟩ = some (.slice A0_4 l0_4.length c0_4) := (zJ BK215.out 4).trans rfl; have hcz6_5 : w5.cell? ⟨gb215, 5, none⟩ = some (.slice A0_5 l0_5.length c0_5) := (zJ BK215.out 5).trans rfl; have hfz6_0 := zK BK215.out 0; have hfz6_1 := zK BK215.out 1; have hfz6_2 := zK BK215.out 2; have hfz6_3 := zK BK215.out 3; have hfz6_4 := zK BK215.out 4; have hfz6_5 := zK BK215.out 5) | ((with_reducible refine zV (f := 11) rfl ?_); refine goesL_ (some 4) rfl rfl Tryd.func11 (by kernel_rfl) rfl #[.agg #[.int .i64 a0_0, .int .i64 a0_1, .int .i64 a0_2, .string a0_3, .slice A0_4 l0_4.length c0_4, .slice A0_5 l0_5.length c0_5]] rfl (by (try simp only [yA, yD, yE]); first | done | rfl | (simp only [yB, yC]; rfl)) ?_; (with_reducible refine (spec_ValueOk.calls k a0_0 a0_1 a0_2 a0_3 _ _ l0_4 _ _ l0_5 true _ ?side1 ?side2 ?side3 ?side4 A2.out).mono ?_); (case side1 => repeat (first | exact (Kd.C_below HR0_4.out HB.out) | (with_reducible refine Kd.C_alloc ?_ _) | (with_reducible refine Kd.C_drewN ?_ _) | (with_reducible refine Kd.C_drew ?_))); (case side2 => exact HC0_4.out); (case side3 => repeat (first | exact (Kd.C_below HR0_5.out HB.out) | (with_reducible refine Kd.C_alloc ?_ _) | (with_reducible refine Kd.C_drewN ?_ _) | (with_reducible refine Kd.C_drew ?_))); (case side4 => exact HC0_5.out); rintro e w7 ⟨rfl, hb⟩; refine ⟨_, rfl, ?_⟩; have n0_ := zA (zP (g := gb215) (o := .cells #[.int .i64 a0_0, .int .i64 a0_1, .int .i64 a0_2, .string a0_3, .slice A0_4 l0_4.length c0_4, .slice A0_5 l0_5.length c0_5] 33 (0, 0)) (by (with_reducible repeat (first | refine zB ?_ _ | refine zD ?_ | refine zC ?_ _)); exact BK215.out) hb); have n1_ := zA (zQ (by repeat (first | (with_reducible first | exact HB.out | apply zG | apply zE | apply zF | refine zH ?_ GE215.out) | exact HB.out)) hb); clear BK215; clear HB; have BK215 := n0_; have HB := n1_; clear n0_ n1_; (try clear hb); (try clear hb2); (try clear hk); (try clear hi); have hcz8_0 : w7.cell? ⟨gb215, 0, none⟩ = some (.int .i64 a0_0) := (zJ BK215.out 0).trans rfl; have hcz8_1 : w7.cell? ⟨gb215, 1, none⟩ = some (.int .i64 a0_1) := (zJ BK215.out 1).trans rfl; have hcz8_2 : w7.cell? ⟨gb215, 2, none⟩ = some (.int .i64 a0_2) := (zJ BK215.out 2).trans rfl; have hcz8_3 : w7.cell? ⟨gb215, 3, none⟩ = some (.string a0_3) := (zJ BK215.out 3).trans rfl; have hcz8_4 : w7.cell? ⟨gb215, 4, none⟩ = some (.slice A0_4 l0_4.length c0_4) := (zJ BK215.out 4).trans rfl; have hcz8_5 : w7.cell? ⟨gb215, 5, none⟩ = some (.slice A0_5 l0_5.length c0_5) := (zJ BK215.out 5).trans rfl; have hfz8_0 := zK BK215.out 0; have hfz8_1 := zK BK215.out 1; have hfz8_2 := zK BK215.out 2; have hfz8_3 := zK BK215.out 3; have hfz8_4 := zK BK215.out 4; have hfz8_5 := zK BK215.out 5) | ((with_reducible refine zV (f := 12) rfl ?_); refine goesL_ (some 7) rfl rfl Tryd.func12 (by kernel_rfl) rfl #[.agg #[.int .i64 a0_0, .int .i64 a0_1, .int .i64 a0_2, .string a0_3, .slice A0_4 l0_4.length c0_4, .slice A0_5 l0_5.length c0_5]] rfl (by (try simp only [yA, yD, yE]); first | done | rfl | (simp only [yB, yC]; rfl)) ?_; (with_reducible refine (spec_l7Put.calls k a0_0 a0_1 a0_2 a0_3 _ _ l0_4 _ _ l0_5 t217 _ ?side1 ?side2 ?side3 ?side4 A4.out).mono ?_); (case side1 => repeat (first | exact (Kd.C_below HR0_4.out HB.out) | (with_reducible refine Kd.C_alloc ?_ _) | (with_reducible refine Kd.C_drewN ?_ _) | (with_reducible refine Kd.C_drew ?_))); (case side2 => exact HC0_4.out); (case side3 => repeat (first | exact (Kd.C_below HR0_5.out HB.out) | (with_reducible refine Kd.C_alloc ?_ _) | (with_reducible refine Kd.C_drewN ?_ _) | (with_reducible refine Kd.C_drew ?_))); (case side4 => exact HC0_5.out); rintro e w9 ⟨rfl, hb⟩; refine ⟨_, rfl, ?_⟩; have n0_ := zA (zQ (by repeat (first | (with_reducible first | exact HB.out | apply zG | apply zE | apply zF) | exact HB.out)) hb); clear HB; have HB := n0_; clear n0_; (try clear hb); (try clear hb2); (try clear hk); (try clear hi)))
  go_ret
  exact ⟨by first | rfl | (simp [errW_none, errW_some] <;> rfl) | (simp [*, errW_none, errW_some] <;> rfl), by repeat (first | (with_reducible first | exact HB.out | apply zG | apply zE | apply zF) | exact HB.out)⟩
 ·replace c3 := Bool.eq_false_iff.mpr c3
  subst c3
  have H1 : (some (⟨#[]⟩ : ByteArray)) = some r := by rw [if_neg (show ¬ (false = true) by decide)] at H; exact H
  clear H
  have H := H1
  clear H1
  obtain rfl := yH H
  go_enter Tryd.func5, Tryd.ntmps5
  go_wp2_with (first | ((with_reducible refine zT (N := 1) rfl ?_); refine zX ?hg (N := 1) ?hd (cs := #[.int .i64 a0_0, .int .i64 a0_1, .int .i64 a0_2, .string a0_3, .slice A0_4 l0_4.length c0_4, .slice A0_5 l0_5.length c0_5]) (t := 33) ?hr ?_; (case hd => rfl); (case hg => rfl); (case hr => first | (go_simp; done) | (go_simp; rfl)); intro gb215 hg w10 hbox hb; have n0_ := zA (zQ (by repeat (first | (with_reducible first | exact HB.out | apply zG | apply zE | apply zF) | exact HB.out)) hb); have n1_ := zA (hbox); have n2_ := zA ((by rw [hg]; exact (zR (by repeat (first | (with_reducible first | exact HB.out | apply zG | apply zE | apply zF) | exact HB.out))) : w.heap.size ≤ gb215)); have n3_ := zA ((by rw [hg]; exact (zR (by repeat (first | (with_reducible first | exact HB.out | apply zG | apply zE | apply zF) | exact HB.out))) : w.heap.size ≤ gb215)); clear HB; have HB := n0_; have BK215 := n1_; have GW215 := n2_; have GE215 := n3_; clear n0_ n1_ n2_ n3_; clear hb hbox hg; have hcz11_0 : w10.cell? ⟨gb215, 0, none⟩ = some (.int .i64 a0_0) := (zJ BK215.out 0).trans rfl; have hcz11_1 : w10.cell? ⟨gb215, 1, none⟩ = some (.int .i64 a0_1) := (zJ BK215.out 1).trans rfl; have hcz11_2 : w10.cell? ⟨gb215, 2, none⟩ = some (.int .i64 a0_2) := (zJ BK215.out 2).trans rfl; have hcz11_3 : w10.cell? ⟨gb215, 3, none⟩ = some (.string a0_3) := (zJ BK215.out 3).trans rfl; have hcz11_4 : w10.cell? ⟨gb215, 4, none⟩ = some (.slice A0_4 l0_4.length c0_4) := (zJ BK215.out 4).trans rfl; have hcz11_5 : w10.cell? ⟨gb215, 5, none⟩ = some (.slice A0_5 l0_5.length c0_5) := (zJ BK215.out 5).trans rfl; have hfz11_0 := zK BK215.out 0; have hfz11_1 := zK BK215.out 1; have hfz11_2 := zK BK215.out 2; have hfz11_3 := zK BK215.out 3; have hfz11_4 := zK BK215.out 4; have hfz11_5 := zK BK215.out 5) | ((with_reducible refine zV (f := 11) rfl ?_); refine goesL_ (some 4) rfl rfl Tryd.func11 (by kernel_rfl) rfl #[.agg #[.int .i64 a0_0, .int .i64 a0_1, .int .i64 a0_2, .string a0_3, .slice A0_4 l0_4.length c0_4, .slice A0_5 l0_5.length c0_5]] rfl (by (try simp only [yA, yD, yE]); first | done | rfl | (simp only [yB, yC]; rfl)) ?_; (with_reducible refine (spec_ValueOk.calls k a0_0 a0_1 a0_2 a0_3 _ _ l0_4 _ _ l0_5 false _ ?side1 ?side2 ?side3 ?side4 A2.out).mono ?_); (case side1 => repeat (first | exact (Kd.C_below HR0_4.out HB.out) | (with_reducible refine Kd.C_alloc ?_ _) | (with_reducible refine Kd.C_drewN ?_ _) | (with_reducible refine Kd.C_drew ?_))); (case side2 => exact HC0_4.out); (case side3 => repeat (first | exact (Kd.C_below HR0_5.out HB.out) | (with_reducible refine Kd.C_alloc ?_ _) | (with_reducible refine Kd.C_drewN ?_ _) | (with_reducible refine Kd.C_drew ?_))); (case side4 => exact HC0_5.out); rintro e w12 ⟨rfl, hb⟩; refine ⟨_, rfl, ?_⟩; have n0_ := zA (zQ (by repeat (first | (with_reducible first | exact HB.out | apply zG | apply zE | apply zF) | exact HB.out)) hb); clear HB; have HB := n0_; clear n0_; (try clear hb); (try clear hb2); (try clear hk); (try clear hi)))
  go_ret
  exact ⟨by first | rfl | (simp [errW_none, errW_some] <;> rfl) | (simp [*, errW_none, errW_some] <;> rfl), by repeat (first | (with_reducible first | exact HB.out | apply zG | apply zE | apply zF) | exact HB.out)⟩


def impl_JsonPut.f (k : Nat) (a0_0 : Int) (a0_1 : Int) (a0_2 : Int) (a0_3 : ByteArray) (l0_4 : List (S33)) (l0_5 : List ByteArray) (l1 : List (List ByteArray)) (l2 : List Int) : Option (ByteArray) := (impl_ValueOk.f k a0_0 a0_1 a0_2 a0_3 l0_4 l0_5 l1).bind fun t301 => (if t301 = true then ((impl_layout.f k a0_0 a0_1 a0_2 a0_3 l0_4 l0_5 false (⟨#[]⟩ : ByteArray) l2).bind fun t302 => (some t302)) else (some (⟨#[]⟩ : ByteArray)))
theorem impl_JsonPut.mono : ∀ a0 a1 a2 a3 a4 a5 a6 a7 k, LeO (impl_JsonPut.f k a0 a1 a2 a3 a4 a5 a6 a7) (impl_JsonPut.f (k + 1) a0 a1 a2 a3 a4 a5 a6 a7) := by
 intro a0 a1 a2 a3 a4 a5 a6 a7 k
 unfold impl_JsonPut.f
 repeat' first
   | (with_reducible exact impl_ValueOk.mono _ _ _ _ _ _ _ _)
   | (with_reducible exact impl_layout.mono _ _ _ _ _ _ _ _ _ _)
   | (with_reducible exact LeO.refl _)
   | (with_reducible exact LeO.none _)
   | (with_reducible refine LeO.ite ?_ ?_)
   | (with_reducible refine LeO.bind ?_ (fun _ => ?_))
set_option maxHeartbeats 8000000 in
set_option maxRecDepth 100000 in
theorem impl_JsonPut.calls (k : Nat) (a0_0 : Int) (a0_1 : Int) (a0_2 : Int) (a0_3 : ByteArray) (A0_4 : Option Addr) (c0_4 : Nat) (l0_4 : List (S33)) (A0_5 : Option Addr) (c0_5 : Nat) (l0_5 : List ByteArray) (A1 : Option Addr) (c1 : Nat) (l1 : List (List ByteArray)) (A2 : Option Addr) (c2 : Nat) (l2 : List Int) (r : ByteArray) (w : World) (hr0_4 : Kd.C k33 w A0_4 l0_4.length l0_4) (hc0_4 : l0_4.length ≤ c0_4) (hr0_5 : Kd.C Kd.string w A0_5 l0_5.length l0_5) (hc0_5 : l0_5.length ≤ c0_5) (hr1 : Kd.C (Kd.slice 9 Kd.string) w A1 l1.length l1) (hc1 : l1.length ≤ c1) (hr2 : Kd.C kPow w A2 l2.length l2) (hc2 : l2.length ≤ c2) (hg1 : A1 = some ⟨0, 0, none⟩) (hg2 : A2 = some ⟨2, 0, none⟩ ∧ l2 = [1]) (h : impl_JsonPut.f k a0_0 a0_1 a0_2 a0_3 l0_4 l0_5 l1 l2 = some r) :
  Calls Tryd.prog 7 #[.agg #[.int .i64 a0_0, .int .i64 a0_1, .int .i64 a0_2, .string a0_3, .slice A0_4 l0_4.length c0_4, .slice A0_5 l0_5.length c0_5]] w fun e w' => e = .returned (.string r) ∧ Below w.heap.size w w' := by
 have hu33 := Tryd.underlying33
 have HR0_4 := zA hr0_4
 have HC0_4 := zA hc0_4
 clear hr0_4 hc0_4
 have HR0_5 := zA hr0_5
 have HC0_5 := zA hc0_5
 clear hr0_5 hc0_5
 have HG1 := zA hg1
 clear hg1
 have HR1 := zA hr1
 have HC1 := zA hc1
 clear hr1 hc1
 have HG2 := zA hg2
 clear hg2
 have HR2 := zA hr2
 have HC2 := zA hc2
 clear hr2 hc2
 have HB := zA (yJ w.heap.size w)
 have H : ((impl_ValueOk.f k a0_0 a0_1 a0_2 a0_3 l0_4 l0_5 l1).bind fun t301 => (if t301 = true then ((impl_layout.f k a0_0 a0_1 a0_2 a0_3 l0_4 l0_5 false (⟨#[]⟩ : ByteArray) l2).bind fun t302 => (some t302)) else (some (⟨#[]⟩ : ByteArray)))) = some r := h
 clear h
 replace H := Option.bind_eq_some_iff.mp H
 obtain ⟨t301, A40, H⟩ := H
 replace H : (if t301 = true then ((impl_layout.f k a0_0 a0_1 a0_2 a0_3 l0_4 l0_5 false (⟨#[]⟩ : ByteArray) l2).bind fun t302 => (some t302)) else (some (⟨#[]⟩ : ByteArray))) = some r := H
 have A4 := zA A40
 clear A40
 by_cases c5 : t301 = true
 ·subst c5
  have H1 : ((impl_layout.f k a0_0 a0_1 a0_2 a0_3 l0_4 l0_5 false (⟨#[]⟩ : ByteArray) l2).bind fun t302 => (some t302)) = some r := by rw [if_pos rfl] at H; exact H
  clear H
  have H := H1
  clear H1
  replace H := Option.bind_eq_some_iff.mp H
  obtain ⟨t302, A60, H⟩ := H
  replace H : (some t302) = some r := H
  have A6 := zA A60
  clear A60
  obtain rfl := yH H
  go_enter Tryd.func7, Tryd.ntmps7
  go_wp2_with (first | ((with_reducible refine zT (N := 1) rfl ?_); refine zX ?hg (N := 1) ?hd (cs := #[.int .i64 a0_0, .int .i64 a0_1, .int .i64 a0_2, .string a0_3, .slice A0_4 l0_4.length c0_4, .slice A0_5 l0_5.length c0_5]) (t := 33) ?hr ?_; (case hd => rfl); (case hg => rfl); (case hr => first | (go_simp; done) | (go_simp; rfl)); intro gb300 hg w7 hbox hb; have n0_ := zA (zQ (by repeat (first | (with_reducible first | exact HB.out | apply zG | apply zE | apply zF) | exact HB.out)) hb); have n1_ := zA (hbox); have n2_ := zA ((by rw [hg]; exact (zR (by repeat (first | (with_reducible first | exact HB.out | apply zG | apply zE | apply zF) | exact HB.out))) : w.heap.size ≤ gb300)); have n3_ := zA ((by rw [hg]; exact (zR (by repeat (first | (with_reducible first | exact HB.out | apply zG | apply zE | apply zF) | exact HB.out))) : w.heap.size ≤ gb300)); clear HB; have HB := n0_; have BK300 := n1_; have GW300 := n2_; have GE300 := n3_; clear n0_ n1_ n2_ n3_; clear hb hbox hg; have hcz8_0 : w7.cell? ⟨gb300, 0, none⟩ = some (.int .i64 a0_0) := (zJ BK300.out 0).trans rfl; have hcz8_1 : w7.cell? ⟨gb300, 1, none⟩ = some (.int .i64 a0_1) := (zJ BK300.out 1).trans rfl; have hcz8_2 : w7.cell? ⟨gb300, 2, none⟩ = some (.int .i64 a0_2) := (zJ BK300.out 2).trans rfl; have hcz8_3 : w7.cell? ⟨gb300, 3, none⟩ = some (.string a0_3) := (zJ BK300.out 3).trans rfl; have hcz8_4 : w7.cell? ⟨gb300, 4, none⟩ = some (.slice A0_4 l0_4.length c0_4) := (zJ BK300.out 4).trans rfl; have hcz8_5 : w7.cell? ⟨gb300, 5, none⟩ = some (.slice A0_5 l0_5.length c0_5) := (zJ BK300.out 5).trans rfl; have hfz8_0 := zK BK300.out 0; have hfz8_1 := zK BK300.out 1; have hfz8_2 := zK BK300.out 2; have hfz8_3 := zK BK300.out 3; have hfz8_4 := zK BK300.out 4; have hfz8_5 := zK BK300.out 5) | ((with_reducible refine zV (f := 16) rfl ?_); refine goesL_ (some 4) rfl rfl Tryd.func16 (by kernel_rfl) rfl #[.agg #[.int .i64 a0_0, .int .i64 a0_1, .int .i64 a0_2, .string a0_3, .slice A0_4 l0_4.length c0_4, .slice A0_5 l0_5.length c0_5]] rfl (by (try simp only [yA, yD, yE]); first | done | rfl | (simp only [yB, yC]; rfl)) ?_; (with_reducible refine (impl_ValueOk.calls k a0_0 a0_1 a0_2 a0_3 _ _ l0_4 _ _ l0_5 A1 c1 l1 true _ ?side1 ?side2 ?side3 ?side4 ?side5 ?side6 ?side7 A4.out).mono ?_); (case side1 => repeat (first | exact (Kd.C_below HR0_4.out HB.out) | (with_reducible refine Kd.C_alloc ?_ _) | (with_reducible refine Kd.C_drewN ?_ _) | (with_reducible refine Kd.C_drew ?_))); (case side2 => exact HC0_4.out); (case side3 => repeat (first | exact (Kd.C_below HR0_5.out HB.out) | (with_reducible refine Kd.C_alloc ?_ _) | (with_reducible refine Kd.C_drewN ?_ _) | (with_reducible refine Kd.C_drew ?_))); (case side4 => exact HC0_5.out); (case side5 => repeat (first | exact (Kd.C_below HR1.out HB.out) | (with_reducible refine Kd.C_alloc ?_ _) | (with_reducible refine Kd.C_drewN ?_ _) | (with_reducible refine Kd.C_drew ?_))); (case side6 => exact HC1.out); (case side7 => exact HG1.out); rintro e w9 ⟨rfl, hb⟩; refine ⟨_, rfl, ?_⟩; have n0_ := zA (zP (g := gb300) (o := .cells #[.int .i64 a0_0, .int .i64 a0_1, .int .i64 a0_2, .string a0_3, .slice A0_4 l0_4.length c0_4, .slice A0_5 l0_5.length c0_5] 33 (0, 0)) (by (with_reducible repeat (first | refine zB ?_ _ | refine zD ?_ | refine zC ?_ _)); exact BK300.out) hb); have n1_ := zA (zQ (by repeat (first | (with_reducible first | exact HB.out | apply zG | apply zE | apply zF | refine zH ?_ GE300.out) | exact HB.out)) hb); clear BK300; clear HB; have BK300 := n0_; have HB := n1_; clear n0_ n1_; (try clear hb); (try clear hb2); (try clear hk); (try clear hi); have hcz10_0 : w9.cell? ⟨gb300, 0, none⟩ = some (.int .i64 a0_0) := (zJ BK300.out 0).trans rfl; have hcz10_1 : w9.cell? ⟨gb300, 1, none⟩ = some (.int .i64 a0_1) := (zJ BK300.out 1).trans rfl; have hcz10_2 : w9.cell? ⟨gb300, 2, none⟩ = some (.int .i64 a0_2) := (zJ BK300.out 2).trans rfl; have hcz10_3 : w9.cell? ⟨gb300, 3, none⟩ = some (.string a0_3) := (zJ BK300.out 3).trans rfl; have hcz10_4 : w9.cell? ⟨gb300, 4, none⟩ = some (.slice A0_4 l0_4.length c0_4) := (zJ BK300.out 4).trans rfl; have hcz10_5 : w9.cell? ⟨gb300, 5, none⟩ = some (.slice A0_5 l0_5.length c0_5) := (zJ BK300.out 5).trans rfl; have hfz10_0 := zK BK300.out 0; have hfz10_1 := zK BK300.out 1; have hfz10_2 := zK BK300.out 2; have hfz10_3 := zK BK300.out 3; have hfz10_4 := zK BK300.out 4; have hfz10_5 := zK BK300.out 5) | ((with_reducible refine zV (f := 17) rfl ?_); refine goesL_ (some 7) rfl rfl Tryd.func17 (by kernel_rfl) rfl #[.agg #[.int .i64 a0_0, .int .i64 a0_1, .int .i64 a0_2, .string a0_3, .slice A0_4 l0_4.length c0_4, .slice A0_5 l0_5.length c0_5], .bool false, .string (⟨#[]⟩ : ByteArray)] rfl (by (try simp only [yA, yD, yE]); first | done | rfl | (simp only [yB, yC]; rfl)) ?_; (with_reducible refine (impl_layout.calls k a0_0 a0_1 a0_2 a0_3 _ _ l0_4 _ _ l0_5 false (⟨#[]⟩ : ByteArray) A2 c2 l2 t302 _ ?side1 ?side2 ?side3 ?side4 ?side5 ?side6 ?side7 A6.out).mono ?_); (case side1 => repeat (first | exact (Kd.C_below HR0_4.out HB.out) | (with_reducible refine Kd.C_alloc ?_ _) | (with_reducible refine Kd.C_drewN ?_ _) | (with_reducible refine Kd.C_drew ?_))); (case side2 => exact HC0_4.out); (case side3 => repeat (first | exact (Kd.C_below HR0_5.out HB.out) | (with_reducible refine Kd.C_alloc ?_ _) | (with_reducible refine Kd.C_drewN ?_ _) | (with_reducible refine Kd.C_drew ?_))); (case side4 => exact HC0_5.out); (case side5 => repeat (first | exact (Kd.C_below HR2.out HB.out) | (with_reducible refine Kd.C_alloc ?_ _) | (with_reducible refine Kd.C_drewN ?_ _) | (with_reducible refine Kd.C_drew ?_))); (case side6 => exact HC2.out); (case side7 => exact HG2.out); rintro e w11 ⟨rfl, hb⟩; refine ⟨_, rfl, ?_⟩; have n0_ := zA (zQ (by repeat (first | (with_reducible first | exact HB.out | apply zG | apply zE | apply zF) | exact HB.out)) hb); clear HB; have HB := n0_; clear n0_; (try clear hb); (try clear hb2); (try clear hk); (try clear hi)))
  go_ret
  exact ⟨by first | rfl | (simp [errW_none, errW_some] <;> rfl) | (simp [*, errW_none, errW_some] <;> rfl), by repeat (first | (with_reducible first | exact HB.out | apply zG | apply zE | apply zF) | exact HB.out)⟩
 ·replace c5 := Bool.eq_false_iff.mpr c5
  subst c5
  have H1 : (some (⟨#[]⟩ : ByteArray)) = some r := by rw [if_neg (show ¬ (false = true) by decide)] at H; exact H
  clear H
  have H := H1
  clear H1
  obtain rfl := yH H
  go_enter Tryd.func7, Tryd.ntmps7
  go_wp2_with (first | ((with_reducible refine zT (N := 1) rfl ?_); refine zX ?hg (N := 1) ?hd (cs := #[.int .i64 a0_0, .int .i64 a0_1, .int .i64 a0_2, .string a0_3, .slice A0_4 l0_4.length c0_4, .slice A0_5 l0_5.length c0_5]) (t := 33) ?hr ?_; (case hd => rfl); (case hg => rfl); (case hr => first | (go_simp; done) | (go_simp; rfl)); intro gb300 hg w12 hbox hb; have n0_ := zA (zQ (by repeat (first | (with_reducible first | exact HB.out | apply zG | apply zE | apply zF) | exact HB.out)) hb); have n1_ := zA (hbox); have n2_ := zA ((by rw [hg]; exact (zR (by repeat (first | (with_reducible first | exact HB.out | apply zG | apply zE | apply zF) | exact HB.out))) : w.heap.size ≤ gb300)); have n3_ := zA ((by rw [hg]; exact (zR (by repeat (first | (with_reducible first | exact HB.out | apply zG | apply zE | apply zF) | exact HB.out))) : w.heap.size ≤ gb300)); clear HB; have HB := n0_; have BK300 := n1_; have GW300 := n2_; have GE300 := n3_; clear n0_ n1_ n2_ n3_; clear hb hbox hg; have hcz13_0 : w12.cell? ⟨gb300, 0, none⟩ = some (.int .i64 a0_0) := (zJ BK300.out 0).trans rfl; have hcz13_1 : w12.cell? ⟨gb300, 1, none⟩ = some (.int .i64 a0_1) := (zJ BK300.out 1).trans rfl; have hcz13_2 : w12.cell? ⟨gb300, 2, none⟩ = some (.int .i64 a0_2) := (zJ BK300.out 2).trans rfl; have hcz13_3 : w12.cell? ⟨gb300, 3, none⟩ = some (.string a0_3) := (zJ BK300.out 3).trans rfl; have hcz13_4 : w12.cell? ⟨gb300, 4, none⟩ = some (.slice A0_4 l0_4.length c0_4) := (zJ BK300.out 4).trans rfl; have hcz13_5 : w12.cell? ⟨gb300, 5, none⟩ = some (.slice A0_5 l0_5.length c0_5) := (zJ BK300.out 5).trans rfl; have hfz13_0 := zK BK300.out 0; have hfz13_1 := zK BK300.out 1; have hfz13_2 := zK BK300.out 2; have hfz13_3 := zK BK300.out 3; have hfz13_4 := zK BK300.out 4; have hfz13_5 := zK BK300.out 5) | ((with_reducible refine zV (f := 16) rfl ?_); refine goesL_ (some 4) rfl rfl Tryd.func16 (by kernel_rfl) rfl #[.agg #[.int .i64 a0_0, .int .i64 a0_1, .int .i64 a0_2, .string a0_3, .slice A0_4 l0_4.length c0_4, .slice A0_5 l0_5.length c0_5]] rfl (by (try simp only [yA, yD, yE]); first | done | rfl | (simp only [yB, yC]; rfl)) ?_; (with_reducible refine (impl_ValueOk.calls k a0_0 a0_1 a0_2 a0_3 _ _ l0_4 _ _ l0_5 A1 c1 l1 false _ ?side1 ?side2 ?side3 ?side4 ?side5 ?side6 ?side7 A4.out).mono ?_); (case side1 => repeat (first | exact (Kd.C_below HR0_4.out HB.out) | (with_reducible refine Kd.C_alloc ?_ _) | (with_reducible refine Kd.C_drewN ?_ _) | (with_reducible refine Kd.C_drew ?_))); (case side2 => exact HC0_4.out); (case side3 => repeat (first | exact (Kd.C_below HR0_5.out HB.out) | (with_reducible refine Kd.C_alloc ?_ _) | (with_reducible refine Kd.C_drewN ?_ _) | (with_reducible refine Kd.C_drew ?_))); (case side4 => exact HC0_5.out); (case side5 => repeat (first | exact (Kd.C_below HR1.out HB.out) | (with_reducible refine Kd.C_alloc ?_ _) | (with_reducible refine Kd.C_drewN ?_ _) | (with_reducible refine Kd.C_drew ?_))); (case side6 => exact HC1.out); (case side7 => exact HG1.out); rintro e w14 ⟨rfl, hb⟩; refine ⟨_, rfl, ?_⟩; have n0_ := zA (zQ (by repeat (first | (with_reducible first | exact HB.out | apply zG | apply zE | apply zF) | exact HB.out)) hb); clear HB; have HB := n0_; clear n0_; (try clear hb); (try clear hb2); (try clear hk); (try clear hi)))
  go_ret
  exact ⟨by first | rfl | (simp [errW_none, errW_some] <;> rfl) | (simp [*, errW_none, errW_some] <;> rfl), by repeat (first | (with_reducible first | exact HB.out | apply zG | apply zE | apply zF) | exact HB.out)⟩


def laws_FnExactJsonPut.f (k : Nat) (a0_0 : Int) (a0_1 : Int) (a0_2 : Int) (a0_3 : ByteArray) (l0_4 : List (S27)) (l0_5 : List ByteArray) (l1 : List (List ByteArray)) (l2 : List Int) : Option (Bool) := (laws_szValue.f k a0_0 a0_1 a0_2 a0_3 l0_4 l0_5 1048576).bind fun t316 => (if t316 < 0 then (some true) else ((laws_toValue.f k a0_0 a0_1 a0_2 a0_3 l0_4 l0_5).bind fun bt317 => ((spec_JsonPut.f k bt317.1 bt317.2.1 bt317.2.2.1 bt317.2.2.2.1 bt317.2.2.2.2.1 bt317.2.2.2.2.2).bind fun t327 => ((laws_toValue.f k a0_0 a0_1 a0_2 a0_3 l0_4 l0_5).bind fun bt328 => ((impl_JsonPut.f k bt328.1 bt328.2.1 bt328.2.2.1 bt328.2.2.2.1 bt328.2.2.2.2.1 bt328.2.2.2.2.2 l1 l2).bind fun t339 => (if t339.toList = t327.toList then ((laws_toValue.f k a0_0 a0_1 a0_2 a0_3 l0_4 l0_5).bind fun bt340 => ((laws_eqValue.f k bt328.1 bt328.2.1 bt328.2.2.1 bt328.2.2.2.1 bt328.2.2.2.2.1 bt328.2.2.2.2.2 bt340.1 bt340.2.1 bt340.2.2.1 bt340.2.2.2.1 bt340.2.2.2.2.1 bt340.2.2.2.2.2).bind fun t350 => (if t350 = true then (some true) else (none)))) else (none)))))))
theorem laws_FnExactJsonPut.mono : ∀ a0 a1 a2 a3 a4 a5 a6 a7 k, LeO (laws_FnExactJsonPut.f k a0 a1 a2 a3 a4 a5 a6 a7) (laws_FnExactJsonPut.f (k + 1) a0 a1 a2 a3 a4 a5 a6 a7) := by
 intro a0 a1 a2 a3 a4 a5 a6 a7 k
 unfold laws_FnExactJsonPut.f
 repeat' first
   | (with_reducible exact impl_JsonPut.mono _ _ _ _ _ _ _ _ _)
   | (with_reducible exact laws_eqValue.mono _ _ _ _ _ _ _ _ _ _ _ _ _)
   | (with_reducible exact laws_szValue.mono _ _ _ _ _ _ _ _)
   | (with_reducible exact laws_toValue.mono _ _ _ _ _ _ _)
   | (with_reducible exact spec_JsonPut.mono _ _ _ _ _ _ _)
   | (with_reducible exact LeO.refl _)
   | (with_reducible exact LeO.none _)
   | (with_reducible refine LeO.ite ?_ ?_)
   | (with_reducible refine LeO.bind ?_ (fun _ => ?_))
set_option maxHeartbeats 8000000 in
set_option maxRecDepth 100000 in
theorem laws_FnExactJsonPut.calls (k : Nat) (a0_0 : Int) (a0_1 : Int) (a0_2 : Int) (a0_3 : ByteArray) (A0_4 : Option Addr) (c0_4 : Nat) (l0_4 : List (S27)) (A0_5 : Option Addr) (c0_5 : Nat) (l0_5 : List ByteArray) (A1 : Option Addr) (c1 : Nat) (l1 : List (List ByteArray)) (A2 : Option Addr) (c2 : Nat) (l2 : List Int) (r : Bool) (w : World) (hr0_4 : Kd.C k27 w A0_4 l0_4.length l0_4) (hc0_4 : l0_4.length ≤ c0_4) (hr0_5 : Kd.C Kd.string w A0_5 l0_5.length l0_5) (hc0_5 : l0_5.length ≤ c0_5) (hr1 : Kd.C (Kd.slice 9 Kd.string) w A1 l1.length l1) (hc1 : l1.length ≤ c1) (hr2 : Kd.C kPow w A2 l2.length l2) (hc2 : l2.length ≤ c2) (hg1 : A1 = some ⟨0, 0, none⟩) (hg2 : A2 = some ⟨2, 0, none⟩ ∧ l2 = [1]) (h : laws_FnExactJsonPut.f k a0_0 a0_1 a0_2 a0_3 l0_4 l0_5 l1 l2 = some r) :
  Calls Tryd.prog 3 #[.agg #[.int .i64 a0_0, .int .i64 a0_1, .int .i64 a0_2, .string a0_3, .slice A0_4 l0_4.length c0_4, .slice A0_5 l0_5.length c0_5]] w fun e w' => e = .returned (.bool r) ∧ Below w.heap.size w w' := by
 have hu27 := Tryd.underlying27
 have hu33 := Tryd.underlying33
 have HR0_4 := zA hr0_4
 have HC0_4 := zA hc0_4
 clear hr0_4 hc0_4
 have HR0_5 := zA hr0_5
 have HC0_5 := zA hc0_5
 clear hr0_5 hc0_5
 have HG1 := zA hg1
 clear hg1
 have HR1 := zA hr1
 have HC1 := zA hc1
 clear hr1 hc1
 have HG2 := zA hg2
 clear hg2
 have HR2 := zA hr2
 have HC2 := zA hc2
 clear hr2 hc2
 have HB := zA (yJ w.heap.size w)
 have H : ((laws_szValue.f k a0_0 a0_1 a0_2 a0_3 l0_4 l0_5 1048576).bind fun t316 => (if t316 < 0 then (some true) else ((laws_toValue.f k a0_0 a0_1 a0_2 a0_3 l0_4 l0_5).bind fun bt317 => ((spec_JsonPut.f k bt317.1 bt317.2.1 bt317.2.2.1 bt317.2.2.2.1 bt317.2.2.2.2.1 bt317.2.2.2.2.2).bind fun t327 => ((laws_toValue.f k a0_0 a0_1 a0_2 a0_3 l0_4 l0_5).bind fun bt328 => ((impl_JsonPut.f k bt328.1 bt328.2.1 bt328.2.2.1 bt328.2.2.2.1 bt328.2.2.2.2.1 bt328.2.2.2.2.2 l1 l2).bind fun t339 => (if t339.toList = t327.toList then ((laws_toValue.f k a0_0 a0_1 a0_2 a0_3 l0_4 l0_5).bind fun bt340 => ((laws_eqValue.f k bt328.1 bt328.2.1 bt328.2.2.1 bt328.2.2.2.1 bt328.2.2.2.2.1 bt328.2.2.2.2.2 bt340.1 bt340.2.1 bt340.2.2.1 bt340.2.2.2.1 bt340.2.2.2.2.1 bt340.2.2.2.2.2).bind fun t350 => (if t350 = true then (some true) else (none)))) else (none)))))))) = some r := h
 clear h
 replace H := Option.bind_eq_some_iff.mp H
 obtain ⟨t316, A40, H⟩ := H
 replace H : (if t316 < 0 then (some true) else ((laws_toValue.f k a0_0 a0_1 a0_2 a0_3 l0_4 l0_5).bind fun bt317 => ((spec_JsonPut.f k bt317.1 bt317.2.1 bt317.2.2.1 bt317.2.2.2.1 bt317.2.2.2.2.1 bt317.2.2.2.2.2).bind fun t327 => ((laws_toValue.f k a0_0 a0_1 a0_2 a0_3 l0_4 l0_5).bind fun bt328 => ((impl_JsonPut.f k bt328.1 bt328.2.1 bt328.2.2.1 bt328.2.2.2.1 bt328.2.2.2.2.1 bt328.2.2.2.2.2 l1 l2).bind fun t339 => (if t339.toList = t327.toList then ((laws_toValue.f k a0_0 a0_1 a0_2 a0_3 l0_4 l0_5).bind fun bt340 => ((laws_eqValue.f k bt328.1 bt328.2.1 bt328.2.2.1 bt328.2.2.2.1 bt328.2.2.2.2.1 bt328.2.2.2.2.2 bt340.1 bt340.2.1 bt340.2.2.1 bt340.2.2.2.1 bt340.2.2.2.2.1 bt340.2.2.2.2.2).bind fun t350 => (if t350 = true then (some true) else (none)))) else (none))))))) = some r := H
 have A4 := zA A40
 clear A40
 by_cases c5 : t316 < 0
 ·rw [if_pos c5] at H
  have c5b0 : decide (t316 < 0) = true := yF c5
  clear c5
  obtain rfl := yH H
  go_enter Tryd.func3, Tryd.ntmps3
  go_wp2_with (first | ((with_reducible refine zT (N := 1) rfl ?_); refine zX ?hg (N := 1) ?hd (cs := #[.int .i64 a0_0, .int .i64 a0_1, .int .i64 a0_2, .string a0_3, .slice A0_4 l0_4.length c0_4, .slice A0_5 l0_5.length c0_5]) (t := 27) ?hr ?_; (case hd => rfl); (case hg => rfl); (case hr => first | (go_simp; done) | (go_simp; rfl)); intro gb315 hg w6 hbox hb; have n0_ := zA (zQ (by repeat (first | (with_reducible first | exact HB.out | apply zG | apply zE | apply zF) | exact HB.out)) hb); have n1_ := zA (hbox); have n2_ := zA ((by rw [hg]; exact (zR (by repeat (first | (with_reducible first | exact HB.out | apply zG | apply zE | apply zF) | exact HB.out))) : w.heap.size ≤ gb315)); have n3_ := zA ((by rw [hg]; exact (zR (by repeat (first | (with_reducible first | exact HB.out | apply zG | apply zE | apply zF) | exact HB.out))) : w.heap.size ≤ gb315)); clear HB; have HB := n0_; have BK315 := n1_; have GW315 := n2_; have GE315 := n3_; clear n0_ n1_ n2_ n3_; clear hb hbox hg; have hcz7_0 : w6.cell? ⟨gb315, 0, none⟩ = some (.int .i64 a0_0) := (zJ BK315.out 0).trans rfl; have hcz7_1 : w6.cell? ⟨gb315, 1, none⟩ = some (.int .i64 a0_1) := (zJ BK315.out 1).trans rfl; have hcz7_2 : w6.cell? ⟨gb315, 2, none⟩ = some (.int .i64 a0_2) := (zJ BK315.out 2).trans rfl; have hcz7_3 : w6.cell? ⟨gb315, 3, none⟩ = some (.string a0_3) := (zJ BK315.out 3).trans rfl; have hcz7_4 : w6.cell? ⟨gb315, 4, none⟩ = some (.slice A0_4 l0_4.length c0_4) := (zJ BK315.out 4).trans rfl; have hcz7_5 : w6.cell? ⟨gb315, 5, none⟩ = some (.slice A0_5 l0_5.length c0_5) := (zJ BK315.out 5).trans rfl; have hfz7_0 := zK BK315.out 0; have hfz7_1 := zK BK315.out 1; have hfz7_2 := zK BK315.out 2; have hfz7_3 := zK BK315.out 3; have hfz7_4 := zK BK315.out 4; have hfz7_5 := zK BK315.out 5) | ((with_reducible refine zV (f := 4) rfl ?_); refine goesL_ (some 9) rfl rfl Tryd.func4 (by kernel_rfl) rfl #[.agg #[.int .i64 a0_0, .int .i64 a0_1, .int .i64 a0_2, .string a0_3, .slice A0_4 l0_4.length c0_4, .slice A0_5 l0_5.length c0_5], .int .i64 1048576] rfl (by (try simp only [yA, yD, yE]); first | done | rfl | (simp only [yB, yC]; rfl)) ?_; (with_reducible refine (laws_szValue.calls k a0_0 a0_1 a0_2 a0_3 _ _ l0_4 _ _ l0_5 1048576 t316 _ ?side1 ?side2 ?side3 ?side4 A4.out).mono ?_); (case side1 => repeat (first | exact (Kd.C_below HR0_4.out HB.out) | (with_reducible refine Kd.C_alloc ?_ _) | (with_reducible refine Kd.C_drewN ?_ _) | (with_reducible refine Kd.C_drew ?_))); (case side2 => exact HC0_4.out); (case side3 => repeat (first | exact (Kd.C_below HR0_5.out HB.out) | (with_reducible refine Kd.C_alloc ?_ _) | (with_reducible refine Kd.C_drewN ?_ _) | (with_reducible refine Kd.C_drew ?_))); (case side4 => exact HC0_5.out); rintro e w8 ⟨rfl, hb⟩; refine ⟨_, rfl, ?_⟩; have n0_ := zA (zQ (by repeat (first | (with_reducible first | exact HB.out | apply zG | apply zE | apply zF) | exact HB.out)) hb); clear HB; have HB := n0_; clear n0_; (try clear hb); (try clear hb2); (try clear hk); (try clear hi)))
  go_ret
  exact ⟨by first | rfl | (simp [errW_none, errW_some] <;> rfl) | (simp [*, errW_none, errW_some] <;> rfl), by repeat (first | (with_reducible first | exact HB.out | apply zG | apply zE | apply zF) | exact HB.out)⟩
 ·rw [if_neg c5] at H
  have c5b0 : decide (t316 < 0) = false := decide_eq_false c5
  clear c5
  replace H := Option.bind_eq_some_iff.mp H
  obtain ⟨⟨t317, t318, t319, t320, t321, t324⟩, A90, H⟩ := H
  replace H : ((spec_JsonPut.f k t317 t318 t319 t320 t321 t324).bind fun t327 => ((laws_toValue.f k a0_0 a0_1 a0_2 a0_3 l0_4 l0_5).bind fun bt328 => ((impl_JsonPut.f k bt328.1 bt328.2.1 bt328.2.2.1 bt328.2.2.2.1 bt328.2.2.2.2.1 bt328.2.2.2.2.2 l1 l2).bind fun t339 => (if t339.toList = t327.toList then ((laws_toValue.f k a0_0 a0_1 a0_2 a0_3 l0_4 l0_5).bind fun bt340 => ((laws_eqValue.f k bt328.1 bt328.2.1 bt328.2.2.1 bt328.2.2.2.1 bt328.2.2.2.2.1 bt328.2.2.2.2.2 bt340.1 bt340.2.1 bt340.2.2.1 bt340.2.2.2.1 bt340.2.2.2.2.1 bt340.2.2.2.2.2).bind fun t350 => (if t350 = true then (some true) else (none)))) else (none))))) = some r := H
  have A9 := zA A90
  clear A90
  replace H := Option.bind_eq_some_iff.mp H
  obtain ⟨t327, A100, H⟩ := H
  replace H : ((laws_toValue.f k a0_0 a0_1 a0_2 a0_3 l0_4 l0_5).bind fun bt328 => ((impl_JsonPut.f k bt328.1 bt328.2.1 bt328.2.2.1 bt328.2.2.2.1 bt328.2.2.2.2.1 bt328.2.2.2.2.2 l1 l2).bind fun t339 => (if t339.toList = t327.toList then ((laws_toValue.f k a0_0 a0_1 a0_2 a0_3 l0_4 l0_5).bind fun bt340 => ((laws_eqValue.f k bt328.1 bt328.2.1 bt328.2.2.1 bt328.2.2.2.1 bt328.2.2.2.2.1 bt328.2.2.2.2.2 bt340.1 bt340.2.1 bt340.2.2.1 bt340.2.2.2.1 bt340.2.2.2.2.1 bt340.2.2.2.2.2).bind fun t350 => (if t350 = true then (some true) else (none)))) else (none)))) = some r := H
  have A10 := zA A100
  clear A100
  replace H := Option.bind_eq_some_iff.mp H
  obtain ⟨⟨t328, t329, t330, t331, t332, t335⟩, A110, H⟩ := H
  replace H : ((impl_JsonPut.f k t328 t329 t330 t331 t332 t335 l1 l2).bind fun t339 => (if t339.toList = t327.toList then ((laws_toValue.f k a0_0 a0_1 a0_2 a0_3 l0_4 l0_5).bind fun bt340 => ((laws_eqValue.f k t328 t329 t330 t331 t332 t335 bt340.1 bt340.2.1 bt340.2.2.1 bt340.2.2.2.1 bt340.2.2.2.2.1 bt340.2.2.2.2.2).bind fun t350 => (if t350 = true then (some true) else (none)))) else (none))) = some r := H
  have A11 := zA A110
  clear A110
  replace H := Option.bind_eq_some_iff.mp H
  obtain ⟨t339, A120, H⟩ := H
  replace H : (if t339.toList = t327.toList then ((laws_toValue.f k a0_0 a0_1 a0_2 a0_3 l0_4 l0_5).bind fun bt340 => ((laws_eqValue.f k t328 t329 t330 t331 t332 t335 bt340.1 bt340.2.1 bt340.2.2.1 bt340.2.2.2.1 bt340.2.2.2.2.1 bt340.2.2.2.2.2).bind fun t350 => (if t350 = true then (some true) else (none)))) else (none)) = some r := H
  have A12 := zA A120
  clear A120
  by_cases c13 : t339.toList = t327.toList
  ·rw [if_pos c13] at H
   have c13b0 : (t339.toList == t327.toList) = true := beq_iff_eq.mpr c13
   have c13b1 : (t339.toList != t327.toList) = false := bne_eq_false_iff_eq.mpr c13
   clear c13
   replace H := Option.bind_eq_some_iff.mp H
   obtain ⟨⟨t340, t341, t342, t343, t344, t347⟩, A140, H⟩ := H
   replace H : ((laws_eqValue.f k t328 t329 t330 t331 t332 t335 t340 t341 t342 t343 t344 t347).bind fun t350 => (if t350 = true then (some true) else (none))) = some r := H
   have A14 := zA A140
   clear A140
   replace H := Option.bind_eq_some_iff.mp H
   obtain ⟨t350, A150, H⟩ := H
   replace H : (if t350 = true then (some true) else (none)) = some r := H
   have A15 := zA A150
   clear A150
   by_cases c16 : t350 = true
   ·subst c16
    have H1 : (some true) = some r := by rw [if_pos rfl] at H; exact H
    clear H
    have H := H1
    clear H1
    obtain rfl := yH H
    go_enter Tryd.func3, Tryd.ntmps3
    try go_wp2_with (first | ((with_reducible refine zT (N := 1) rfl ?_); refine zX ?hg (N := 1) ?hd (cs := #[.int .i64 a0_0, .int .i64 a0_1, .int .i64 a0_2, .string a0_3, .slice A0_4 l0_4.length c0_4, .slice A0_5 l0_5.length c0_5]) (t := 27) ?hr ?_; (case hd => rfl); (case hg => rfl); (case hr => first | (go_simp; done) | (go_simp; rfl)); intro gb315 hg w17 hbox hb; have n0_ := zA (zQ (by repeat (first | (with_reducible first | exact HB.out | apply zG | apply zE | apply zF) | exact HB.out)) hb); have n1_ := zA (hbox); have n2_ := zA ((by rw [hg]; exact (zR (by repeat (first | (with_reducible first | exact HB.out | apply zG | apply zE | apply zF) | exact HB.out))) : w.heap.size ≤ gb315)); have n3_ := zA ((by rw [hg]; exact (zR (by repeat (first | (with_reducible first | exact HB.out | apply zG | apply zE | apply zF) | exact HB.out))) : w.heap.size ≤ gb315)); clear HB; have HB := n0_; have BK315 := n1_; have GW315 := n2_; have GE315 := n3_; clear n0_ n1_ n2_ n3_; clear hb hbox hg; have hcz18_0 : w17.cell? ⟨gb315, 0, none⟩ = some (.int .i64 a0_0) := (zJ BK315.out 0).trans rfl; have hcz18_1 : w17.cell? ⟨gb315, 1, none⟩ = some (.int .i64 a0_1) := (zJ BK315.out 1).trans rfl; have hcz18_2 : w17.cell? ⟨gb315, 2, none⟩ = some (.int .i64 a0_2) := (zJ BK315.out 2).trans rfl; have hcz18_3 : w17.cell? ⟨gb315, 3, none⟩ = some (.string a0_3) := (zJ BK315.out 3).trans rfl; have hcz18_4 : w17.cell? ⟨gb315, 4, none⟩ = some (.slice A0_4 l0_4.length c0_4) := (zJ BK315.out 4).trans rfl; have hcz18_5 : w17.cell? ⟨gb315, 5, none⟩ = some (.slice A0_5 l0_5.length c0_5) := (zJ BK315.out 5).trans rfl; have hfz18_0 := zK BK315.out 0; have hfz18_1 := zK BK315.out 1; have hfz18_2 := zK BK315.out 2; have hfz18_3 := zK BK315.out 3; have hfz18_4 := zK BK315.out 4; have hfz18_5 := zK BK315.out 5) | ((with_reducible refine zV (f := 4) rfl ?_); refine goesL_ (some 9) rfl rfl Tryd.func4 (by kernel_rfl) rfl #[.agg #[.int .i64 a0_0, .int .i64 a0_1, .int .i64 a0_2, .string a0_3, .slice A0_4 l0_4.length c0_4, .slice A0_5 l0_5.length c0_5], .int .i64 1048576] rfl (by (try simp only [yA, yD, yE]); first | done | rfl | (simp only [yB, yC]; rfl)) ?_; (with_reducible refine (laws_szValue.calls k a0_0 a0_1 a0_2 a0_3 _ _ l0_4 _ _ l0_5 1048576 t316 _ ?side1 ?side2 ?side3 ?side4 A4.out).mono ?_); (case side1 => repeat (first | exact (Kd.C_below HR0_4.out HB.out) | (with_reducible refine Kd.C_alloc ?_ _) | (with_reducible refine Kd.C_drewN ?_ _) | (with_reducible refine Kd.C_drew ?_))); (case side2 => exact HC0_4.out); (case side3 => repeat (first | exact (Kd.C_below HR0_5.out HB.out) | (with_reducible refine Kd.C_alloc ?_ _) | (with_reducible refine Kd.C_drewN ?_ _) | (with_reducible refine Kd.C_drew ?_))); (case side4 => exact HC0_5.out); rintro e w19 ⟨rfl, hb⟩; refine ⟨_, rfl, ?_⟩; have n0_ := zA (zP (g := gb315) (o := .cells #[.int .i64 a0_0, .int .i64 a0_1, .int .i64 a0_2, .string a0_3, .slice A0_4 l0_4.length c0_4, .slice A0_5 l0_5.length c0_5] 27 (0, 0)) (by (with_reducible repeat (first | refine zB ?_ _ | refine zD ?_ | refine zC ?_ _)); exact BK315.out) hb); have n1_ := zA (zQ (by repeat (first | (with_reducible first | exact HB.out | apply zG | apply zE | apply zF | refine zH ?_ GE315.out) | exact HB.out)) hb); clear BK315; clear HB; have BK315 := n0_; have HB := n1_; clear n0_ n1_; (try clear hb); (try clear hb2); (try clear hk); (try clear hi); have hcz20_0 : w19.cell? ⟨gb315, 0, none⟩ = some (.int .i64 a0_0) := (zJ BK315.out 0).trans rfl; have hcz20_1 : w19.cell? ⟨gb315, 1, none⟩ = some (.int .i64 a0_1) := (zJ BK315.out 1).trans rfl; have hcz20_2 : w19.cell? ⟨gb315, 2, none⟩ = some (.int .i64 a0_2) := (zJ BK315.out 2).trans rfl; have hcz20_3 : w19.cell? ⟨gb315, 3, none⟩ = some (.string a0_3) := (zJ BK315.out 3).trans rfl; have hcz20_4 : w19.cell? ⟨gb315, 4, none⟩ = some (.slice A0_4 l0_4.length c0_4) := (zJ BK315.out 4).trans rfl; have hcz20_5 : w19.cell? ⟨gb315, 5, none⟩ = some (.slice A0_5 l0_5.length c0_5) := (zJ BK315.out 5).trans rfl; have hfz20_0 := zK BK315.out 0; have hfz20_1 := zK BK315.out 1; have hfz20_2 := zK BK315.out 2; have hfz20_3 := zK BK315.out 3; have hfz20_4 := zK BK315.out 4; have hfz20_5 := zK BK315.out 5) | ((with_reducible refine zV (f := 6) rfl ?_); refine goesL_ (some 13) rfl rfl Tryd.func6 (by kernel_rfl) rfl #[.agg #[.int .i64 a0_0, .int .i64 a0_1, .int .i64 a0_2, .string a0_3, .slice A0_4 l0_4.length c0_4, .slice A0_5 l0_5.length c0_5]] rfl (by (try simp only [yA, yD, yE]); first | done | rfl | (simp only [yB, yC]; rfl)) ?_; (with_reducible refine (laws_toValue.calls k a0_0 a0_1 a0_2 a0_3 _ _ l0_4 _ _ l0_5 t317 t318 t319 t320 t321 t324 _ ?side1 ?side2 ?side3 ?side4 A9.out).mono ?_); (case side1 => repeat (first | exact (Kd.C_below HR0_4.out HB.out) | (with_reducible refine Kd.C_alloc ?_ _) | (with_reducible refine Kd.C_drewN ?_ _) | (with_reducible refine Kd.C_drew ?_))); (case side2 => exact HC0_4.out); (case side3 => repeat (first | exact (Kd.C_below HR0_5.out HB.out) | (with_reducible refine Kd.C_alloc ?_ _) | (with_reducible refine Kd.C_drewN ?_ _) | (with_reducible refine Kd.C_drew ?_))); (case side4 => exact HC0_5.out); rintro e w21 ⟨v322, v325, rfl, ho0, ho1, hb⟩; refine ⟨_, rfl, ?_⟩; have n0_ := zA (Kd.R_lower ho0 (zR (by repeat (first | (with_reducible first | exact HB.out | apply zG | apply zE | apply zF | refine zH ?_ GE315.out) | exact HB.out)))); have n1_ := zA (Kd.R_lower ho1 (zR (by repeat (first | (with_reducible first | exact HB.out | apply zG | apply zE | apply zF | refine zH ?_ GE315.out) | exact HB.out)))); have n2_ := zA (zP (g := gb315) (o := .cells #[.int .i64 a0_0, .int .i64 a0_1, .int .i64 a0_2, .string a0_3, .slice A0_4 l0_4.length c0_4, .slice A0_5 l0_5.length c0_5] 27 (0, 0)) (by (with_reducible repeat (first | refine zB ?_ _ | refine zD ?_ | refine zC ?_ _)); exact BK315.out) hb); have n3_ := zA (zQ (by repeat (first | (with_reducible first | exact HB.out | apply zG | apply zE | apply zF | refine zH ?_ GE315.out) | exact HB.out)) hb); clear BK315; clear HB; have HO323 := n0_; have HO326 := n1_; have BK315 := n2_; have HB := n3_; clear n0_ n1_ n2_ n3_; (try clear hb); (try clear hb2); (try clear hk); (try clear hi); (try clear ho0); (try clear ho1); obtain ⟨Ao22, co22, eo22⟩ := Kd.R_slice HO323.out; subst eo22; obtain ⟨Ao23, co23, eo23⟩ := Kd.R_slice HO326.out; subst eo23) | ((with_reducible refine zV (f := 5) rfl ?_); refine goesL_ (some 14) rfl rfl Tryd.func5 (by kernel_rfl) rfl #[.agg #[.int .i64 t317, .int .i64 t318, .int .i64 t319, .string t320, .slice Ao22 t321.length co22, .slice Ao23 t324.length co23]] rfl (by (try simp only [yA, yD, yE]); first | done | rfl | (simp only [yB, yC]; rfl)) ?_; (with_reducible refine (spec_JsonPut.calls k t317 t318 t319 t320 _ _ t321 _ _ t324 t327 _ ?side1 ?side2 ?side3 ?side4 A10.out).mono ?_); (case side1 => repeat (first | exact (Kd.R_reads' HO323.out).2.2 | (with_reducible refine Kd.C_alloc ?_ _) | (with_reducible refine Kd.C_drewN ?_ _) | (with_reducible refine Kd.C_drew ?_))); (case side2 => exact (Kd.R_reads' HO323.out).2.1); (case side3 => repeat (first | exact (Kd.R_reads' HO326.out).2.2 | (with_reducible refine Kd.C_alloc ?_ _) | (with_reducible refine Kd.C_drewN ?_ _) | (with_reducible refine Kd.C_drew ?_))); (case side4 => exact (Kd.R_reads' HO326.out).2.1); rintro e w24 ⟨rfl, hb⟩; refine ⟨_, rfl, ?_⟩; have n0_ := zA (Kd.R_below (by (with_reducible repeat (first | apply Kd.R_alloc | apply Kd.R_drewN | apply Kd.R_drew)); exact HO323.out) hb); have n1_ := zA (Kd.R_below (by (with_reducible repeat (first | apply Kd.R_alloc | apply Kd.R_drewN | apply Kd.R_drew)); exact HO326.out) hb); have n2_ := zA (zP (g := gb315) (o := .cells #[.int .i64 a0_0, .int .i64 a0_1, .int .i64 a0_2, .string a0_3, .slice A0_4 l0_4.length c0_4, .slice A0_5 l0_5.length c0_5] 27 (0, 0)) (by (with_reducible repeat (first | refine zB ?_ _ | refine zD ?_ | refine zC ?_ _)); exact BK315.out) hb); have n3_ := zA (zQ (by repeat (first | (with_reducible first | exact HB.out | apply zG | apply zE | apply zF | refine zH ?_ GE315.out) | exact HB.out)) hb); clear HO323; clear HO326; clear BK315; clear HB; have HO323 := n0_; have HO326 := n1_; have BK315 := n2_; have HB := n3_; clear n0_ n1_ n2_ n3_; (try clear hb); (try clear hb2); (try clear hk); (try clear hi); have hcz25_0 : w24.cell? ⟨gb315, 0, none⟩ = some (.int .i64 a0_0) := (zJ BK315.out 0).trans rfl; have hcz25_1 : w24.cell? ⟨gb315, 1, none⟩ = some (.int .i64 a0_1) := (zJ BK315.out 1).trans rfl; have hcz25_2 : w24.cell? ⟨gb315, 2, none⟩ = some (.int .i64 a0_2) := (zJ BK315.out 2).trans rfl; have hcz25_3 : w24.cell? ⟨gb315, 3, none⟩ = some (.string a0_3) := (zJ BK315.out 3).trans rfl; have hcz25_4 : w24.cell? ⟨gb315, 4, none⟩ = some (.slice A0_4 l0_4.length c0_4) := (zJ BK315.out 4).trans rfl; have hcz25_5 : w24.cell? ⟨gb315, 5, none⟩ = some (.slice A0_5 l0_5.length c0_5) := (zJ BK315.out 5).trans rfl; have hfz25_0 := zK BK315.out 0; have hfz25_1 := zK BK315.out 1; have hfz25_2 := zK BK315.out 2; have hfz25_3 := zK BK315.out 3; have hfz25_4 := zK BK315.out 4; have hfz25_5 := zK BK315.out 5) | ((with_reducible refine zV (f := 6) rfl ?_); refine goesL_ (some 16) rfl rfl Tryd.func6 (by kernel_rfl) rfl #[.agg #[.int .i64 a0_0, .int .i64 a0_1, .int .i64 a0_2, .string a0_3, .slice A0_4 l0_4.length c0_4, .slice A0_5 l0_5.length c0_5]] rfl (by (try simp only [yA, yD, yE]); first | done | rfl | (simp only [yB, yC]; rfl)) ?_; (with_reducible refine (laws_toValue.calls k a0_0 a0_1 a0_2 a0_3 _ _ l0_4 _ _ l0_5 t328 t329 t330 t331 t332 t335 _ ?side1 ?side2 ?side3 ?side4 A11.out).mono ?_); (case side1 => repeat (first | exact (Kd.C_below HR0_4.out HB.out) | (with_reducible refine Kd.C_alloc ?_ _) | (with_reducible refine Kd.C_drewN ?_ _) | (with_reducible refine Kd.C_drew ?_))); (case side2 => exact HC0_4.out); (case side3 => repeat (first | exact (Kd.C_below HR0_5.out HB.out) | (with_reducible refine Kd.C_alloc ?_ _) | (with_reducible refine Kd.C_drewN ?_ _) | (with_reducible refine Kd.C_drew ?_))); (case side4 => exact HC0_5.out); rintro e w26 ⟨v333, v336, rfl, ho0, ho1, hb⟩; refine ⟨_, rfl, ?_⟩; have n0_ := zA (Kd.R_mono (Kd.R_told (Kd.R_told (Kd.R_old (by (with_reducible repeat (first | apply Kd.R_alloc | apply Kd.R_drewN | apply Kd.R_drew)); exact HO323.out) hb) (Kd.R_base ho0)) (Kd.R_base ho1)) (fun _ h_ => h_.1)); have n1_ := zA (Kd.R_elder' (by (with_reducible repeat (first | apply Kd.R_alloc | apply Kd.R_drewN | apply Kd.R_drew)); exact HO326.out) (Kd.R_base ho1) hb); have n2_ := zA (Kd.R_lower (Kd.R_new' (Kd.R_new' ho0 (Kd.R_lt (by (with_reducible repeat (first | apply Kd.R_alloc | apply Kd.R_drewN | apply Kd.R_drew)); exact HO323.out))) (Kd.R_lt (by (with_reducible repeat (first | apply Kd.R_alloc | apply Kd.R_drewN | apply Kd.R_drew)); exact HO326.out))) (zR (by repeat (first | (with_reducible first | exact HB.out | apply zG | apply zE | apply zF | refine zH ?_ GE315.out) | exact HB.out)))); have n3_ := zA (Kd.R_lower (Kd.R_new' ho1 (Kd.R_lt (by (with_reducible repeat (first | apply Kd.R_alloc | apply Kd.R_drewN | apply Kd.R_drew)); exact HO326.out))) (zR (by repeat (first | (with_reducible first | exact HB.out | apply zG | apply zE | apply zF | refine zH ?_ GE315.out) | exact HB.out)))); have n4_ := zA (zP (g := gb315) (o := .cells #[.int .i64 a0_0, .int .i64 a0_1, .int .i64 a0_2, .string a0_3, .slice A0_4 l0_4.length c0_4, .slice A0_5 l0_5.length c0_5] 27 (0, 0)) (by (with_reducible repeat (first | refine zB ?_ _ | refine zD ?_ | refine zC ?_ _)); exact BK315.out) hb); have n5_ := zA (zQ (by repeat (first | (with_reducible first | exact HB.out | apply zG | apply zE | apply zF | refine zH ?_ GE315.out) | exact HB.out)) hb); clear HO323; clear HO326; clear BK315; clear HB; have HO323 := n0_; have HO326 := n1_; have HO334 := n2_; have HO337 := n3_; have BK315 := n4_; have HB := n5_; clear n0_ n1_ n2_ n3_ n4_ n5_; (try clear hb); (try clear hb2); (try clear hk); (try clear hi); (try clear ho0); (try clear ho1)) | ((with_reducible refine zT (N := 5) rfl ?_); refine zX ?hg (N := 5) ?hd (cs := #[.int .i64 0, .int .i64 0, .int .i64 0, .string (⟨#[]⟩ : ByteArray), .slice none 0 0, .slice none 0 0]) (t := 33) ?hr ?_; (case hd => rfl); (case hg => rfl); (case hr => first | (go_simp; done) | (go_simp; rfl)); intro gb338 hg w27 hbox hb; have n0_ := zA (Kd.R_below (Kd.R_elderB (by (with_reducible repeat (first | apply Kd.R_alloc | apply Kd.R_drewN | apply Kd.R_drew)); exact HO323.out) gb338 (Nat.le_of_eq hg.symm)) hb); have n1_ := zA (Kd.R_below (by (with_reducible repeat (first | apply Kd.R_alloc | apply Kd.R_drewN | apply Kd.R_drew)); exact HO326.out) hb); have n2_ := zA (Kd.R_below (Kd.R_elderB (by (with_reducible repeat (first | apply Kd.R_alloc | apply Kd.R_drewN | apply Kd.R_drew)); exact HO334.out) gb338 (Nat.le_of_eq hg.symm)) hb); have n3_ := zA (Kd.R_below (by (with_reducible repeat (first | apply Kd.R_alloc | apply Kd.R_drewN | apply Kd.R_drew)); exact HO337.out) hb); have n4_ := zA (zP (g := gb315) (o := .cells #[.int .i64 a0_0, .int .i64 a0_1, .int .i64 a0_2, .string a0_3, .slice A0_4 l0_4.length c0_4, .slice A0_5 l0_5.length c0_5] 27 (0, 0)) (by (with_reducible repeat (first | refine zB ?_ _ | refine zD ?_ | refine zC ?_ _)); exact BK315.out) hb); have n5_ := zA (zQ (by repeat (first | (with_reducible first | exact HB.out | apply zG | apply zE | apply zF | refine zH ?_ GE315.out) | exact HB.out)) hb); have n6_ := zA (hbox); have n7_ := zA ((by rw [hg]; exact (zR (by repeat (first | (with_reducible first | exact HB.out | apply zG | apply zE | apply zF | refine zH ?_ GE315.out) | exact HB.out))) : w.heap.size ≤ gb338)); have n8_ := zA ((by rw [hg]; exact (zR (by repeat (first | (with_reducible first | exact HB.out | apply zG | apply zE | apply zF | refine zH ?_ GE315.out) | exact HB.out))) : w.heap.size ≤ gb338)); have n9_ := zA ((by rw [hg]; exact Nat.ne_of_lt (blk_lt (g := gb315) (o := .cells #[.int .i64 a0_0, .int .i64 a0_1, .int .i64 a0_2, .string a0_3, .slice A0_4 l0_4.length c0_4, .slice A0_5 l0_5.length c0_5] 27 (0, 0)) (by (with_reducible repeat (first | refine zB ?_ _ | refine zD ?_ | refine zC ?_ _)); exact BK315.out)) : gb315 ≠ gb338)); have n10_ := zA ((by rw [hg]; exact Nat.ne_of_gt (blk_lt (g := gb315) (o := .cells #[.int .i64 a0_0, .int .i64 a0_1, .int .i64 a0_2, .string a0_3, .slice A0_4 l0_4.length c0_4, .slice A0_5 l0_5.length c0_5] 27 (0, 0)) (by (with_reducible repeat (first | refine zB ?_ _ | refine zD ?_ | refine zC ?_ _)); exact BK315.out)) : gb338 ≠ gb315)); clear HO323; clear HO326; clear HO334; clear HO337; clear BK315; clear HB; have HO323 := n0_; have HO326 := n1_; have HO334 := n2_; have HO337 := n3_; have BK315 := n4_; have HB := n5_; have BK338 := n6_; have GW338 := n7_; have GE338 := n8_; have NB315_338 := n9_; have NB338_315 := n10_; clear n0_ n1_ n2_ n3_ n4_ n5_ n6_ n7_ n8_ n9_ n10_; clear hb hbox hg; have hnb28 := NB338_315.out; have hnc28 := NB315_338.out; have hcz29_0 : w27.cell? ⟨gb338, 0, none⟩ = some (.int .i64 0) := (zJ BK338.out 0).trans rfl; have hcz29_1 : w27.cell? ⟨gb338, 1, none⟩ = some (.int .i64 0) := (zJ BK338.out 1).trans rfl; have hcz29_2 : w27.cell? ⟨gb338, 2, none⟩ = some (.int .i64 0) := (zJ BK338.out 2).trans rfl; have hcz29_3 : w27.cell? ⟨gb338, 3, none⟩ = some (.string (⟨#[]⟩ : ByteArray)) := (zJ BK338.out 3).trans rfl; have hcz29_4 : w27.cell? ⟨gb338, 4, none⟩ = some (.slice none 0 0) := (zJ BK338.out 4).trans rfl; have hcz29_5 : w27.cell? ⟨gb338, 5, none⟩ = some (.slice none 0 0) := (zJ BK338.out 5).trans rfl; have hfz29_0 := zK BK338.out 0; have hfz29_1 := zK BK338.out 1; have hfz29_2 := zK BK338.out 2; have hfz29_3 := zK BK338.out 3; have hfz29_4 := zK BK338.out 4; have hfz29_5 := zK BK338.out 5; obtain ⟨Ao30, co30, eo30⟩ := Kd.R_slice HO334.out; subst eo30; obtain ⟨Ao31, co31, eo31⟩ := Kd.R_slice HO337.out; subst eo31) | ((with_reducible refine zV (f := 7) rfl ?_); refine goesL_ (some 18) rfl rfl Tryd.func7 (by kernel_rfl) rfl #[.agg #[.int .i64 t328, .int .i64 t329, .int .i64 t330, .string t331, .slice Ao30 t332.length co30, .slice Ao31 t335.length co31]] rfl (by (try simp only [yA, yD, yE]); first | done | rfl | (simp only [yB, yC]; rfl)) ?_; (with_reducible refine (impl_JsonPut.calls k t328 t329 t330 t331 _ _ t332 _ _ t335 A1 c1 l1 A2 c2 l2 t339 _ ?side1 ?side2 ?side3 ?side4 ?side5 ?side6 ?side7 ?side8 ?side9 ?side10 A12.out).mono ?_); (case side1 => refine (Kd.R_reads' (e := 33) (base := w.heap.size) (ok := fun k_ => (((some k_ ≠ (.slice Ao31 t335.length co31 : Value).ownBlock ∧ some k_ ≠ (.slice Ao22 t321.length co22 : Value).ownBlock) ∧ some k_ ≠ (.slice Ao23 t324.length co23 : Value).ownBlock) ∧ k_ ≠ gb338)) (n := t332.length) (c := co30) ?_).2.2; exact (by (with_reducible repeat (first | apply Kd.R_alloc | apply Kd.R_drewN | apply Kd.R_drew)); exact (Kd.R_mono (Kd.R_far (p := ⟨gb338, 5, none⟩) (Kd.R_far (p := ⟨gb338, 4, none⟩) (Kd.R_far (p := ⟨gb338, 3, none⟩) (Kd.R_far (p := ⟨gb338, 2, none⟩) (Kd.R_far (p := ⟨gb338, 1, none⟩) (Kd.R_far (p := ⟨gb338, 0, none⟩) (Kd.R_mono HO334.out (fun k_ hk => (⟨hk, hk.2⟩ : _ ∧ k_ ≠ gb338))) (fun _ hk => hk.2) (.int .i64 t328)) (fun _ hk => hk.2) (.int .i64 t329)) (fun _ hk => hk.2) (.int .i64 t330)) (fun _ hk => hk.2) (.string t331)) (fun _ hk => hk.2) (.slice Ao30 t332.length co30)) (fun _ hk => hk.2) (.slice Ao31 t335.length co31)) (fun _ h_ => h_.1)))); (case side2 => exact (Kd.R_reads' HO334.out).2.1); (case side3 => refine (Kd.R_reads' (e := 9) (base := w.heap.size) (ok := fun k_ => (True ∧ some k_ ≠ (.slice Ao23 t324.length co23 : Value).ownBlock)) (n := t335.length) (c := co31) ?_).2.2; exact (by (with_reducible repeat (first | apply Kd.R_alloc | apply Kd.R_drewN | apply Kd.R_drew)); exact (Kd.R_mono (Kd.R_far (p := ⟨gb338, 5, none⟩) (Kd.R_far (p := ⟨gb338, 4, none⟩) (Kd.R_far (p := ⟨gb338, 3, none⟩) (Kd.R_far (p := ⟨gb338, 2, none⟩) (Kd.R_far (p := ⟨gb338, 1, none⟩) (Kd.R_far (p := ⟨gb338, 0, none⟩) (Kd.R_types HO337.out BK338.out (by decide)) (fun _ hk => hk.2) (.int .i64 t328)) (fun _ hk => hk.2) (.int .i64 t329)) (fun _ hk => hk.2) (.int .i64 t330)) (fun _ hk => hk.2) (.string t331)) (fun _ hk => hk.2) (.slice Ao30 t332.length co30)) (fun _ hk => hk.2) (.slice Ao31 t335.length co31)) (fun _ h_ => h_.1)))); (case side4 => exact (Kd.R_reads' HO337.out).2.1); (case side5 => exact Kd.C_below HR1.out (by repeat (first | (with_reducible first | exact HB.out | apply zG | apply zE | apply zF | refine zH ?_ GE315.out | refine zH ?_ GE338.out) | exact HB.out))); (case side6 => exact HC1.out); (case side7 => exact Kd.C_below HR2.out (by repeat (first | (with_reducible first | exact HB.out | apply zG | apply zE | apply zF | refine zH ?_ GE315.out | refine zH ?_ GE338.out) | exact HB.out))); (case side8 => exact HC2.out); (case side9 => exact HG1.out); (case side10 => exact HG2.out); rintro e w32 ⟨rfl, hb⟩; refine ⟨_, rfl, ?_⟩; have n0_ := zA (Kd.R_below (by (with_reducible repeat (first | apply Kd.R_alloc | apply Kd.R_drewN | apply Kd.R_drew)); exact (Kd.R_mono (Kd.R_far (p := ⟨gb338, 5, none⟩) (Kd.R_far (p := ⟨gb338, 4, none⟩) (Kd.R_far (p := ⟨gb338, 3, none⟩) (Kd.R_far (p := ⟨gb338, 2, none⟩) (Kd.R_far (p := ⟨gb338, 1, none⟩) (Kd.R_far (p := ⟨gb338, 0, none⟩) (Kd.R_mono HO323.out (fun k_ hk => (⟨hk, hk.2⟩ : _ ∧ k_ ≠ gb338))) (fun _ hk => hk.2) (.int .i64 t328)) (fun _ hk => hk.2) (.int .i64 t329)) (fun _ hk => hk.2) (.int .i64 t330)) (fun _ hk => hk.2) (.string t331)) (fun _ hk => hk.2) (.slice Ao30 t332.length co30)) (fun _ hk => hk.2) (.slice Ao31 t335.length co31)) (fun _ h_ => h_.1))) hb); have n1_ := zA (Kd.R_below (by (with_reducible repeat (first | apply Kd.R_alloc | apply Kd.R_drewN | apply Kd.R_drew)); exact (Kd.R_mono (Kd.R_far (p := ⟨gb338, 5, none⟩) (Kd.R_far (p := ⟨gb338, 4, none⟩) (Kd.R_far (p := ⟨gb338, 3, none⟩) (Kd.R_far (p := ⟨gb338, 2, none⟩) (Kd.R_far (p := ⟨gb338, 1, none⟩) (Kd.R_far (p := ⟨gb338, 0, none⟩) (Kd.R_types HO326.out BK338.out (by decide)) (fun _ hk => hk.2) (.int .i64 t328)) (fun _ hk => hk.2) (.int .i64 t329)) (fun _ hk => hk.2) (.int .i64 t330)) (fun _ hk => hk.2) (.string t331)) (fun _ hk => hk.2) (.slice Ao30 t332.length co30)) (fun _ hk => hk.2) (.slice Ao31 t335.length co31)) (fun _ h_ => h_.1))) hb); have n2_ := zA (Kd.R_below (by (with_reducible repeat (first | apply Kd.R_alloc | apply Kd.R_drewN | apply Kd.R_drew)); exact (Kd.R_mono (Kd.R_far (p := ⟨gb338, 5, none⟩) (Kd.R_far (p := ⟨gb338, 4, none⟩) (Kd.R_far (p := ⟨gb338, 3, none⟩) (Kd.R_far (p := ⟨gb338, 2, none⟩) (Kd.R_far (p := ⟨gb338, 1, none⟩) (Kd.R_far (p := ⟨gb338, 0, none⟩) (Kd.R_mono HO334.out (fun k_ hk => (⟨hk, hk.2⟩ : _ ∧ k_ ≠ gb338))) (fun _ hk => hk.2) (.int .i64 t328)) (fun _ hk => hk.2) (.int .i64 t329)) (fun _ hk => hk.2) (.int .i64 t330)) (fun _ hk => hk.2) (.string t331)) (fun _ hk => hk.2) (.slice Ao30 t332.length co30)) (fun _ hk => hk.2) (.slice Ao31 t335.length co31)) (fun _ h_ => h_.1))) hb); have n3_ := zA (Kd.R_below (by (with_reducible repeat (first | apply Kd.R_alloc | apply Kd.R_drewN | apply Kd.R_drew)); exact (Kd.R_mono (Kd.R_far (p := ⟨gb338, 5, none⟩) (Kd.R_far (p := ⟨gb338, 4, none⟩) (Kd.R_far (p := ⟨gb338, 3, none⟩) (Kd.R_far (p := ⟨gb338, 2, none⟩) (Kd.R_far (p := ⟨gb338, 1, none⟩) (Kd.R_far (p := ⟨gb338, 0, none⟩) (Kd.R_types HO337.out BK338.out (by decide)) (fun _ hk => hk.2) (.int .i64 t328)) (fun _ hk => hk.2) (.int .i64 t329)) (fun _ hk => hk.2) (.int .i64 t330)) (fun _ hk => hk.2) (.string t331)) (fun _ hk => hk.2) (.slice Ao30 t332.length co30)) (fun _ hk => hk.2) (.slice Ao31 t335.length co31)) (fun _ h_ => h_.1))) hb); have n4_ := zA (zP (g := gb315) (o := .cells #[.int .i64 a0_0, .int .i64 a0_1, .int .i64 a0_2, .string a0_3, .slice A0_4 l0_4.length c0_4, .slice A0_5 l0_5.length c0_5] 27 (0, 0)) (by (with_reducible repeat (first | refine zB ?_ _ | refine zD ?_ | refine zC ?_ _)); refine blk_far ?_ NB315_338.out _; (with_reducible repeat (first | refine zB ?_ _ | refine zD ?_ | refine zC ?_ _)); refine blk_far ?_ NB315_338.out _; (with_reducible repeat (first | refine zB ?_ _ | refine zD ?_ | refine zC ?_ _)); refine blk_far ?_ NB315_338.out _; (with_reducible repeat (first | refine zB ?_ _ | refine zD ?_ | refine zC ?_ _)); refine blk_far ?_ NB315_338.out _; (with_reducible repeat (first | refine zB ?_ _ | refine zD ?_ | refine zC ?_ _)); refine blk_far ?_ NB315_338.out _; (with_reducible repeat (first | refine zB ?_ _ | refine zD ?_ | refine zC ?_ _)); refine blk_far ?_ NB315_338.out _; (with_reducible repeat (first | refine zB ?_ _ | refine zD ?_ | refine zC ?_ _)); exact BK315.out) hb); have n5_ := zA (zP (g := gb338) (o := .cells #[.int .i64 t328, .int .i64 t329, .int .i64 t330, .string t331, .slice Ao30 t332.length co30, .slice Ao31 t335.length co31] 33 (0, 0)) (by (with_reducible repeat (first | refine zB ?_ _ | refine zD ?_ | refine zC ?_ _)); refine blk_put (cs := #[.int .i64 t328, .int .i64 t329, .int .i64 t330, .string t331, .slice Ao30 t332.length co30, .slice none 0 0]) ?_ 5 _ rfl; (with_reducible repeat (first | refine zB ?_ _ | refine zD ?_ | refine zC ?_ _)); refine blk_put (cs := #[.int .i64 t328, .int .i64 t329, .int .i64 t330, .string t331, .slice none 0 0, .slice none 0 0]) ?_ 4 _ rfl; (with_reducible repeat (first | refine zB ?_ _ | refine zD ?_ | refine zC ?_ _)); refine blk_put (cs := #[.int .i64 t328, .int .i64 t329, .int .i64 t330, .string (⟨#[]⟩ : ByteArray), .slice none 0 0, .slice none 0 0]) ?_ 3 _ rfl; (with_reducible repeat (first | refine zB ?_ _ | refine zD ?_ | refine zC ?_ _)); refine blk_put (cs := #[.int .i64 t328, .int .i64 t329, .int .i64 0, .string (⟨#[]⟩ : ByteArray), .slice none 0 0, .slice none 0 0]) ?_ 2 _ rfl; (with_reducible repeat (first | refine zB ?_ _ | refine zD ?_ | refine zC ?_ _)); refine blk_put (cs := #[.int .i64 t328, .int .i64 0, .int .i64 0, .string (⟨#[]⟩ : ByteArray), .slice none 0 0, .slice none 0 0]) ?_ 1 _ rfl; (with_reducible repeat (first | refine zB ?_ _ | refine zD ?_ | refine zC ?_ _)); refine blk_put (cs := #[.int .i64 0, .int .i64 0, .int .i64 0, .string (⟨#[]⟩ : ByteArray), .slice none 0 0, .slice none 0 0]) ?_ 0 _ rfl; (with_reducible repeat (first | refine zB ?_ _ | refine zD ?_ | refine zC ?_ _)); exact BK338.out) hb); have n6_ := zA (zQ (by repeat (first | (with_reducible first | exact HB.out | apply zG | apply zE | apply zF | refine zH ?_ GE315.out | refine zH ?_ GE338.out) | exact HB.out)) hb); clear HO323; clear HO326; clear HO334; clear HO337; clear BK315; clear BK338; clear HB; have HO323 := n0_; have HO326 := n1_; have HO334 := n2_; have HO337 := n3_; have BK315 := n4_; have BK338 := n5_; have HB := n6_; clear n0_ n1_ n2_ n3_ n4_ n5_ n6_; (try clear hb); (try clear hb2); (try clear hk); (try clear hi)))
    have n0_ := zA (Kd.R_drew HO323.out)
    have n1_ := zA (Kd.R_drew HO326.out)
    have n2_ := zA (Kd.R_drew HO334.out)
    have n3_ := zA (Kd.R_drew HO337.out)
    have n4_ := zA (zD BK315.out)
    have n5_ := zA (zD BK338.out)
    have n6_ := zA (zF HB.out)
    clear HO323
    clear HO326
    clear HO334
    clear HO337
    clear BK315
    clear BK338
    clear HB
    have HO323 := n0_
    have HO326 := n1_
    have HO334 := n2_
    have HO337 := n3_
    have BK315 := n4_
    have BK338 := n5_
    have HB := n6_
    clear n0_ n1_ n2_ n3_ n4_ n5_ n6_
    refine start_ (n := 5) (S := fun w' => w'.cell? ⟨gb338, 0, none⟩ = some (.int .i64 t328) ∧ w'.cell? ⟨gb338, 1, none⟩ = some (.int .i64 t329) ∧ w'.cell? ⟨gb338, 2, none⟩ = some (.int .i64 t330) ∧ w'.cell? ⟨gb338, 3, none⟩ = some (.string t331) ∧ w'.cell? ⟨gb338, 4, none⟩ = some (.slice Ao30 t332.length co30) ∧ w'.cell? ⟨gb338, 5, none⟩ = some (.slice Ao31 t335.length co31) ∧ w'.cell? ⟨gb315, 0, none⟩ = some (.int .i64 a0_0) ∧ w'.cell? ⟨gb315, 1, none⟩ = some (.int .i64 a0_1) ∧ w'.cell? ⟨gb315, 2, none⟩ = some (.int .i64 a0_2) ∧ w'.cell? ⟨gb315, 3, none⟩ = some (.string a0_3) ∧ w'.cell? ⟨gb315, 4, none⟩ = some (.slice A0_4 l0_4.length c0_4) ∧ w'.cell? ⟨gb315, 5, none⟩ = some (.slice A0_5 l0_5.length c0_5)) (ds := []) #[false, false, false, false, false] (by kernel_rfl) rfl rfl ⟨(zJ BK338.out 0).trans rfl, (zJ BK338.out 1).trans rfl, (zJ BK338.out 2).trans rfl, (zJ BK338.out 3).trans rfl, (zJ BK338.out 4).trans rfl, (zJ BK338.out 5).trans rfl, (zJ BK315.out 0).trans rfl, (zJ BK315.out 1).trans rfl, (zJ BK315.out 2).trans rfl, (zJ BK315.out 3).trans rfl, (zJ BK315.out 4).trans rfl, (zJ BK315.out 5).trans rfl⟩ (fun hHeld => ?_)
    generalize w32.drew = w33 at HO323 HO326 HO334 HO337 BK315 BK338 HB hHeld ⊢
    refine take_ (i := 0) (N := some 22) (v := ?_) (a' := ?_) #[true, false, false, false, false] rfl rfl (by kernel_rfl) (fun _ _ _ h => h) (Or.inl ⟨by rfl, ?_⟩) hHeld ?_ ?_
    rotate_left
    ·rintro w' ⟨s0, s1, s2, s3, s4, s5, s6, s7, s8, s9, s10, s11⟩
     go_simp
     with_reducible rfl
    rotate_left
    ·simp only [Act.put, zL, zM, zN, i64_w, i32_w]
     rfl
    refine take_ (i := 1) (N := some 23) (v := ?_) (a' := ?_) #[true, true, false, false, false] rfl rfl (by kernel_rfl) (fun _ _ _ h => h) (Or.inl ⟨by rfl, ?_⟩) hHeld ?_ ?_
    rotate_left
    ·rintro w' ⟨s0, s1, s2, s3, s4, s5, s6, s7, s8, s9, s10, s11⟩
     go_simp
     with_reducible rfl
    rotate_left
    ·simp only [Act.put, zL, zM, zN, i64_w, i32_w]
     rfl
    refine one_ (i := 2) (N := some 24) #[true, true, true, false, false] rfl rfl (by kernel_rfl) (by decide) (fun K hK => ?_)
    refine goes_ Tryd.func6 (by kernel_rfl) rfl #[.agg #[.int .i64 a0_0, .int .i64 a0_1, .int .i64 a0_2, .string a0_3, .slice A0_4 l0_4.length c0_4, .slice A0_5 l0_5.length c0_5]] (by rfl) rfl rfl (by (try simp only [yA, yD, yE]); first | done | rfl | (simp only [yB, yC]; rfl)) ?_
    with_reducible refine (laws_toValue.calls k a0_0 a0_1 a0_2 a0_3 _ _ l0_4 _ _ l0_5 t340 t341 t342 t343 t344 t347 _ ?side1 ?side2 ?side3 ?side4 A14.out).mono ?_
    (case side1 => repeat (first | exact (Kd.C_below HR0_4.out HB.out) | (with_reducible refine Kd.C_alloc ?_ _) | (with_reducible refine Kd.C_drewN ?_ _) | (with_reducible refine Kd.C_drew ?_)))
    (case side2 => exact HC0_4.out)
    (case side3 => repeat (first | exact (Kd.C_below HR0_5.out HB.out) | (with_reducible refine Kd.C_alloc ?_ _) | (with_reducible refine Kd.C_drewN ?_ _) | (with_reducible refine Kd.C_drew ?_)))
    (case side4 => exact HC0_5.out)
    rintro e w34 ⟨v345, v348, rfl, ho0, ho1, hb⟩
    refine ⟨_, rfl, ?_⟩
    have n0_ := zA (Kd.R_mono (Kd.R_told (Kd.R_told (Kd.R_old (by (with_reducible repeat (first | apply Kd.R_alloc | apply Kd.R_drewN | apply Kd.R_drew)); exact HO323.out) hb) (Kd.R_base ho0)) (Kd.R_base ho1)) (fun _ h_ => h_.1))
    have n1_ := zA (Kd.R_elder' (by (with_reducible repeat (first | apply Kd.R_alloc | apply Kd.R_drewN | apply Kd.R_drew)); exact HO326.out) (Kd.R_base ho1) hb)
    have n2_ := zA (Kd.R_mono (Kd.R_told (Kd.R_told (Kd.R_old (by (with_reducible repeat (first | apply Kd.R_alloc | apply Kd.R_drewN | apply Kd.R_drew)); exact HO334.out) hb) (Kd.R_base ho0)) (Kd.R_base ho1)) (fun _ h_ => h_.1))
    have n3_ := zA (Kd.R_elder' (by (with_reducible repeat (first | apply Kd.R_alloc | apply Kd.R_drewN | apply Kd.R_drew)); exact HO337.out) (Kd.R_base ho1) hb)
    have n4_ := zA (Kd.R_lower (Kd.R_newB (Kd.R_new' (Kd.R_new' (Kd.R_new' (Kd.R_new' ho0 (Kd.R_lt (by (with_reducible repeat (first | apply Kd.R_alloc | apply Kd.R_drewN | apply Kd.R_drew)); exact HO323.out))) (Kd.R_lt (by (with_reducible repeat (first | apply Kd.R_alloc | apply Kd.R_drewN | apply Kd.R_drew)); exact HO326.out))) (Kd.R_lt (by (with_reducible repeat (first | apply Kd.R_alloc | apply Kd.R_drewN | apply Kd.R_drew)); exact HO334.out))) (Kd.R_lt (by (with_reducible repeat (first | apply Kd.R_alloc | apply Kd.R_drewN | apply Kd.R_drew)); exact HO337.out))) (g := gb338) (o := .cells #[.int .i64 t328, .int .i64 t329, .int .i64 t330, .string t331, .slice Ao30 t332.length co30, .slice Ao31 t335.length co31] 33 (0, 0)) (by (with_reducible repeat (first | refine zB ?_ _ | refine zD ?_ | refine zC ?_ _)); exact BK338.out)) (zR (by repeat (first | (with_reducible first | exact HB.out | apply zG | apply zE | apply zF | refine zH ?_ GE315.out | refine zH ?_ GE338.out) | exact HB.out))))
    have n5_ := zA (Kd.R_lower (Kd.R_new' (Kd.R_new' ho1 (Kd.R_lt (by (with_reducible repeat (first | apply Kd.R_alloc | apply Kd.R_drewN | apply Kd.R_drew)); exact HO326.out))) (Kd.R_lt (by (with_reducible repeat (first | apply Kd.R_alloc | apply Kd.R_drewN | apply Kd.R_drew)); exact HO337.out))) (zR (by repeat (first | (with_reducible first | exact HB.out | apply zG | apply zE | apply zF | refine zH ?_ GE315.out | refine zH ?_ GE338.out) | exact HB.out))))
    have n6_ := zA (zP (g := gb315) (o := .cells #[.int .i64 a0_0, .int .i64 a0_1, .int .i64 a0_2, .string a0_3, .slice A0_4 l0_4.length c0_4, .slice A0_5 l0_5.length c0_5] 27 (0, 0)) (by (with_reducible repeat (first | refine zB ?_ _ | refine zD ?_ | refine zC ?_ _)); exact BK315.out) hb)
    have n7_ := zA (zP (g := gb338) (o := .cells #[.int .i64 t328, .int .i64 t329, .int .i64 t330, .string t331, .slice Ao30 t332.length co30, .slice Ao31 t335.length co31] 33 (0, 0)) (by (with_reducible repeat (first | refine zB ?_ _ | refine zD ?_ | refine zC ?_ _)); exact BK338.out) hb)
    have n8_ := zA (zQ (by repeat (first | (with_reducible first | exact HB.out | apply zG | apply zE | apply zF | refine zH ?_ GE315.out | refine zH ?_ GE338.out) | exact HB.out)) hb)
    clear HO323
    clear HO326
    clear HO334
    clear HO337
    clear BK315
    clear BK338
    clear HB
    have HO323 := n0_
    have HO326 := n1_
    have HO334 := n2_
    have HO337 := n3_
    have HO346 := n4_
    have HO349 := n5_
    have BK315 := n6_
    have BK338 := n7_
    have HB := n8_
    clear n0_ n1_ n2_ n3_ n4_ n5_ n6_ n7_ n8_
    (try clear hb)
    (try clear hb2)
    (try clear hk)
    (try clear hi)
    (try clear ho0)
    (try clear ho1)
    obtain ⟨Ao35, co35, eo35⟩ := Kd.R_slice HO346.out
    (first | subst eo35 | (injection eo35 with f1_ f2_ f3_; have f4_ := f1_.symm; have f5_ := f3_.symm; clear f1_ f2_ f3_; subst f4_; subst f5_))
    obtain ⟨Ao36, co36, eo36⟩ := Kd.R_slice HO349.out
    (first | subst eo36 | (injection eo36 with f1_ f2_ f3_; have f4_ := f1_.symm; have f5_ := f3_.symm; clear f1_ f2_ f3_; subst f4_; subst f5_))
    refine hK.out _ _ ⟨(zJ BK338.out 0).trans rfl, (zJ BK338.out 1).trans rfl, (zJ BK338.out 2).trans rfl, (zJ BK338.out 3).trans rfl, (zJ BK338.out 4).trans rfl, (zJ BK338.out 5).trans rfl, (zJ BK315.out 0).trans rfl, (zJ BK315.out 1).trans rfl, (zJ BK315.out 2).trans rfl, (zJ BK315.out 3).trans rfl, (zJ BK315.out 4).trans rfl, (zJ BK315.out 5).trans rfl⟩ (fun hHeld => ?_)
    clear hK K
    refine norm_ (a' := ?_) ?_ ?_
    rotate_left
    ·show Act.put _ (some 24) _ = _
     simp only [Act.put, zL, zM, zN, i64_w, i32_w]
     rfl
    refine one_ (i := 3) (N := some 25) #[true, true, true, true, false] rfl rfl (by kernel_rfl) (by decide) (fun K hK => ?_)
    refine goes_ Tryd.func8 (by kernel_rfl) rfl #[.agg #[.int .i64 t328, .int .i64 t329, .int .i64 t330, .string t331, .slice Ao30 t332.length co30, .slice Ao31 t335.length co31], .agg #[.int .i64 t340, .int .i64 t341, .int .i64 t342, .string t343, .slice Ao35 t344.length co35, .slice Ao36 t347.length co36]] (by rfl) rfl rfl (by (try simp only [yA, yD, yE]); first | done | rfl | (simp only [yB, yC]; rfl)) ?_
    with_reducible refine (laws_eqValue.calls k t328 t329 t330 t331 _ _ t332 _ _ t335 t340 t341 t342 t343 _ _ t344 _ _ t347 true _ ?side1 ?side2 ?side3 ?side4 ?side5 ?side6 ?side7 ?side8 A15.out).mono ?_
    (case side1 => repeat (first | exact (Kd.R_reads' HO334.out).2.2 | (with_reducible refine Kd.C_alloc ?_ _) | (with_reducible refine Kd.C_drewN ?_ _) | (with_reducible refine Kd.C_drew ?_)))
    (case side2 => exact (Kd.R_reads' HO334.out).2.1)
    (case side3 => repeat (first | exact (Kd.R_reads' HO337.out).2.2 | (with_reducible refine Kd.C_alloc ?_ _) | (with_reducible refine Kd.C_drewN ?_ _) | (with_reducible refine Kd.C_drew ?_)))
    (case side4 => exact (Kd.R_reads' HO337.out).2.1)
    (case side5 => repeat (first | exact (Kd.R_reads' HO346.out).2.2 | (with_reducible refine Kd.C_alloc ?_ _) | (with_reducible refine Kd.C_drewN ?_ _) | (with_reducible refine Kd.C_drew ?_)))
    (case side6 => exact (Kd.R_reads' HO346.out).2.1)
    (case side7 => repeat (first | exact (Kd.R_reads' HO349.out).2.2 | (with_reducible refine Kd.C_alloc ?_ _) | (with_reducible refine Kd.C_drewN ?_ _) | (with_reducible refine Kd.C_drew ?_)))
    (case side8 => exact (Kd.R_reads' HO349.out).2.1)
    rintro e w37 ⟨rfl, hb⟩
    refine ⟨_, rfl, ?_⟩
    have n0_ := zA (Kd.R_below (by (with_reducible repeat (first | apply Kd.R_alloc | apply Kd.R_drewN | apply Kd.R_drew)); exact HO323.out) hb)
    have n1_ := zA (Kd.R_below (by (with_reducible repeat (first | apply Kd.R_alloc | apply Kd.R_drewN | apply Kd.R_drew)); exact HO326.out) hb)
    have n2_ := zA (Kd.R_below (by (with_reducible repeat (first | apply Kd.R_alloc | apply Kd.R_drewN | apply Kd.R_drew)); exact HO334.out) hb)
    have n3_ := zA (Kd.R_below (by (with_reducible repeat (first | apply Kd.R_alloc | apply Kd.R_drewN | apply Kd.R_drew)); exact HO337.out) hb)
    have n4_ := zA (Kd.R_below (by (with_reducible repeat (first | apply Kd.R_alloc | apply Kd.R_drewN | apply Kd.R_drew)); exact HO346.out) hb)
    have n5_ := zA (Kd.R_below (by (with_reducible repeat (first | apply Kd.R_alloc | apply Kd.R_drewN | apply Kd.R_drew)); exact HO349.out) hb)
    have n6_ := zA (zP (g := gb315) (o := .cells #[.int .i64 a0_0, .int .i64 a0_1, .int .i64 a0_2, .string a0_3, .slice A0_4 l0_4.length c0_4, .slice A0_5 l0_5.length c0_5] 27 (0, 0)) (by (with_reducible repeat (first | refine zB ?_ _ | refine zD ?_ | refine zC ?_ _)); exact BK315.out) hb)
    have n7_ := zA (zP (g := gb338) (o := .cells #[.int .i64 t328, .int .i64 t329, .int .i64 t330, .string t331, .slice Ao30 t332.length co30, .slice Ao31 t335.length co31] 33 (0, 0)) (by (with_reducible repeat (first | refine zB ?_ _ | refine zD ?_ | refine zC ?_ _)); exact BK338.out) hb)
    have n8_ := zA (zQ (by repeat (first | (with_reducible first | exact HB.out | apply zG | apply zE | apply zF | refine zH ?_ GE315.out | refine zH ?_ GE338.out) | exact HB.out)) hb)
    clear HO323
    clear HO326
    clear HO334
    clear HO337
    clear HO346
    clear HO349
    clear BK315
    clear BK338
    clear HB
    have HO323 := n0_
    have HO326 := n1_
    have HO334 := n2_
    have HO337 := n3_
    have HO346 := n4_
    have HO349 := n5_
    have BK315 := n6_
    have BK338 := n7_
    have HB := n8_
    clear n0_ n1_ n2_ n3_ n4_ n5_ n6_ n7_ n8_
    (try clear hb)
    (try clear hb2)
    (try clear hk)
    (try clear hi)
    refine hK.out _ _ ⟨(zJ BK338.out 0).trans rfl, (zJ BK338.out 1).trans rfl, (zJ BK338.out 2).trans rfl, (zJ BK338.out 3).trans rfl, (zJ BK338.out 4).trans rfl, (zJ BK338.out 5).trans rfl, (zJ BK315.out 0).trans rfl, (zJ BK315.out 1).trans rfl, (zJ BK315.out 2).trans rfl, (zJ BK315.out 3).trans rfl, (zJ BK315.out 4).trans rfl, (zJ BK315.out 5).trans rfl⟩ (fun hHeld => ?_)
    clear hK K
    refine norm_ (a' := ?_) ?_ ?_
    rotate_left
    ·show Act.put _ (some 25) _ = _
     simp only [Act.put, zL, zM, zN, i64_w, i32_w]
     rfl
    refine pure_ (i := 4) (N := some 26) (v := ?_) (a' := ?_) #[true, true, true, true, true] rfl rfl (by kernel_rfl) (fun _ _ _ h => h) (Or.inl ⟨by rfl, ?_⟩) ?_ ?_
    rotate_left
    ·intro w'
     go_simp
     with_reducible rfl
    rotate_left
    ·simp only [Act.put, zL, zM, zN, i64_w, i32_w]
     rfl
    refine done_ (by kernel_rfl) ?_
    try go_wp2
    go_ret
    exact ⟨by first | rfl | (simp [errW_none, errW_some] <;> rfl) | (simp [*, errW_none, errW_some] <;> rfl), by repeat (first | (with_reducible first | exact HB.out | apply zG | apply zE | apply zF | refine zH ?_ GE315.out | refine zH ?_ GE338.out) | exact HB.out)⟩
   ·replace c16 := Bool.eq_false_iff.mpr c16
    subst c16
    have H1 : (none) = some r := by rw [if_neg (show ¬ (false = true) by decide)] at H; exact H
    clear H
    have H := H1
    clear H1
    exact absurd H (by simp)
  ·rw [if_neg c13] at H
   exact absurd H (by simp)

end Go.Proofs.YtlmdhmfhopgekaaDoor.Q
