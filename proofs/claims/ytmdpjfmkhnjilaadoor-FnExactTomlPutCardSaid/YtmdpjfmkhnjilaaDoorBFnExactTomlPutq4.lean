-- laid by a program of this session (wip/tools) out of the translation; Lean checks it
import Derived.Test.YtmdpjfmkhnjilaaDoorBFnExactTomlPutq3
namespace Go.Proofs.YtmdpjfmkhnjilaaDoor.Q
open Go.RowKit Go.Proofs.YtmdpjfmkhnjilaaDoorW.PrintWords Go.Proofs.YtmdpjfmkhnjilaaDoorW.PrintLast Go.Proofs.YtmdpjfmkhnjilaaDoorW.PrintMore Go.Proofs.YtmdpjfmkhnjilaaDoorX
attribute [local go_sem] max2_int min2_int max_two min_two max_three min_three max_four min_four   -- for this text's walks alone
set_option linter.unusedVariables false
set_option linter.unusedSimpArgs false

mutual
def impl_toml.l0 : Nat → ByteArray → ByteArray → List (S34) → Int → Int → List Int → Int → Int → Int → ByteArray → List (S34) → List ByteArray → Option (ByteArray)
 | 0, _, _, _, _, _, _, _, _, _, _, _, _ => none
 | k + 1, x1, x5, x11, x12, x13, x997, x334000, x334001, x334002, x334003, x334004, x334005 => if x13 < x12 then (if 0 ≤ x13 then (if x13 < (x11.length : Int) then (if ((rd_T34 x11 x13).f0) = 6 then (impl_toml.l0 k x1 x5 x11 x12 (wrap64 (x13 + 1)) x997 x334000 x334001 x334002 x334003 x334004 x334005) else (if x13 < (x334005.length : Int) then (if (rdOf ByteArray.empty x334005 x13).size + 3 ≤ 9223372036854775807 then ((impl_layout.f k ((rd_T34 x11 x13).f0) ((rd_T34 x11 x13).f1.f0) ((rd_T34 x11 x13).f1.f1) ((rd_T34 x11 x13).f2) ((rd_T34 x11 x13).f3) ((rd_T34 x11 x13).f4) false (⟨#[]⟩ : ByteArray) x997).bind fun t337 => (if ((rdOf ByteArray.empty x334005 x13) ++ (⟨#[32, 61, 32]⟩ : ByteArray)).size + t337.size ≤ 9223372036854775807 then (if (((rdOf ByteArray.empty x334005 x13) ++ (⟨#[32, 61, 32]⟩ : ByteArray)) ++ t337).size + 1 ≤ 9223372036854775807 then (if x5.size + ((((rdOf ByteArray.empty x334005 x13) ++ (⟨#[32, 61, 32]⟩ : ByteArray)) ++ t337) ++ (⟨#[10]⟩ : ByteArray)).size ≤ 9223372036854775807 then (impl_toml.l0 k x1 (x5 ++ ((((rdOf ByteArray.empty x334005 x13) ++ (⟨#[32, 61, 32]⟩ : ByteArray)) ++ t337) ++ (⟨#[10]⟩ : ByteArray))) x11 x12 (wrap64 (x13 + 1)) x997 x334000 x334001 x334002 x334003 x334004 x334005) else (none)) else (none)) else (none))) else (none)) else (none))) else (none)) else (none)) else (impl_toml.l1 k x1 x5 x334004 (x334004.length : Int) 0 x997 x334000 x334001 x334002 x334003 x334004 x334005)
def impl_toml.l1 : Nat → ByteArray → ByteArray → List (S34) → Int → Int → List Int → Int → Int → Int → ByteArray → List (S34) → List ByteArray → Option (ByteArray)
 | 0, _, _, _, _, _, _, _, _, _, _, _, _ => none
 | k + 1, x1, x5, x35, x36, x37, x997, x334000, x334001, x334002, x334003, x334004, x334005 => if x37 < x36 then (if 0 ≤ x37 then (if x37 < (x35.length : Int) then (if ((rd_T34 x35 x37).f0) = 6 then (if 1 + x1.size ≤ 9223372036854775807 then (if x37 < (x334005.length : Int) then (if ((⟨#[91]⟩ : ByteArray) ++ x1).size + (rdOf ByteArray.empty x334005 x37).size ≤ 9223372036854775807 then (if (((⟨#[91]⟩ : ByteArray) ++ x1) ++ (rdOf ByteArray.empty x334005 x37)).size + 2 ≤ 9223372036854775807 then (if x1.size + (rdOf ByteArray.empty x334005 x37).size ≤ 9223372036854775807 then (if (x1 ++ (rdOf ByteArray.empty x334005 x37)).size + 1 ≤ 9223372036854775807 then ((impl_toml.f k ((rd_T34 x35 x37).f0) ((rd_T34 x35 x37).f1.f0) ((rd_T34 x35 x37).f1.f1) ((rd_T34 x35 x37).f2) ((rd_T34 x35 x37).f3) ((rd_T34 x35 x37).f4) ((x1 ++ (rdOf ByteArray.empty x334005 x37)) ++ (⟨#[46]⟩ : ByteArray)) x997).bind fun t342 => (if ((((⟨#[91]⟩ : ByteArray) ++ x1) ++ (rdOf ByteArray.empty x334005 x37)) ++ (⟨#[93, 10]⟩ : ByteArray)).size + t342.size ≤ 9223372036854775807 then (if x5.size + (((((⟨#[91]⟩ : ByteArray) ++ x1) ++ (rdOf ByteArray.empty x334005 x37)) ++ (⟨#[93, 10]⟩ : ByteArray)) ++ t342).size ≤ 9223372036854775807 then (impl_toml.l1 k x1 (x5 ++ (((((⟨#[91]⟩ : ByteArray) ++ x1) ++ (rdOf ByteArray.empty x334005 x37)) ++ (⟨#[93, 10]⟩ : ByteArray)) ++ t342)) x35 x36 (wrap64 (x37 + 1)) x997 x334000 x334001 x334002 x334003 x334004 x334005) else (none)) else (none))) else (none)) else (none)) else (none)) else (none)) else (none)) else (none)) else (impl_toml.l1 k x1 x5 x35 x36 (wrap64 (x37 + 1)) x997 x334000 x334001 x334002 x334003 x334004 x334005)) else (none)) else (none)) else (some x5)
def impl_toml.f : Nat → Int → Int → Int → ByteArray → List (S34) → List ByteArray → ByteArray → List Int → Option (ByteArray)
 | 0, _, _, _, _, _, _, _, _ => none
 | k + 1, a0_0, a0_1, a0_2, a0_3, l0_4, l0_5, a1, l2 => impl_toml.l0 k a1 (⟨#[]⟩ : ByteArray) l0_4 (l0_4.length : Int) 0 l2 a0_0 a0_1 a0_2 a0_3 l0_4 l0_5
end
theorem impl_toml.mono_l : ∀ k, (∀ y0 y1 y2 y3 y4 y5 y6 y7, LeO (impl_toml.f k y0 y1 y2 y3 y4 y5 y6 y7) (impl_toml.f (k + 1) y0 y1 y2 y3 y4 y5 y6 y7)) ∧ (∀ y0 y1 y2 y3 y4 y5 y6 y7 y8 y9 y10 y11, LeO (impl_toml.l0 k y0 y1 y2 y3 y4 y5 y6 y7 y8 y9 y10 y11) (impl_toml.l0 (k + 1) y0 y1 y2 y3 y4 y5 y6 y7 y8 y9 y10 y11)) ∧ (∀ y0 y1 y2 y3 y4 y5 y6 y7 y8 y9 y10 y11, LeO (impl_toml.l1 k y0 y1 y2 y3 y4 y5 y6 y7 y8 y9 y10 y11) (impl_toml.l1 (k + 1) y0 y1 y2 y3 y4 y5 y6 y7 y8 y9 y10 y11))
 | 0 => ⟨fun _ _ _ _ _ _ _ _ r h => by simp [impl_toml.f] at h, fun _ _ _ _ _ _ _ _ _ _ _ _ r h => by simp [impl_toml.l0] at h, fun _ _ _ _ _ _ _ _ _ _ _ _ r h => by simp [impl_toml.l1] at h⟩
 | k + 1 => by
  obtain ⟨ih0, ih1, ih2⟩ := impl_toml.mono_l k
  refine ⟨?_, ?_, ?_⟩
  ·intro y0 y1 y2 y3 y4 y5 y6 y7
   unfold impl_toml.f
   repeat' first
   | (with_reducible exact ih0 _ _ _ _ _ _ _ _)
   | (with_reducible exact ih1 _ _ _ _ _ _ _ _ _ _ _ _)
   | (with_reducible exact ih2 _ _ _ _ _ _ _ _ _ _ _ _)
   | (with_reducible exact impl_layout.mono _ _ _ _ _ _ _ _ _ _)
   | (with_reducible exact LeO.refl _)
   | (with_reducible exact LeO.none _)
   | (with_reducible refine LeO.ite ?_ ?_)
   | (with_reducible refine LeO.bind ?_ (fun _ => ?_))
   | exact ih0 _ _ _ _ _ _ _ _
   | exact ih1 _ _ _ _ _ _ _ _ _ _ _ _
   | exact ih2 _ _ _ _ _ _ _ _ _ _ _ _
  ·intro y0 y1 y2 y3 y4 y5 y6 y7 y8 y9 y10 y11
   unfold impl_toml.l0
   repeat' first
   | (with_reducible exact ih0 _ _ _ _ _ _ _ _)
   | (with_reducible exact ih1 _ _ _ _ _ _ _ _ _ _ _ _)
   | (with_reducible exact ih2 _ _ _ _ _ _ _ _ _ _ _ _)
   | (with_reducible exact impl_layout.mono _ _ _ _ _ _ _ _ _ _)
   | (with_reducible exact LeO.refl _)
   | (with_reducible exact LeO.none _)
   | (with_reducible refine LeO.ite ?_ ?_)
   | (with_reducible refine LeO.bind ?_ (fun _ => ?_))
   | exact ih0 _ _ _ _ _ _ _ _
   | exact ih1 _ _ _ _ _ _ _ _ _ _ _ _
   | exact ih2 _ _ _ _ _ _ _ _ _ _ _ _
  ·intro y0 y1 y2 y3 y4 y5 y6 y7 y8 y9 y10 y11
   unfold impl_toml.l1
   repeat' first
   | (with_reducible exact ih0 _ _ _ _ _ _ _ _)
   | (with_reducible exact ih1 _ _ _ _ _ _ _ _ _ _ _ _)
   | (with_reducible exact ih2 _ _ _ _ _ _ _ _ _ _ _ _)
   | (with_reducible exact impl_layout.mono _ _ _ _ _ _ _ _ _ _)
   | (with_reducible exact LeO.refl _)
   | (with_reducible exact LeO.none _)
   | (with_reducible refine LeO.ite ?_ ?_)
   | (with_reducible refine LeO.bind ?_ (fun _ => ?_))
   | exact ih0 _ _ _ _ _ _ _ _
   | exact ih1 _ _ _ _ _ _ _ _ _ _ _ _
   | exact ih2 _ _ _ _ _ _ _ _ _ _ _ _
theorem impl_toml.mono : ∀ a0 a1 a2 a3 a4 a5 a6 a7 k, LeO (impl_toml.f k a0 a1 a2 a3 a4 a5 a6 a7) (impl_toml.f (k + 1) a0 a1 a2 a3 a4 a5 a6 a7) := by
 intro a0 a1 a2 a3 a4 a5 a6 a7 k
 obtain ⟨ih0, ih1, ih2⟩ := impl_toml.mono_l k
 exact ih0 a0 a1 a2 a3 a4 a5 a6 a7
def impl_toml.T6 : Bool × List (List Nat × List Nat) := (true, [([], []), ([], []), ([1], [1]), ([], []), ([2, 3], [2, 3]), ([4], [4]), ([5], [5]), ([], []), ([7], [7]), ([6, 8], [6, 8]), ([9], [9]), ([0, 10], [0, 10]), ([11, 8, 0, 1, 2, 3, 4, 5, 6, 7, 8, 9, 10, 11], [0, 11])])
def impl_toml.B6 : List Nat := [0, 0, 2, 0, 14, 30, 62, 0, 128, 510, 1022, 2047, 4095]
theorem impl_toml.tab6 : rtab .any (opsOf Tryd.f19 6) = impl_toml.T6 := by kernel_rfl
theorem impl_toml.bits6 : waitsOk impl_toml.T6.2 impl_toml.B6 = true := by kernel_rfl
def impl_toml.T12 : Bool × List (List Nat × List Nat) := (true, [([], []), ([], []), ([1], [1]), ([], []), ([3], [3]), ([], []), ([4, 5], [4, 5]), ([6], [6]), ([2, 7], [2, 7]), ([8], [8]), ([], []), ([], []), ([], []), ([12], [12]), ([], []), ([13, 14], [13, 14]), ([15], [15]), ([11, 16], [11, 16]), ([17], [17]), ([10, 18], [10, 18]), ([9, 19], [9, 19]), ([0, 20], [0, 20]), ([21, 19, 0, 1, 2, 3, 4, 5, 6, 7, 8, 9, 10, 11, 12, 13, 14, 15, 16, 17, 18, 19, 20, 21], [0, 21])])
def impl_toml.B12 : List Nat := [0, 0, 2, 0, 8, 0, 56, 120, 254, 510, 0, 0, 0, 4096, 0, 28672, 61440, 129024, 260096, 523264, 1048574, 2097151, 4194303]
theorem impl_toml.tab12 : rtab .any (opsOf Tryd.f19 12) = impl_toml.T12 := by kernel_rfl
theorem impl_toml.bits12 : waitsOk impl_toml.T12.2 impl_toml.B12 = true := by kernel_rfl
set_option maxHeartbeats 8000000 in
set_option maxRecDepth 100000 in
theorem impl_toml.calls (k : Nat) : ∀ (a0_0 : Int) (a0_1 : Int) (a0_2 : Int) (a0_3 : ByteArray) (A0_4 : Option Addr) (c0_4 : Nat) (l0_4 : List (S34)) (A0_5 : Option Addr) (c0_5 : Nat) (l0_5 : List ByteArray) (a1 : ByteArray) (A2 : Option Addr) (c2 : Nat) (l2 : List Int) (r : ByteArray) (w : World) (hr0_4 : Kd.C k34 w A0_4 l0_4.length l0_4) (hc0_4 : l0_4.length ≤ c0_4) (hr0_5 : Kd.C Kd.string w A0_5 l0_5.length l0_5) (hc0_5 : l0_5.length ≤ c0_5) (hr2 : Kd.C kPow w A2 l2.length l2) (hc2 : l2.length ≤ c2) (hg2 : A2 = some ⟨2, 0, none⟩ ∧ l2 = [1]) (h : impl_toml.f k a0_0 a0_1 a0_2 a0_3 l0_4 l0_5 a1 l2 = some r),
  Calls Tryd.prog 19 #[.agg #[.int .i64 a0_0, .int .i64 a0_1, .int .i64 a0_2, .string a0_3, .slice A0_4 l0_4.length c0_4, .slice A0_5 l0_5.length c0_5], .string a1] w fun e w' => e = .returned (.string r) ∧ Below w.heap.size w w' := by
 induction k using Nat.strongRecOn with
 | _ k ih =>
 intro a0_0 a0_1 a0_2 a0_3 A0_4 c0_4 l0_4 A0_5 c0_5 l0_5 a1 A2 c2 l2 r w hr0_4 hc0_4 hr0_5 hc0_5 hr2 hc2 hg2 h
 cases k with
 | zero => exact absurd h (by simp [impl_toml.f])
 | succ k =>
 simp only [impl_toml.f] at h
 have hu34 := Tryd.underlying34
 have HR0_4 := zA hr0_4
 have HC0_4 := zA hc0_4
 clear hr0_4 hc0_4
 have HR0_5 := zA hr0_5
 have HC0_5 := zA hc0_5
 clear hr0_5 hc0_5
 have HG2 := zA hg2
 clear hg2
 have HR2 := zA hr2
 have HC2 := zA hc2
 clear hr2 hc2
 have HB := zA (yH w.heap.size w)
 have H : (impl_toml.l0 k a1 (⟨#[]⟩ : ByteArray) l0_4 (l0_4.length : Int) 0 l2 a0_0 a0_1 a0_2 a0_3 l0_4 l0_5) = some r := h
 clear h
 have H' := zA H
 clear H
 go_enter Tryd.func19, Tryd.ntmps19
 go_wp2_with (first | ((with_reducible refine zS (N := 2) rfl ?_); refine zW ?hg (N := 2) ?hd (cs := #[.int .i64 a0_0, .int .i64 a0_1, .int .i64 a0_2, .string a0_3, .slice A0_4 l0_4.length c0_4, .slice A0_5 l0_5.length c0_5]) (t := 34) ?hr ?_; (case hd => rfl); (case hg => rfl); (case hr => first | (go_simp; done) | (go_simp; rfl)); intro gb333 hg w4 hbox hb; have n0_ := zA (zP apA hb); have n1_ := zA (hbox); have n2_ := zA ((by rw [hg]; exact (zQ apA) : w.heap.size ≤ gb333)); have n3_ := zA ((by rw [hg]; exact (zQ apA) : w.heap.size ≤ gb333)); clear HB; have HB := n0_; have BK333 := n1_; have GW333 := n2_; have GE333 := n3_; clear n0_ n1_ n2_ n3_; clear hb hbox hg; obtain ⟨hcz5_0, hcz5_1, hcz5_2, hcz5_3, hcz5_4, hcz5_5, hfz5_0, hfz5_1, hfz5_2, hfz5_3, hfz5_4, hfz5_5⟩ := zb6 BK333.out))
 go_loopg [5, 13] k (fun kq v5 v13 w' => ∃ (x5_1 : ByteArray) (x13_1 : Int), v5 = .string x5_1 ∧ v13 = .int .i64 x13_1 ∧ Aside0 (impl_toml.l0 kq a1 x5_1 l0_4 (l0_4.length : Int) x13_1 l2 a0_0 a0_1 a0_2 a0_3 l0_4 l0_5 = some r) ∧ Aside0 (kq ≤ k) ∧ Aside0 (w'.heap[gb333]? = some (.cells #[.int .i64 a0_0, .int .i64 a0_1, .int .i64 a0_2, .string a0_3, (.slice A0_4 l0_4.length c0_4), (.slice A0_5 l0_5.length c0_5)] 34 (0, 0))) ∧ Aside0 (Below w.heap.size w w'))
 case atStart => exact ⟨((⟨#[]⟩ : ByteArray)), (0), apC, apC, H', ⟨yJ _⟩, ⟨apO⟩, ⟨apQ⟩⟩
 case round =>
  clear H'
  try clear c1 c2 p2 hcz5_0 hcz5_1 hcz5_2 hcz5_3 hcz5_4 hcz5_5 hfz5_0 hfz5_1 hfz5_2 hfz5_3 hfz5_4 hfz5_5
  obtain ⟨x5_1, x13_1, rfl, rfl, HA, HK1, BK333, HB⟩ := hrel
  cases gk with
  | zero => exact absurd HA.out (by simp [impl_toml.l0])
  | succ k1 =>
   have H := HA.out
   clear HA
   simp only [impl_toml.l0] at H
   by_cases c6 : x13_1 < (l0_4.length : Int)
   ·rw [if_pos c6] at H
    have c6b0 : decide (x13_1 < (l0_4.length : Int)) = true := yE c6
    clear c6
    by_cases c7 : 0 ≤ x13_1
    ·rw [if_pos c7] at H
     have c7b0 : decide (0 ≤ x13_1) = true := yE c7
     clear c7
     by_cases c8 : x13_1 < (l0_4.length : Int)
     ·rw [if_pos c8] at H
      have c8b0 : decide (x13_1 < (l0_4.length : Int)) = true := yE c8
      clear c8
      by_cases c9 : ((rd_T34 l0_4 x13_1).f0) = 6
      ·rw [if_pos c9] at H
       have c9b0 : (((rd_T34 l0_4 x13_1).f0) == 6) = true := beq_iff_eq.mpr c9
       have c9b1 : (((rd_T34 l0_4 x13_1).f0) != 6) = false := bne_eq_false_iff_eq.mpr c9
       clear c9
       have H' := zA H
       clear H
       have p334 : 0 ≤ (x13_1 : Int) := yF apB
       have q334 : x13_1 < (l0_4.length : Int) := yF apB
       obtain ⟨ad334, A334_4, c334_4, A334_5, c334_5, e334, hx334_0, hx334_1, hx334_2, hx334_3, hx334_4, hx334_5, hl334_4, hi334_4, hl334_5, hi334_5⟩ := at_T34 HR0_4.out x13_1 p334 q334
       cases e334
       replace hx334_0 := (HB.out.cell (zR w _ hx334_0)).trans hx334_0
       replace hx334_1 := (HB.out.cell (zR w _ hx334_1)).trans hx334_1
       replace hx334_2 := (HB.out.cell (zR w _ hx334_2)).trans hx334_2
       replace hx334_3 := (HB.out.cell (zR w _ hx334_3)).trans hx334_3
       replace hx334_4 := (HB.out.cell (zR w _ hx334_4)).trans hx334_4
       replace hx334_5 := (HB.out.cell (zR w _ hx334_5)).trans hx334_5
       have HR334_4 := zA hi334_4
       have HC334_4 := zA hl334_4
       clear hi334_4 hl334_4
       have HR334_5 := zA hi334_5
       have HC334_5 := zA hl334_5
       clear hi334_5 hl334_5
       replace p334 := eq_true p334
       replace q334 := eq_true q334
       go_wp2_with (first | ((with_reducible refine zS (N := 7) rfl ?_); refine zW ?hg (N := 7) ?hd (cs := #[.int .i64 0, .int .i64 0, .int .i64 0, .string (⟨#[]⟩ : ByteArray), .slice none 0 0, .slice none 0 0]) (t := 34) ?hr ?_; (case hd => rfl); (case hg => rfl); (case hr => first | (go_simp; done) | (go_simp; rfl)); intro gb335 hg w10 hbox hb; have n0_ := zA (zN (g := gb333) (o := .cells #[.int .i64 a0_0, .int .i64 a0_1, .int .i64 a0_2, .string a0_3, .slice (some ad334) l0_4.length c0_4, .slice A0_5 l0_5.length c0_5] 34 (0, 0)) apO hb); have n1_ := zA (zP apQ hb); have n2_ := zA (hbox); have n3_ := zA ((by rw [hg]; exact (zQ apQ) : w.heap.size ≤ gb335)); have n4_ := zA ((by rw [hg]; exact (zQ apQ) : w.heap.size ≤ gb335)); have n5_ := zA ((by rw [hg]; exact Nat.ne_of_lt (blk_lt (g := gb333) (o := .cells #[.int .i64 a0_0, .int .i64 a0_1, .int .i64 a0_2, .string a0_3, .slice (some ad334) l0_4.length c0_4, .slice A0_5 l0_5.length c0_5] 34 (0, 0)) apO) : gb333 ≠ gb335)); have n6_ := zA ((by rw [hg]; exact Nat.ne_of_gt (blk_lt (g := gb333) (o := .cells #[.int .i64 a0_0, .int .i64 a0_1, .int .i64 a0_2, .string a0_3, .slice (some ad334) l0_4.length c0_4, .slice A0_5 l0_5.length c0_5] 34 (0, 0)) apO) : gb335 ≠ gb333)); clear BK333; clear HB; have BK333 := n0_; have HB := n1_; have BK335 := n2_; have GW335 := n3_; have GE335 := n4_; have NB333_335 := n5_; have NB335_333 := n6_; clear n0_ n1_ n2_ n3_ n4_ n5_ n6_; clear hb hbox hg; have hnb11 := NB335_333.out; have hnc11 := NB333_335.out; obtain ⟨hcz12_0, hcz12_1, hcz12_2, hcz12_3, hcz12_4, hcz12_5, hfz12_0, hfz12_1, hfz12_2, hfz12_3, hfz12_4, hfz12_5⟩ := zb6 BK335.out))
       go_roundg k1
       case measure => have := HK1.out; omega
       case rel => exact ⟨(x5_1), (wrap64 (x13_1 + 1)), apC, apC, H', ⟨by have := HK1.out; omega⟩, ⟨by (with_reducible repeat (first | refine zB ?_ _ | refine zD ?_ | refine zC ?_ _)); refine blk_far ?_ NB333_335.out _; (with_reducible repeat (first | refine zB ?_ _ | refine zD ?_ | refine zC ?_ _)); refine blk_far ?_ NB333_335.out _; (with_reducible repeat (first | refine zB ?_ _ | refine zD ?_ | refine zC ?_ _)); refine blk_far ?_ NB333_335.out _; (with_reducible repeat (first | refine zB ?_ _ | refine zD ?_ | refine zC ?_ _)); refine blk_far ?_ NB333_335.out _; (with_reducible repeat (first | refine zB ?_ _ | refine zD ?_ | refine zC ?_ _)); refine blk_far ?_ NB333_335.out _; (with_reducible repeat (first | refine zB ?_ _ | refine zD ?_ | refine zC ?_ _)); refine blk_far ?_ NB333_335.out _; (with_reducible repeat (first | refine zB ?_ _ | refine zD ?_ | refine zC ?_ _)); exact BK333.out⟩, ⟨by repeat (first | (with_reducible first | exact HB.out | apply zG | apply zE | apply zF | refine zH ?_ GE333.out | refine zH ?_ GE335.out) | exact HB.out)⟩⟩
      ·rw [if_neg c9] at H
       have c9b0 : (((rd_T34 l0_4 x13_1).f0) == 6) = false := beq_eq_false_iff_ne.mpr c9
       have c9b1 : (((rd_T34 l0_4 x13_1).f0) != 6) = true := bne_iff_ne.mpr c9
       by_cases c13 : x13_1 < (l0_5.length : Int)
       ·rw [if_pos c13] at H
        have c13b0 : decide (x13_1 < (l0_5.length : Int)) = true := yE c13
        clear c13
        by_cases c14 : (rdOf ByteArray.empty l0_5 x13_1).size + 3 ≤ 9223372036854775807
        ·rw [if_pos c14] at H
         have c14b0 := eq_true c14
         have c14b1 : decide ((rdOf ByteArray.empty l0_5 x13_1).size + 3 ≤ 9223372036854775807) = true := yE c14
         try have c14b2 : (9223372036854775807 < (rdOf ByteArray.empty l0_5 x13_1).size + 3) = False := eq_false (Nat.not_lt.2 c14)
         replace H := Option.bind_eq_some_iff.mp H
         obtain ⟨t337, A150, H⟩ := H
         have A15 := zA A150
         clear A150
         by_cases c16 : ((rdOf ByteArray.empty l0_5 x13_1) ++ (⟨#[32, 61, 32]⟩ : ByteArray)).size + t337.size ≤ 9223372036854775807
         ·rw [if_pos c16] at H
          (try (have c16b9 := eq_true c16; simp only [ByteArray.size_append, Int.natCast_add, show ((⟨#[32, 61, 32]⟩ : ByteArray)).size = 3 from rfl] at c16b9))
          (try (have c16b8 := eq_false (Nat.not_lt.2 c16); simp only [ByteArray.size_append, show ((⟨#[32, 61, 32]⟩ : ByteArray)).size = 3 from rfl] at c16b8))
          have c16b0 := eq_true c16
          have c16b1 : decide (((rdOf ByteArray.empty l0_5 x13_1) ++ (⟨#[32, 61, 32]⟩ : ByteArray)).size + t337.size ≤ 9223372036854775807) = true := yE c16
          try have c16b2 : (9223372036854775807 < ((rdOf ByteArray.empty l0_5 x13_1) ++ (⟨#[32, 61, 32]⟩ : ByteArray)).size + t337.size) = False := eq_false (Nat.not_lt.2 c16)
          try simp only [ByteArray.size_append] at c16b2
          by_cases c17 : (((rdOf ByteArray.empty l0_5 x13_1) ++ (⟨#[32, 61, 32]⟩ : ByteArray)) ++ t337).size + 1 ≤ 9223372036854775807
          ·rw [if_pos c17] at H
           (try (have c17b9 := eq_true c17; simp only [ByteArray.size_append, Int.natCast_add, show ((⟨#[32, 61, 32]⟩ : ByteArray)).size = 3 from rfl] at c17b9))
           (try (have c17b8 := eq_false (Nat.not_lt.2 c17); simp only [ByteArray.size_append, show ((⟨#[32, 61, 32]⟩ : ByteArray)).size = 3 from rfl] at c17b8))
           have c17b0 := eq_true c17
           have c17b1 : decide ((((rdOf ByteArray.empty l0_5 x13_1) ++ (⟨#[32, 61, 32]⟩ : ByteArray)) ++ t337).size + 1 ≤ 9223372036854775807) = true := yE c17
           try have c17b2 : (9223372036854775807 < (((rdOf ByteArray.empty l0_5 x13_1) ++ (⟨#[32, 61, 32]⟩ : ByteArray)) ++ t337).size + 1) = False := eq_false (Nat.not_lt.2 c17)
           try simp only [ByteArray.size_append] at c17b2
           by_cases c18 : x5_1.size + ((((rdOf ByteArray.empty l0_5 x13_1) ++ (⟨#[32, 61, 32]⟩ : ByteArray)) ++ t337) ++ (⟨#[10]⟩ : ByteArray)).size ≤ 9223372036854775807
           ·rw [if_pos c18] at H
            (try (have c18b9 := eq_true c18; simp only [ByteArray.size_append, Int.natCast_add, show ((⟨#[32, 61, 32]⟩ : ByteArray)).size = 3 from rfl, show ((⟨#[10]⟩ : ByteArray)).size = 1 from rfl] at c18b9))
            (try (have c18b8 := eq_false (Nat.not_lt.2 c18); simp only [ByteArray.size_append, show ((⟨#[32, 61, 32]⟩ : ByteArray)).size = 3 from rfl, show ((⟨#[10]⟩ : ByteArray)).size = 1 from rfl] at c18b8))
            have c18b0 := eq_true c18
            have c18b1 : decide (x5_1.size + ((((rdOf ByteArray.empty l0_5 x13_1) ++ (⟨#[32, 61, 32]⟩ : ByteArray)) ++ t337) ++ (⟨#[10]⟩ : ByteArray)).size ≤ 9223372036854775807) = true := yE c18
            try have c18b2 : (9223372036854775807 < x5_1.size + ((((rdOf ByteArray.empty l0_5 x13_1) ++ (⟨#[32, 61, 32]⟩ : ByteArray)) ++ t337) ++ (⟨#[10]⟩ : ByteArray)).size) = False := eq_false (Nat.not_lt.2 c18)
            try simp only [ByteArray.size_append] at c18b2
            have H' := zA H
            clear H
            have p334 : 0 ≤ (x13_1 : Int) := yF apB
            have q334 : x13_1 < (l0_4.length : Int) := yF apB
            obtain ⟨ad334, A334_4, c334_4, A334_5, c334_5, e334, hx334_0, hx334_1, hx334_2, hx334_3, hx334_4, hx334_5, hl334_4, hi334_4, hl334_5, hi334_5⟩ := at_T34 HR0_4.out x13_1 p334 q334
            cases e334
            replace hx334_0 := (HB.out.cell (zR w _ hx334_0)).trans hx334_0
            replace hx334_1 := (HB.out.cell (zR w _ hx334_1)).trans hx334_1
            replace hx334_2 := (HB.out.cell (zR w _ hx334_2)).trans hx334_2
            replace hx334_3 := (HB.out.cell (zR w _ hx334_3)).trans hx334_3
            replace hx334_4 := (HB.out.cell (zR w _ hx334_4)).trans hx334_4
            replace hx334_5 := (HB.out.cell (zR w _ hx334_5)).trans hx334_5
            have HR334_4 := zA hi334_4
            have HC334_4 := zA hl334_4
            clear hi334_4 hl334_4
            have HR334_5 := zA hi334_5
            have HC334_5 := zA hl334_5
            clear hi334_5 hl334_5
            replace p334 := eq_true p334
            replace q334 := eq_true q334
            try go_wp2_with (first | ((with_reducible refine zS (N := 7) rfl ?_); refine zW ?hg (N := 7) ?hd (cs := #[.int .i64 0, .int .i64 0, .int .i64 0, .string (⟨#[]⟩ : ByteArray), .slice none 0 0, .slice none 0 0]) (t := 34) ?hr ?_; (case hd => rfl); (case hg => rfl); (case hr => first | (go_simp; done) | (go_simp; rfl)); intro gb335 hg w19 hbox hb; have n0_ := zA (zN (g := gb333) (o := .cells #[.int .i64 a0_0, .int .i64 a0_1, .int .i64 a0_2, .string a0_3, .slice (some ad334) l0_4.length c0_4, .slice A0_5 l0_5.length c0_5] 34 (0, 0)) apO hb); have n1_ := zA (zP apQ hb); have n2_ := zA (hbox); have n3_ := zA ((by rw [hg]; exact (zQ apQ) : w.heap.size ≤ gb335)); have n4_ := zA ((by rw [hg]; exact (zQ apQ) : w.heap.size ≤ gb335)); have n5_ := zA ((by rw [hg]; exact Nat.ne_of_lt (blk_lt (g := gb333) (o := .cells #[.int .i64 a0_0, .int .i64 a0_1, .int .i64 a0_2, .string a0_3, .slice (some ad334) l0_4.length c0_4, .slice A0_5 l0_5.length c0_5] 34 (0, 0)) apO) : gb333 ≠ gb335)); have n6_ := zA ((by rw [hg]; exact Nat.ne_of_gt (blk_lt (g := gb333) (o := .cells #[.int .i64 a0_0, .int .i64 a0_1, .int .i64 a0_2, .string a0_3, .slice (some ad334) l0_4.length c0_4, .slice A0_5 l0_5.length c0_5] 34 (0, 0)) apO) : gb335 ≠ gb333)); clear BK333; clear HB; have BK333 := n0_; have HB := n1_; have BK335 := n2_; have GW335 := n3_; have GE335 := n4_; have NB333_335 := n5_; have NB335_333 := n6_; clear n0_ n1_ n2_ n3_ n4_ n5_ n6_; clear hb hbox hg; have hnb20 := NB335_333.out; have hnc20 := NB333_335.out; obtain ⟨hcz21_0, hcz21_1, hcz21_2, hcz21_3, hcz21_4, hcz21_5, hfz21_0, hfz21_1, hfz21_2, hfz21_3, hfz21_4, hfz21_5⟩ := zb6 BK335.out))
            have n0_ : Aside0 (((((((w19.setCell ⟨gb335, 0, none⟩ (.int .i64 ((rd_T34 l0_4 x13_1).f0))).setCell ⟨gb335, 1, none⟩ (.int .i64 ((rd_T34 l0_4 x13_1).f1.f0))).setCell ⟨gb335, 2, none⟩ (.int .i64 ((rd_T34 l0_4 x13_1).f1.f1))).setCell ⟨gb335, 3, none⟩ (.string ((rd_T34 l0_4 x13_1).f2))).setCell ⟨gb335, 4, none⟩ (.slice A334_4 ((rd_T34 l0_4 x13_1).f3).length c334_4)).setCell ⟨gb335, 5, none⟩ (.slice A334_5 ((rd_T34 l0_4 x13_1).f4).length c334_5)).heap[gb333]? = some (.cells #[.int .i64 a0_0, .int .i64 a0_1, .int .i64 a0_2, .string a0_3, .slice (some ad334) l0_4.length c0_4, .slice A0_5 l0_5.length c0_5] 34 (0, 0))) := ⟨by (with_reducible repeat (first | refine zB ?_ _ | refine zD ?_ | refine zC ?_ _)); refine blk_far ?_ NB333_335.out _; (with_reducible repeat (first | refine zB ?_ _ | refine zD ?_ | refine zC ?_ _)); refine blk_far ?_ NB333_335.out _; (with_reducible repeat (first | refine zB ?_ _ | refine zD ?_ | refine zC ?_ _)); refine blk_far ?_ NB333_335.out _; (with_reducible repeat (first | refine zB ?_ _ | refine zD ?_ | refine zC ?_ _)); refine blk_far ?_ NB333_335.out _; (with_reducible repeat (first | refine zB ?_ _ | refine zD ?_ | refine zC ?_ _)); refine blk_far ?_ NB333_335.out _; (with_reducible repeat (first | refine zB ?_ _ | refine zD ?_ | refine zC ?_ _)); refine blk_far ?_ NB333_335.out _; (with_reducible repeat (first | refine zB ?_ _ | refine zD ?_ | refine zC ?_ _)); exact BK333.out⟩
            have n1_ : Aside0 (((((((w19.setCell ⟨gb335, 0, none⟩ (.int .i64 ((rd_T34 l0_4 x13_1).f0))).setCell ⟨gb335, 1, none⟩ (.int .i64 ((rd_T34 l0_4 x13_1).f1.f0))).setCell ⟨gb335, 2, none⟩ (.int .i64 ((rd_T34 l0_4 x13_1).f1.f1))).setCell ⟨gb335, 3, none⟩ (.string ((rd_T34 l0_4 x13_1).f2))).setCell ⟨gb335, 4, none⟩ (.slice A334_4 ((rd_T34 l0_4 x13_1).f3).length c334_4)).setCell ⟨gb335, 5, none⟩ (.slice A334_5 ((rd_T34 l0_4 x13_1).f4).length c334_5)).heap[gb335]? = some (.cells #[.int .i64 ((rd_T34 l0_4 x13_1).f0), .int .i64 ((rd_T34 l0_4 x13_1).f1.f0), .int .i64 ((rd_T34 l0_4 x13_1).f1.f1), .string ((rd_T34 l0_4 x13_1).f2), .slice A334_4 ((rd_T34 l0_4 x13_1).f3).length c334_4, .slice A334_5 ((rd_T34 l0_4 x13_1).f4).length c334_5] 34 (0, 0))) := ⟨by (with_reducible repeat (first | refine zB ?_ _ | refine zD ?_ | refine zC ?_ _)); refine blk_put (cs := #[.int .i64 ((rd_T34 l0_4 x13_1).f0), .int .i64 ((rd_T34 l0_4 x13_1).f1.f0), .int .i64 ((rd_T34 l0_4 x13_1).f1.f1), .string ((rd_T34 l0_4 x13_1).f2), .slice A334_4 ((rd_T34 l0_4 x13_1).f3).length c334_4, .slice none 0 0]) ?_ 5 _ rfl; (with_reducible repeat (first | refine zB ?_ _ | refine zD ?_ | refine zC ?_ _)); refine blk_put (cs := #[.int .i64 ((rd_T34 l0_4 x13_1).f0), .int .i64 ((rd_T34 l0_4 x13_1).f1.f0), .int .i64 ((rd_T34 l0_4 x13_1).f1.f1), .string ((rd_T34 l0_4 x13_1).f2), .slice none 0 0, .slice none 0 0]) ?_ 4 _ rfl; (with_reducible repeat (first | refine zB ?_ _ | refine zD ?_ | refine zC ?_ _)); refine blk_put (cs := #[.int .i64 ((rd_T34 l0_4 x13_1).f0), .int .i64 ((rd_T34 l0_4 x13_1).f1.f0), .int .i64 ((rd_T34 l0_4 x13_1).f1.f1), .string (⟨#[]⟩ : ByteArray), .slice none 0 0, .slice none 0 0]) ?_ 3 _ rfl; (with_reducible repeat (first | refine zB ?_ _ | refine zD ?_ | refine zC ?_ _)); refine blk_put (cs := #[.int .i64 ((rd_T34 l0_4 x13_1).f0), .int .i64 ((rd_T34 l0_4 x13_1).f1.f0), .int .i64 0, .string (⟨#[]⟩ : ByteArray), .slice none 0 0, .slice none 0 0]) ?_ 2 _ rfl; (with_reducible repeat (first | refine zB ?_ _ | refine zD ?_ | refine zC ?_ _)); refine blk_put (cs := #[.int .i64 ((rd_T34 l0_4 x13_1).f0), .int .i64 0, .int .i64 0, .string (⟨#[]⟩ : ByteArray), .slice none 0 0, .slice none 0 0]) ?_ 1 _ rfl; (with_reducible repeat (first | refine zB ?_ _ | refine zD ?_ | refine zC ?_ _)); refine blk_put (cs := #[.int .i64 0, .int .i64 0, .int .i64 0, .string (⟨#[]⟩ : ByteArray), .slice none 0 0, .slice none 0 0]) ?_ 0 _ rfl; (with_reducible repeat (first | refine zB ?_ _ | refine zD ?_ | refine zC ?_ _)); exact BK335.out⟩
            have n2_ : Aside0 (Below w.heap.size w ((((((w19.setCell ⟨gb335, 0, none⟩ (.int .i64 ((rd_T34 l0_4 x13_1).f0))).setCell ⟨gb335, 1, none⟩ (.int .i64 ((rd_T34 l0_4 x13_1).f1.f0))).setCell ⟨gb335, 2, none⟩ (.int .i64 ((rd_T34 l0_4 x13_1).f1.f1))).setCell ⟨gb335, 3, none⟩ (.string ((rd_T34 l0_4 x13_1).f2))).setCell ⟨gb335, 4, none⟩ (.slice A334_4 ((rd_T34 l0_4 x13_1).f3).length c334_4)).setCell ⟨gb335, 5, none⟩ (.slice A334_5 ((rd_T34 l0_4 x13_1).f4).length c334_5))) := ⟨by repeat (first | (with_reducible first | exact HB.out | apply zG | apply zE | apply zF | refine zH ?_ GE333.out | refine zH ?_ GE335.out) | exact HB.out)⟩
            (try clear BK333)
            (try clear BK335)
            (try clear HB)
            generalize ((((((w19.setCell ⟨gb335, 0, none⟩ (.int .i64 ((rd_T34 l0_4 x13_1).f0))).setCell ⟨gb335, 1, none⟩ (.int .i64 ((rd_T34 l0_4 x13_1).f1.f0))).setCell ⟨gb335, 2, none⟩ (.int .i64 ((rd_T34 l0_4 x13_1).f1.f1))).setCell ⟨gb335, 3, none⟩ (.string ((rd_T34 l0_4 x13_1).f2))).setCell ⟨gb335, 4, none⟩ (.slice A334_4 ((rd_T34 l0_4 x13_1).f3).length c334_4)).setCell ⟨gb335, 5, none⟩ (.slice A334_5 ((rd_T34 l0_4 x13_1).f4).length c334_5)) = w22 at n0_ n1_ n2_ ⊢
            have BK333 := n0_
            have BK335 := n1_
            have HB := n2_
            clear n0_ n1_ n2_
            have n0_ := zA (zD BK333.out)
            have n1_ := zA (zD BK335.out)
            have n2_ := zA (zF HB.out)
            clear BK333
            clear BK335
            clear HB
            have BK333 := n0_
            have BK335 := n1_
            have HB := n2_
            clear n0_ n1_ n2_
            have p336 : 0 ≤ (x13_1 : Int) := yF apB
            have q336 : x13_1 < (l0_5.length : Int) := yF apB
            obtain ⟨ad336, e336, hx336_0⟩ := Kd.at_string HR0_5.out x13_1 p336 q336
            have hw336_0 := hx336_0
            cases e336
            replace hx336_0 := (HB.out.cell (zR w _ hx336_0)).trans hx336_0
            replace p336 := eq_true p336
            replace q336 := eq_true q336
            refine start_ (n := 13) (S := fun w' => w'.cell? ⟨gb333, 0, none⟩ = some (.int .i64 a0_0) ∧ w'.cell? ⟨gb333, 1, none⟩ = some (.int .i64 a0_1) ∧ w'.cell? ⟨gb333, 2, none⟩ = some (.int .i64 a0_2) ∧ w'.cell? ⟨gb333, 3, none⟩ = some (.string a0_3) ∧ w'.cell? ⟨gb333, 4, none⟩ = some (.slice (some ad334) l0_4.length c0_4) ∧ w'.cell? ⟨gb333, 5, none⟩ = some (.slice (some ad336) l0_5.length c0_5) ∧ w'.cell? ⟨gb335, 0, none⟩ = some (.int .i64 ((rd_T34 l0_4 x13_1).f0)) ∧ w'.cell? ⟨gb335, 1, none⟩ = some (.int .i64 ((rd_T34 l0_4 x13_1).f1.f0)) ∧ w'.cell? ⟨gb335, 2, none⟩ = some (.int .i64 ((rd_T34 l0_4 x13_1).f1.f1)) ∧ w'.cell? ⟨gb335, 3, none⟩ = some (.string ((rd_T34 l0_4 x13_1).f2)) ∧ w'.cell? ⟨gb335, 4, none⟩ = some (.slice A334_4 ((rd_T34 l0_4 x13_1).f3).length c334_4) ∧ w'.cell? ⟨gb335, 5, none⟩ = some (.slice A334_5 ((rd_T34 l0_4 x13_1).f4).length c334_5) ∧ w'.cell? (ad336.add (x13_1).toNat) = some (.string (rdOf ByteArray.empty l0_5 x13_1))) (ds := []) #[false, false, false, false, false, false, false, false, false, false, false, false, false] (by kernel_rfl) rfl rfl ⟨(zJ BK333.out 0).trans rfl, (zJ BK333.out 1).trans rfl, (zJ BK333.out 2).trans rfl, (zJ BK333.out 3).trans rfl, (zJ BK333.out 4).trans rfl, (zJ BK333.out 5).trans rfl, (zJ BK335.out 0).trans rfl, (zJ BK335.out 1).trans rfl, (zJ BK335.out 2).trans rfl, (zJ BK335.out 3).trans rfl, (zJ BK335.out 4).trans rfl, (zJ BK335.out 5).trans rfl, ((HB.out.cell (zR w _ hw336_0)).trans hw336_0)⟩ (fun hHeld => ?_); refine with_tabW impl_toml.tab6 impl_toml.bits6 (fun HT_ HW_ => ?_)
            generalize w22.drew = w23 at BK333 BK335 HB hx336_0 hHeld ⊢
            refine pure_ (i := 0) (N := some 21) (v := ?_) (a' := ?_) #[true, false, false, false, false, false, false, false, false, false, false, false, false] rfl rfl (any_of HT_.out (by kernel_rfl)) (fun _ _ _ h => h) (Or.inl ⟨by rfl, ?_⟩) ?_ ?_
            rotate_left
            ·intro w'
             go_simp
             with_reducible rfl
            rotate_left
            ·simp only [Act.put, zK, zL, zM, i64_w, i32_w]
             rfl
            refine pure_ (i := 1) (N := some 22) (v := ?_) (a' := ?_) #[true, true, false, false, false, false, false, false, false, false, false, false, false] rfl rfl (any_of HT_.out (by kernel_rfl)) (fun _ _ _ h => h) (Or.inl ⟨by rfl, ?_⟩) ?_ ?_
            rotate_left
            ·intro w'
             go_simp
             with_reducible rfl
            rotate_left
            ·simp only [Act.put, zK, zL, zM, i64_w, i32_w]
             rfl
            refine pure_ (i := 3) (N := some 24) (v := ?_) (a' := ?_) #[true, true, false, true, false, false, false, false, false, false, false, false, false] rfl rfl (any_of HT_.out (by kernel_rfl)) (fun _ _ _ h => h) (Or.inl ⟨by rfl, ?_⟩) ?_ ?_
            rotate_left
            ·intro w'
             go_simp
             with_reducible rfl
            rotate_left
            ·simp only [Act.put, zK, zL, zM, i64_w, i32_w]
             rfl
            refine take_ (i := 2) (N := some 23) (v := ?_) (a' := ?_) #[true, true, true, true, false, false, false, false, false, false, false, false, false] rfl rfl (take_ofW HT_.out HW_.out (by kernel_rfl)) (fun _ _ _ h => h) (Or.inl ⟨by rfl, ?_⟩) hHeld ?_ ?_
            rotate_left
            ·rintro w' ⟨s0, s1, s2, s3, s4, s5, s6, s7, s8, s9, s10, s11, s12⟩
             go_simp
             with_reducible rfl
            rotate_left
            ·simp only [Act.put, zK, zL, zM, i64_w, i32_w]
             rfl
            refine pure_ (i := 4) (N := some 25) (v := ?_) (a' := ?_) #[true, true, true, true, true, false, false, false, false, false, false, false, false] rfl rfl (any_of HT_.out (by kernel_rfl)) (fun _ _ _ h => h) (Or.inl ⟨by rfl, ?_⟩) ?_ ?_
            rotate_left
            ·intro w'
             go_simp
             with_reducible rfl
            rotate_left
            ·simp only [Act.put, zK, zL, zM, i64_w, i32_w]
             rfl
            refine take_ (i := 5) (N := some 26) (v := ?_) (a' := ?_) #[true, true, true, true, true, true, false, false, false, false, false, false, false] rfl rfl (take_ofW HT_.out HW_.out (by kernel_rfl)) (fun _ _ _ h => h) (Or.inl ⟨by rfl, ?_⟩) hHeld ?_ ?_
            rotate_left
            ·rintro w' ⟨s0, s1, s2, s3, s4, s5, s6, s7, s8, s9, s10, s11, s12⟩
             go_simp
             with_reducible rfl
            rotate_left
            ·simp only [Act.put, zK, zL, zM, i64_w, i32_w]
             rfl
            refine pure_ (i := 6) (N := some 27) (v := ?_) (a' := ?_) #[true, true, true, true, true, true, true, false, false, false, false, false, false] rfl rfl (any_of HT_.out (by kernel_rfl)) (fun _ _ _ h => h) (Or.inl ⟨by rfl, ?_⟩) ?_ ?_
            rotate_left
            ·intro w'
             go_simp
             with_reducible rfl
            rotate_left
            ·simp only [Act.put, zK, zL, zM, i64_w, i32_w]
             rfl
            refine take_ (i := 7) (N := some 28) (v := ?_) (a' := ?_) #[true, true, true, true, true, true, true, true, false, false, false, false, false] rfl rfl (take_ofW HT_.out HW_.out (by kernel_rfl)) (fun _ _ _ h => h) (Or.inl ⟨by rfl, ?_⟩) hHeld ?_ ?_
            rotate_left
            ·rintro w' ⟨s0, s1, s2, s3, s4, s5, s6, s7, s8, s9, s10, s11, s12⟩
             go_simp
             with_reducible rfl
            rotate_left
            ·simp only [Act.put, zK, zL, zM, i64_w, i32_w]
             rfl
            refine one_ (i := 8) (N := some 29) #[true, true, true, true, true, true, true, true, true, false, false, false, false] rfl rfl (one_of HT_.out (by kernel_rfl)) (by decide) (fun K hK => ?_)
            refine goes_ Tryd.func33 (by kernel_rfl) rfl #[.agg #[.int .i64 ((rd_T34 l0_4 x13_1).f0), .int .i64 ((rd_T34 l0_4 x13_1).f1.f0), .int .i64 ((rd_T34 l0_4 x13_1).f1.f1), .string ((rd_T34 l0_4 x13_1).f2), .slice A334_4 ((rd_T34 l0_4 x13_1).f3).length c334_4, .slice A334_5 ((rd_T34 l0_4 x13_1).f4).length c334_5], .bool false, .string (⟨#[]⟩ : ByteArray)] (by rfl) rfl rfl apE ?_
            with_reducible refine (impl_layout.calls k1 ((rd_T34 l0_4 x13_1).f0) ((rd_T34 l0_4 x13_1).f1.f0) ((rd_T34 l0_4 x13_1).f1.f1) ((rd_T34 l0_4 x13_1).f2) _ _ ((rd_T34 l0_4 x13_1).f3) _ _ ((rd_T34 l0_4 x13_1).f4) false (⟨#[]⟩ : ByteArray) A2 c2 l2 t337 _ ?side1 ?side2 ?side3 ?side4 ?side5 ?side6 ?side7 A15.out).mono ?_
            (case side1 => repeat (first | exact (Kd.C_below HR334_4.out HB.out) | (with_reducible refine Kd.C_alloc ?_ _) | (with_reducible refine Kd.C_drewN ?_ _) | (with_reducible refine Kd.C_drew ?_)))
            (case side2 => exact HC334_4.out)
            (case side3 => repeat (first | exact (Kd.C_below HR334_5.out HB.out) | (with_reducible refine Kd.C_alloc ?_ _) | (with_reducible refine Kd.C_drewN ?_ _) | (with_reducible refine Kd.C_drew ?_)))
            (case side4 => exact HC334_5.out)
            (case side5 => repeat (first | exact (Kd.C_below HR2.out HB.out) | (with_reducible refine Kd.C_alloc ?_ _) | (with_reducible refine Kd.C_drewN ?_ _) | (with_reducible refine Kd.C_drew ?_)))
            (case side6 => exact HC2.out)
            (case side7 => exact HG2.out)
            rintro e w24 ⟨rfl, hb⟩
            refine ⟨_, rfl, ?_⟩
            have n0_ := zA (zN (g := gb333) (o := .cells #[.int .i64 a0_0, .int .i64 a0_1, .int .i64 a0_2, .string a0_3, .slice (some ad334) l0_4.length c0_4, .slice (some ad336) l0_5.length c0_5] 34 (0, 0)) apO hb)
            have n1_ := zA (zN (g := gb335) (o := .cells #[.int .i64 ((rd_T34 l0_4 x13_1).f0), .int .i64 ((rd_T34 l0_4 x13_1).f1.f0), .int .i64 ((rd_T34 l0_4 x13_1).f1.f1), .string ((rd_T34 l0_4 x13_1).f2), .slice A334_4 ((rd_T34 l0_4 x13_1).f3).length c334_4, .slice A334_5 ((rd_T34 l0_4 x13_1).f4).length c334_5] 34 (0, 0)) (by (with_reducible repeat (first | refine zB ?_ _ | refine zD ?_ | refine zC ?_ _)); exact BK335.out) hb)
            have n2_ := zA (zP (by repeat (first | (with_reducible first | exact HB.out | apply zG | apply zE | apply zF | refine zH ?_ GE333.out | refine zH ?_ GE335.out) | exact HB.out)) hb)
            clear BK333
            clear BK335
            clear HB
            have BK333 := n0_
            have BK335 := n1_
            have HB := n2_
            clear n0_ n1_ n2_
            (try clear hb)
            (try clear hb2)
            (try clear hk)
            (try clear hi)
            refine hK.out _ _ ⟨(zJ BK333.out 0).trans rfl, (zJ BK333.out 1).trans rfl, (zJ BK333.out 2).trans rfl, (zJ BK333.out 3).trans rfl, (zJ BK333.out 4).trans rfl, (zJ BK333.out 5).trans rfl, (zJ BK335.out 0).trans rfl, (zJ BK335.out 1).trans rfl, (zJ BK335.out 2).trans rfl, (zJ BK335.out 3).trans rfl, (zJ BK335.out 4).trans rfl, (zJ BK335.out 5).trans rfl, ((HB.out.cell (zR w _ hw336_0)).trans hw336_0)⟩ (fun hHeld => ?_)
            clear hK K
            refine norm_ (a' := ?_) ?_ ?_
            rotate_left
            ·show Act.put _ (some 29) _ = _
             simp only [Act.put, zK, zL, zM, i64_w, i32_w]
             rfl
            refine pure_ (i := 9) (N := some 30) (v := ?_) (a' := ?_) #[true, true, true, true, true, true, true, true, true, true, false, false, false] rfl rfl (any_of HT_.out (by kernel_rfl)) (fun _ _ _ h => h) (Or.inl ⟨by rfl, ?_⟩) ?_ ?_
            rotate_left
            ·intro w'
             go_simp
             with_reducible rfl
            rotate_left
            ·simp only [Act.put, zK, zL, zM, i64_w, i32_w]
             rfl
            refine pure_ (i := 10) (N := some 31) (v := ?_) (a' := ?_) #[true, true, true, true, true, true, true, true, true, true, true, false, false] rfl rfl (any_of HT_.out (by kernel_rfl)) (fun _ _ _ h => h) (Or.inl ⟨by rfl, ?_⟩) ?_ ?_
            rotate_left
            ·intro w'
             go_simp
             with_reducible rfl
            rotate_left
            ·simp only [Act.put, zK, zL, zM, i64_w, i32_w]
             rfl
            refine pure_ (i := 11) (N := some 32) (v := ?_) (a' := ?_) #[true, true, true, true, true, true, true, true, true, true, true, true, false] rfl rfl (any_of HT_.out (by kernel_rfl)) (fun _ _ _ h => h) (Or.inl ⟨by rfl, ?_⟩) ?_ ?_
            rotate_left
            ·intro w'
             go_simp
             with_reducible rfl
            rotate_left
            ·simp only [Act.put, zK, zL, zM, i64_w, i32_w]
             rfl
            refine pure_ (i := 12) (N := some 5) (v := ?_) (a' := ?_) #[true, true, true, true, true, true, true, true, true, true, true, true, true] rfl rfl (any_of HT_.out (by kernel_rfl)) (fun _ _ _ h => h) (Or.inl ⟨by rfl, ?_⟩) ?_ ?_
            rotate_left
            ·intro w'
             go_simp
             with_reducible rfl
            rotate_left
            ·simp only [Act.put, zK, zL, zM, i64_w, i32_w]
             rfl
            refine done_ (done_of HT_.out (by kernel_rfl)) ?_
            try go_wp2
            go_roundg k1
            case measure => have := HK1.out; omega
            case rel => exact ⟨(x5_1 ++ ((((rdOf ByteArray.empty l0_5 x13_1) ++ (⟨#[32, 61, 32]⟩ : ByteArray)) ++ t337) ++ (⟨#[10]⟩ : ByteArray))), (wrap64 (x13_1 + 1)), apC, apC, H', ⟨by have := HK1.out; omega⟩, ⟨apO⟩, ⟨by repeat (first | (with_reducible first | exact HB.out | apply zG | apply zE | apply zF | refine zH ?_ GE333.out | refine zH ?_ GE335.out) | exact HB.out)⟩⟩
           ·rw [if_neg c18] at H
            exact absurd H (by simp)
          ·rw [if_neg c17] at H
           exact absurd H (by simp)
         ·rw [if_neg c16] at H
          exact absurd H (by simp)
        ·rw [if_neg c14] at H
         exact absurd H (by simp)
       ·rw [if_neg c13] at H
        exact absurd H (by simp)
     ·rw [if_neg c8] at H
      exact absurd H (by simp)
    ·rw [if_neg c7] at H
     exact absurd H (by simp)
   ·rw [if_neg c6] at H
    have c6b0 : decide (x13_1 < (l0_4.length : Int)) = false := decide_eq_false c6
    clear c6
    have H' := zA H
    clear H
    obtain ⟨hcz25_0, hcz25_1, hcz25_2, hcz25_3, hcz25_4, hcz25_5, hfz25_0, hfz25_1, hfz25_2, hfz25_3, hfz25_4, hfz25_5⟩ := zb6 BK333.out
    go_wp2
    go_loopg [5, 37] k1 (fun kq v5 v37 w' => ∃ (x5_2 : ByteArray) (x37_2 : Int), v5 = .string x5_2 ∧ v37 = .int .i64 x37_2 ∧ Aside0 (impl_toml.l1 kq a1 x5_2 l0_4 (l0_4.length : Int) x37_2 l2 a0_0 a0_1 a0_2 a0_3 l0_4 l0_5 = some r) ∧ Aside0 (kq ≤ k1) ∧ Aside0 (w'.heap[gb333]? = some (.cells #[.int .i64 a0_0, .int .i64 a0_1, .int .i64 a0_2, .string a0_3, (.slice A0_4 l0_4.length c0_4), (.slice A0_5 l0_5.length c0_5)] 34 (0, 0))) ∧ Aside0 (Below w.heap.size w w'))
    case atStart => exact ⟨(x5_1), (0), apC, apC, H', ⟨yJ _⟩, ⟨apO⟩, ⟨apQ⟩⟩
    case round =>
     clear H'
     try clear c1 c2 p2 c3 p3 q3 hx3 c6 c6b0 p6 c7 c7b0 c8 c8b0 c9 c9b0 c9b1 c11 c13 c13b0 c14 c14b0 c14b1 c14b2 c16 c16b0 c16b1 c16b2 c17 c17b0 c17b1 c17b2 c18 c18b0 c18b1 c18b2 c19 c20 hcz12_0 hcz12_1 hcz12_2 hcz12_3 hcz12_4 hcz12_5 hcz21_0 hcz21_1 hcz21_2 hcz21_3 hcz21_4 hcz21_5 hcz25_0 hcz25_1 hcz25_2 hcz25_3 hcz25_4 hcz25_5 hcz5_0 hcz5_1 hcz5_2 hcz5_3 hcz5_4 hcz5_5 hfz12_0 hfz12_1 hfz12_2 hfz12_3 hfz12_4 hfz12_5 hfz21_0 hfz21_1 hfz21_2 hfz21_3 hfz21_4 hfz21_5 hfz25_0 hfz25_1 hfz25_2 hfz25_3 hfz25_4 hfz25_5 hfz5_0 hfz5_1 hfz5_2 hfz5_3 hfz5_4 hfz5_5 hx334_0 hx334_1 hx334_2 hx334_3 hx334_4 hx334_5 hx336_0 p2 p334 p336 q334 q336
     obtain ⟨x5_2, x37_2, rfl, rfl, HA, HK2, BK333, HB⟩ := hrel
     cases gk with
     | zero => exact absurd HA.out (by simp [impl_toml.l1])
     | succ k2 =>
      have H := HA.out
      clear HA
      simp only [impl_toml.l1] at H
      by_cases c26 : x37_2 < (l0_4.length : Int)
      ·rw [if_pos c26] at H
       have c26b0 : decide (x37_2 < (l0_4.length : Int)) = true := yE c26
       clear c26
       by_cases c27 : 0 ≤ x37_2
       ·rw [if_pos c27] at H
        have c27b0 : decide (0 ≤ x37_2) = true := yE c27
        clear c27
        by_cases c28 : x37_2 < (l0_4.length : Int)
        ·rw [if_pos c28] at H
         have c28b0 : decide (x37_2 < (l0_4.length : Int)) = true := yE c28
         clear c28
         by_cases c29 : ((rd_T34 l0_4 x37_2).f0) = 6
         ·rw [if_pos c29] at H
          have c29b0 : (((rd_T34 l0_4 x37_2).f0) == 6) = true := beq_iff_eq.mpr c29
          have c29b1 : (((rd_T34 l0_4 x37_2).f0) != 6) = false := bne_eq_false_iff_eq.mpr c29
          clear c29
          by_cases c30 : 1 + a1.size ≤ 9223372036854775807
          ·rw [if_pos c30] at H
           have c30b0 := eq_true c30
           have c30b1 : decide (1 + a1.size ≤ 9223372036854775807) = true := yE c30
           try have c30b2 : (9223372036854775807 < 1 + a1.size) = False := eq_false (Nat.not_lt.2 c30)
           by_cases c31 : x37_2 < (l0_5.length : Int)
           ·rw [if_pos c31] at H
            have c31b0 : decide (x37_2 < (l0_5.length : Int)) = true := yE c31
            clear c31
            by_cases c32 : ((⟨#[91]⟩ : ByteArray) ++ a1).size + (rdOf ByteArray.empty l0_5 x37_2).size ≤ 9223372036854775807
            ·rw [if_pos c32] at H
             (try (have c32b9 := eq_true c32; simp only [ByteArray.size_append, Int.natCast_add, show ((⟨#[91]⟩ : ByteArray)).size = 1 from rfl] at c32b9))
             (try (have c32b8 := eq_false (Nat.not_lt.2 c32); simp only [ByteArray.size_append, show ((⟨#[91]⟩ : ByteArray)).size = 1 from rfl] at c32b8))
             have c32b0 := eq_true c32
             have c32b1 : decide (((⟨#[91]⟩ : ByteArray) ++ a1).size + (rdOf ByteArray.empty l0_5 x37_2).size ≤ 9223372036854775807) = true := yE c32
             try have c32b2 : (9223372036854775807 < ((⟨#[91]⟩ : ByteArray) ++ a1).size + (rdOf ByteArray.empty l0_5 x37_2).size) = False := eq_false (Nat.not_lt.2 c32)
             try simp only [ByteArray.size_append] at c32b2
             by_cases c33 : (((⟨#[91]⟩ : ByteArray) ++ a1) ++ (rdOf ByteArray.empty l0_5 x37_2)).size + 2 ≤ 9223372036854775807
             ·rw [if_pos c33] at H
              (try (have c33b9 := eq_true c33; simp only [ByteArray.size_append, Int.natCast_add, show ((⟨#[91]⟩ : ByteArray)).size = 1 from rfl] at c33b9))
              (try (have c33b8 := eq_false (Nat.not_lt.2 c33); simp only [ByteArray.size_append, show ((⟨#[91]⟩ : ByteArray)).size = 1 from rfl] at c33b8))
              have c33b0 := eq_true c33
              have c33b1 : decide ((((⟨#[91]⟩ : ByteArray) ++ a1) ++ (rdOf ByteArray.empty l0_5 x37_2)).size + 2 ≤ 9223372036854775807) = true := yE c33
              try have c33b2 : (9223372036854775807 < (((⟨#[91]⟩ : ByteArray) ++ a1) ++ (rdOf ByteArray.empty l0_5 x37_2)).size + 2) = False := eq_false (Nat.not_lt.2 c33)
              try simp only [ByteArray.size_append] at c33b2
              by_cases c34 : a1.size + (rdOf ByteArray.empty l0_5 x37_2).size ≤ 9223372036854775807
              ·rw [if_pos c34] at H
               have c34b0 := eq_true c34
               have c34b1 : decide (a1.size + (rdOf ByteArray.empty l0_5 x37_2).size ≤ 9223372036854775807) = true := yE c34
               try have c34b2 : (9223372036854775807 < a1.size + (rdOf ByteArray.empty l0_5 x37_2).size) = False := eq_false (Nat.not_lt.2 c34)
               by_cases c35 : (a1 ++ (rdOf ByteArray.empty l0_5 x37_2)).size + 1 ≤ 9223372036854775807
               ·rw [if_pos c35] at H
                have c35b0 := eq_true c35
                have c35b1 : decide ((a1 ++ (rdOf ByteArray.empty l0_5 x37_2)).size + 1 ≤ 9223372036854775807) = true := yE c35
                try have c35b2 : (9223372036854775807 < (a1 ++ (rdOf ByteArray.empty l0_5 x37_2)).size + 1) = False := eq_false (Nat.not_lt.2 c35)
                try simp only [ByteArray.size_append] at c35b2
                replace H := Option.bind_eq_some_iff.mp H
                obtain ⟨t342, A360, H⟩ := H
                have A36 := zA A360
                clear A360
                by_cases c37 : ((((⟨#[91]⟩ : ByteArray) ++ a1) ++ (rdOf ByteArray.empty l0_5 x37_2)) ++ (⟨#[93, 10]⟩ : ByteArray)).size + t342.size ≤ 9223372036854775807
                ·rw [if_pos c37] at H
                 (try (have c37b9 := eq_true c37; simp only [ByteArray.size_append, Int.natCast_add, show ((⟨#[91]⟩ : ByteArray)).size = 1 from rfl, show ((⟨#[93, 10]⟩ : ByteArray)).size = 2 from rfl] at c37b9))
                 (try (have c37b8 := eq_false (Nat.not_lt.2 c37); simp only [ByteArray.size_append, show ((⟨#[91]⟩ : ByteArray)).size = 1 from rfl, show ((⟨#[93, 10]⟩ : ByteArray)).size = 2 from rfl] at c37b8))
                 have c37b0 := eq_true c37
                 have c37b1 : decide (((((⟨#[91]⟩ : ByteArray) ++ a1) ++ (rdOf ByteArray.empty l0_5 x37_2)) ++ (⟨#[93, 10]⟩ : ByteArray)).size + t342.size ≤ 9223372036854775807) = true := yE c37
                 try have c37b2 : (9223372036854775807 < ((((⟨#[91]⟩ : ByteArray) ++ a1) ++ (rdOf ByteArray.empty l0_5 x37_2)) ++ (⟨#[93, 10]⟩ : ByteArray)).size + t342.size) = False := eq_false (Nat.not_lt.2 c37)
                 try simp only [ByteArray.size_append] at c37b2
                 by_cases c38 : x5_2.size + (((((⟨#[91]⟩ : ByteArray) ++ a1) ++ (rdOf ByteArray.empty l0_5 x37_2)) ++ (⟨#[93, 10]⟩ : ByteArray)) ++ t342).size ≤ 9223372036854775807
                 ·rw [if_pos c38] at H
                  (try (have c38b9 := eq_true c38; simp only [ByteArray.size_append, Int.natCast_add, show ((⟨#[91]⟩ : ByteArray)).size = 1 from rfl, show ((⟨#[93, 10]⟩ : ByteArray)).size = 2 from rfl] at c38b9))
                  (try (have c38b8 := eq_false (Nat.not_lt.2 c38); simp only [ByteArray.size_append, show ((⟨#[91]⟩ : ByteArray)).size = 1 from rfl, show ((⟨#[93, 10]⟩ : ByteArray)).size = 2 from rfl] at c38b8))
                  have c38b0 := eq_true c38
                  have c38b1 : decide (x5_2.size + (((((⟨#[91]⟩ : ByteArray) ++ a1) ++ (rdOf ByteArray.empty l0_5 x37_2)) ++ (⟨#[93, 10]⟩ : ByteArray)) ++ t342).size ≤ 9223372036854775807) = true := yE c38
                  try have c38b2 : (9223372036854775807 < x5_2.size + (((((⟨#[91]⟩ : ByteArray) ++ a1) ++ (rdOf ByteArray.empty l0_5 x37_2)) ++ (⟨#[93, 10]⟩ : ByteArray)) ++ t342).size) = False := eq_false (Nat.not_lt.2 c38)
                  try simp only [ByteArray.size_append] at c38b2
                  have H' := zA H
                  clear H
                  have p338 : 0 ≤ (x37_2 : Int) := yF apB
                  have q338 : x37_2 < (l0_4.length : Int) := yF apB
                  obtain ⟨ad338, A338_4, c338_4, A338_5, c338_5, e338, hx338_0, hx338_1, hx338_2, hx338_3, hx338_4, hx338_5, hl338_4, hi338_4, hl338_5, hi338_5⟩ := at_T34 HR0_4.out x37_2 p338 q338
                  cases e338
                  replace hx338_0 := (HB.out.cell (zR w _ hx338_0)).trans hx338_0
                  replace hx338_1 := (HB.out.cell (zR w _ hx338_1)).trans hx338_1
                  replace hx338_2 := (HB.out.cell (zR w _ hx338_2)).trans hx338_2
                  replace hx338_3 := (HB.out.cell (zR w _ hx338_3)).trans hx338_3
                  replace hx338_4 := (HB.out.cell (zR w _ hx338_4)).trans hx338_4
                  replace hx338_5 := (HB.out.cell (zR w _ hx338_5)).trans hx338_5
                  have HR338_4 := zA hi338_4
                  have HC338_4 := zA hl338_4
                  clear hi338_4 hl338_4
                  have HR338_5 := zA hi338_5
                  have HC338_5 := zA hl338_5
                  clear hi338_5 hl338_5
                  replace p338 := eq_true p338
                  replace q338 := eq_true q338
                  try go_wp2_with (first | ((with_reducible refine zS (N := 9) rfl ?_); refine zW ?hg (N := 9) ?hd (cs := #[.int .i64 0, .int .i64 0, .int .i64 0, .string (⟨#[]⟩ : ByteArray), .slice none 0 0, .slice none 0 0]) (t := 34) ?hr ?_; (case hd => rfl); (case hg => rfl); (case hr => first | (go_simp; done) | (go_simp; rfl)); intro gb339 hg w39 hbox hb; have n0_ := zA (zN (g := gb333) (o := .cells #[.int .i64 a0_0, .int .i64 a0_1, .int .i64 a0_2, .string a0_3, .slice (some ad338) l0_4.length c0_4, .slice A0_5 l0_5.length c0_5] 34 (0, 0)) apO hb); have n1_ := zA (zP apQ hb); have n2_ := zA (hbox); have n3_ := zA ((by rw [hg]; exact (zQ apQ) : w.heap.size ≤ gb339)); have n4_ := zA ((by rw [hg]; exact (zQ apQ) : w.heap.size ≤ gb339)); have n5_ := zA ((by rw [hg]; exact Nat.ne_of_lt (blk_lt (g := gb333) (o := .cells #[.int .i64 a0_0, .int .i64 a0_1, .int .i64 a0_2, .string a0_3, .slice (some ad338) l0_4.length c0_4, .slice A0_5 l0_5.length c0_5] 34 (0, 0)) apO) : gb333 ≠ gb339)); have n6_ := zA ((by rw [hg]; exact Nat.ne_of_gt (blk_lt (g := gb333) (o := .cells #[.int .i64 a0_0, .int .i64 a0_1, .int .i64 a0_2, .string a0_3, .slice (some ad338) l0_4.length c0_4, .slice A0_5 l0_5.length c0_5] 34 (0, 0)) apO) : gb339 ≠ gb333)); clear BK333; clear HB; have BK333 := n0_; have HB := n1_; have BK339 := n2_; have GW339 := n3_; have GE339 := n4_; have NB333_339 := n5_; have NB339_333 := n6_; clear n0_ n1_ n2_ n3_ n4_ n5_ n6_; clear hb hbox hg; have hnb40 := NB339_333.out; have hnc40 := NB333_339.out; obtain ⟨hcz41_0, hcz41_1, hcz41_2, hcz41_3, hcz41_4, hcz41_5, hfz41_0, hfz41_1, hfz41_2, hfz41_3, hfz41_4, hfz41_5⟩ := zb6 BK339.out))
                  have n0_ : Aside0 (((((((w39.setCell ⟨gb339, 0, none⟩ (.int .i64 ((rd_T34 l0_4 x37_2).f0))).setCell ⟨gb339, 1, none⟩ (.int .i64 ((rd_T34 l0_4 x37_2).f1.f0))).setCell ⟨gb339, 2, none⟩ (.int .i64 ((rd_T34 l0_4 x37_2).f1.f1))).setCell ⟨gb339, 3, none⟩ (.string ((rd_T34 l0_4 x37_2).f2))).setCell ⟨gb339, 4, none⟩ (.slice A338_4 ((rd_T34 l0_4 x37_2).f3).length c338_4)).setCell ⟨gb339, 5, none⟩ (.slice A338_5 ((rd_T34 l0_4 x37_2).f4).length c338_5)).heap[gb333]? = some (.cells #[.int .i64 a0_0, .int .i64 a0_1, .int .i64 a0_2, .string a0_3, .slice (some ad338) l0_4.length c0_4, .slice A0_5 l0_5.length c0_5] 34 (0, 0))) := ⟨by (with_reducible repeat (first | refine zB ?_ _ | refine zD ?_ | refine zC ?_ _)); refine blk_far ?_ NB333_339.out _; (with_reducible repeat (first | refine zB ?_ _ | refine zD ?_ | refine zC ?_ _)); refine blk_far ?_ NB333_339.out _; (with_reducible repeat (first | refine zB ?_ _ | refine zD ?_ | refine zC ?_ _)); refine blk_far ?_ NB333_339.out _; (with_reducible repeat (first | refine zB ?_ _ | refine zD ?_ | refine zC ?_ _)); refine blk_far ?_ NB333_339.out _; (with_reducible repeat (first | refine zB ?_ _ | refine zD ?_ | refine zC ?_ _)); refine blk_far ?_ NB333_339.out _; (with_reducible repeat (first | refine zB ?_ _ | refine zD ?_ | refine zC ?_ _)); refine blk_far ?_ NB333_339.out _; (with_reducible repeat (first | refine zB ?_ _ | refine zD ?_ | refine zC ?_ _)); exact BK333.out⟩
                  have n1_ : Aside0 (((((((w39.setCell ⟨gb339, 0, none⟩ (.int .i64 ((rd_T34 l0_4 x37_2).f0))).setCell ⟨gb339, 1, none⟩ (.int .i64 ((rd_T34 l0_4 x37_2).f1.f0))).setCell ⟨gb339, 2, none⟩ (.int .i64 ((rd_T34 l0_4 x37_2).f1.f1))).setCell ⟨gb339, 3, none⟩ (.string ((rd_T34 l0_4 x37_2).f2))).setCell ⟨gb339, 4, none⟩ (.slice A338_4 ((rd_T34 l0_4 x37_2).f3).length c338_4)).setCell ⟨gb339, 5, none⟩ (.slice A338_5 ((rd_T34 l0_4 x37_2).f4).length c338_5)).heap[gb339]? = some (.cells #[.int .i64 ((rd_T34 l0_4 x37_2).f0), .int .i64 ((rd_T34 l0_4 x37_2).f1.f0), .int .i64 ((rd_T34 l0_4 x37_2).f1.f1), .string ((rd_T34 l0_4 x37_2).f2), .slice A338_4 ((rd_T34 l0_4 x37_2).f3).length c338_4, .slice A338_5 ((rd_T34 l0_4 x37_2).f4).length c338_5] 34 (0, 0))) := ⟨by (with_reducible repeat (first | refine zB ?_ _ | refine zD ?_ | refine zC ?_ _)); refine blk_put (cs := #[.int .i64 ((rd_T34 l0_4 x37_2).f0), .int .i64 ((rd_T34 l0_4 x37_2).f1.f0), .int .i64 ((rd_T34 l0_4 x37_2).f1.f1), .string ((rd_T34 l0_4 x37_2).f2), .slice A338_4 ((rd_T34 l0_4 x37_2).f3).length c338_4, .slice none 0 0]) ?_ 5 _ rfl; (with_reducible repeat (first | refine zB ?_ _ | refine zD ?_ | refine zC ?_ _)); refine blk_put (cs := #[.int .i64 ((rd_T34 l0_4 x37_2).f0), .int .i64 ((rd_T34 l0_4 x37_2).f1.f0), .int .i64 ((rd_T34 l0_4 x37_2).f1.f1), .string ((rd_T34 l0_4 x37_2).f2), .slice none 0 0, .slice none 0 0]) ?_ 4 _ rfl; (with_reducible repeat (first | refine zB ?_ _ | refine zD ?_ | refine zC ?_ _)); refine blk_put (cs := #[.int .i64 ((rd_T34 l0_4 x37_2).f0), .int .i64 ((rd_T34 l0_4 x37_2).f1.f0), .int .i64 ((rd_T34 l0_4 x37_2).f1.f1), .string (⟨#[]⟩ : ByteArray), .slice none 0 0, .slice none 0 0]) ?_ 3 _ rfl; (with_reducible repeat (first | refine zB ?_ _ | refine zD ?_ | refine zC ?_ _)); refine blk_put (cs := #[.int .i64 ((rd_T34 l0_4 x37_2).f0), .int .i64 ((rd_T34 l0_4 x37_2).f1.f0), .int .i64 0, .string (⟨#[]⟩ : ByteArray), .slice none 0 0, .slice none 0 0]) ?_ 2 _ rfl; (with_reducible repeat (first | refine zB ?_ _ | refine zD ?_ | refine zC ?_ _)); refine blk_put (cs := #[.int .i64 ((rd_T34 l0_4 x37_2).f0), .int .i64 0, .int .i64 0, .string (⟨#[]⟩ : ByteArray), .slice none 0 0, .slice none 0 0]) ?_ 1 _ rfl; (with_reducible repeat (first | refine zB ?_ _ | refine zD ?_ | refine zC ?_ _)); refine blk_put (cs := #[.int .i64 0, .int .i64 0, .int .i64 0, .string (⟨#[]⟩ : ByteArray), .slice none 0 0, .slice none 0 0]) ?_ 0 _ rfl; (with_reducible repeat (first | refine zB ?_ _ | refine zD ?_ | refine zC ?_ _)); exact BK339.out⟩
                  have n2_ : Aside0 (Below w.heap.size w ((((((w39.setCell ⟨gb339, 0, none⟩ (.int .i64 ((rd_T34 l0_4 x37_2).f0))).setCell ⟨gb339, 1, none⟩ (.int .i64 ((rd_T34 l0_4 x37_2).f1.f0))).setCell ⟨gb339, 2, none⟩ (.int .i64 ((rd_T34 l0_4 x37_2).f1.f1))).setCell ⟨gb339, 3, none⟩ (.string ((rd_T34 l0_4 x37_2).f2))).setCell ⟨gb339, 4, none⟩ (.slice A338_4 ((rd_T34 l0_4 x37_2).f3).length c338_4)).setCell ⟨gb339, 5, none⟩ (.slice A338_5 ((rd_T34 l0_4 x37_2).f4).length c338_5))) := ⟨by repeat (first | (with_reducible first | exact HB.out | apply zG | apply zE | apply zF | refine zH ?_ GE333.out | refine zH ?_ GE339.out) | exact HB.out)⟩
                  (try clear BK333)
                  (try clear BK339)
                  (try clear HB)
                  generalize ((((((w39.setCell ⟨gb339, 0, none⟩ (.int .i64 ((rd_T34 l0_4 x37_2).f0))).setCell ⟨gb339, 1, none⟩ (.int .i64 ((rd_T34 l0_4 x37_2).f1.f0))).setCell ⟨gb339, 2, none⟩ (.int .i64 ((rd_T34 l0_4 x37_2).f1.f1))).setCell ⟨gb339, 3, none⟩ (.string ((rd_T34 l0_4 x37_2).f2))).setCell ⟨gb339, 4, none⟩ (.slice A338_4 ((rd_T34 l0_4 x37_2).f3).length c338_4)).setCell ⟨gb339, 5, none⟩ (.slice A338_5 ((rd_T34 l0_4 x37_2).f4).length c338_5)) = w42 at n0_ n1_ n2_ ⊢
                  have BK333 := n0_
                  have BK339 := n1_
                  have HB := n2_
                  clear n0_ n1_ n2_
                  have n0_ := zA (zD BK333.out)
                  have n1_ := zA (zD BK339.out)
                  have n2_ := zA (zF HB.out)
                  clear BK333
                  clear BK339
                  clear HB
                  have BK333 := n0_
                  have BK339 := n1_
                  have HB := n2_
                  clear n0_ n1_ n2_
                  have p340 : 0 ≤ (x37_2 : Int) := yF apB
                  have q340 : x37_2 < (l0_5.length : Int) := yF apB
                  obtain ⟨ad340, e340, hx340_0⟩ := Kd.at_string HR0_5.out x37_2 p340 q340
                  have hw340_0 := hx340_0
                  cases e340
                  replace hx340_0 := (HB.out.cell (zR w _ hx340_0)).trans hx340_0
                  replace p340 := eq_true p340
                  replace q340 := eq_true q340
                  have p341 : 0 ≤ (x37_2 : Int) := yF apB
                  have q341 : x37_2 < (l0_5.length : Int) := yF apB
                  obtain ⟨ad341, e341, hx341_0⟩ := Kd.at_string HR0_5.out x37_2 p341 q341
                  have hw341_0 := hx341_0
                  obtain rfl : ad340 = ad341 := (by injection e341)
                  replace hx341_0 := (HB.out.cell (zR w _ hx341_0)).trans hx341_0
                  replace p341 := eq_true p341
                  replace q341 := eq_true q341
                  refine start_ (n := 23) (S := fun w' => w'.cell? ⟨gb333, 0, none⟩ = some (.int .i64 a0_0) ∧ w'.cell? ⟨gb333, 1, none⟩ = some (.int .i64 a0_1) ∧ w'.cell? ⟨gb333, 2, none⟩ = some (.int .i64 a0_2) ∧ w'.cell? ⟨gb333, 3, none⟩ = some (.string a0_3) ∧ w'.cell? ⟨gb333, 4, none⟩ = some (.slice (some ad338) l0_4.length c0_4) ∧ w'.cell? ⟨gb333, 5, none⟩ = some (.slice (some ad340) l0_5.length c0_5) ∧ w'.cell? ⟨gb339, 0, none⟩ = some (.int .i64 ((rd_T34 l0_4 x37_2).f0)) ∧ w'.cell? ⟨gb339, 1, none⟩ = some (.int .i64 ((rd_T34 l0_4 x37_2).f1.f0)) ∧ w'.cell? ⟨gb339, 2, none⟩ = some (.int .i64 ((rd_T34 l0_4 x37_2).f1.f1)) ∧ w'.cell? ⟨gb339, 3, none⟩ = some (.string ((rd_T34 l0_4 x37_2).f2)) ∧ w'.cell? ⟨gb339, 4, none⟩ = some (.slice A338_4 ((rd_T34 l0_4 x37_2).f3).length c338_4) ∧ w'.cell? ⟨gb339, 5, none⟩ = some (.slice A338_5 ((rd_T34 l0_4 x37_2).f4).length c338_5) ∧ w'.cell? (ad340.add (x37_2).toNat) = some (.string (rdOf ByteArray.empty l0_5 x37_2)) ∧ w'.cell? (ad340.add (x37_2).toNat) = some (.string (rdOf ByteArray.empty l0_5 x37_2))) (ds := []) #[false, false, false, false, false, false, false, false, false, false, false, false, false, false, false, false, false, false, false, false, false, false, false] (by kernel_rfl) rfl rfl ⟨(zJ BK333.out 0).trans rfl, (zJ BK333.out 1).trans rfl, (zJ BK333.out 2).trans rfl, (zJ BK333.out 3).trans rfl, (zJ BK333.out 4).trans rfl, (zJ BK333.out 5).trans rfl, (zJ BK339.out 0).trans rfl, (zJ BK339.out 1).trans rfl, (zJ BK339.out 2).trans rfl, (zJ BK339.out 3).trans rfl, (zJ BK339.out 4).trans rfl, (zJ BK339.out 5).trans rfl, ((HB.out.cell (zR w _ hw340_0)).trans hw340_0), ((HB.out.cell (zR w _ hw341_0)).trans hw341_0)⟩ (fun hHeld => ?_); refine with_tabW impl_toml.tab12 impl_toml.bits12 (fun HT_ HW_ => ?_)
                  generalize w42.drew = w43 at BK333 BK339 HB hx340_0 hx341_0 hHeld ⊢
                  refine pure_ (i := 0) (N := some 45) (v := ?_) (a' := ?_) #[true, false, false, false, false, false, false, false, false, false, false, false, false, false, false, false, false, false, false, false, false, false, false] rfl rfl (any_of HT_.out (by kernel_rfl)) (fun _ _ _ h => h) (Or.inl ⟨by rfl, ?_⟩) ?_ ?_
                  rotate_left
                  ·intro w'
                   go_simp
                   with_reducible rfl
                  rotate_left
                  ·simp only [Act.put, zK, zL, zM, i64_w, i32_w]
                   rfl
                  refine pure_ (i := 1) (N := some 46) (v := ?_) (a' := ?_) #[true, true, false, false, false, false, false, false, false, false, false, false, false, false, false, false, false, false, false, false, false, false, false] rfl rfl (any_of HT_.out (by kernel_rfl)) (fun _ _ _ h => h) (Or.inl ⟨by rfl, ?_⟩) ?_ ?_
                  rotate_left
                  ·intro w'
                   go_simp
                   with_reducible rfl
                  rotate_left
                  ·simp only [Act.put, zK, zL, zM, i64_w, i32_w]
                   rfl
                  refine pure_ (i := 2) (N := some 47) (v := ?_) (a' := ?_) #[true, true, true, false, false, false, false, false, false, false, false, false, false, false, false, false, false, false, false, false, false, false, false] rfl rfl (any_of HT_.out (by kernel_rfl)) (fun _ _ _ h => h) (Or.inl ⟨by rfl, ?_⟩) ?_ ?_
                  rotate_left
                  ·intro w'
                   go_simp
                   with_reducible rfl
                  rotate_left
                  ·simp only [Act.put, zK, zL, zM, i64_w, i32_w]
                   rfl
                  refine pure_ (i := 3) (N := some 48) (v := ?_) (a' := ?_) #[true, true, true, true, false, false, false, false, false, false, false, false, false, false, false, false, false, false, false, false, false, false, false] rfl rfl (any_of HT_.out (by kernel_rfl)) (fun _ _ _ h => h) (Or.inl ⟨by rfl, ?_⟩) ?_ ?_
                  rotate_left
                  ·intro w'
                   go_simp
                   with_reducible rfl
                  rotate_left
                  ·simp only [Act.put, zK, zL, zM, i64_w, i32_w]
                   rfl
                  refine pure_ (i := 5) (N := some 50) (v := ?_) (a' := ?_) #[true, true, true, true, false, true, false, false, false, false, false, false, false, false, false, false, false, false, false, false, false, false, false] rfl rfl (any_of HT_.out (by kernel_rfl)) (fun _ _ _ h => h) (Or.inl ⟨by rfl, ?_⟩) ?_ ?_
                  rotate_left
                  ·intro w'
                   go_simp
                   with_reducible rfl
                  rotate_left
                  ·simp only [Act.put, zK, zL, zM, i64_w, i32_w]
                   rfl
                  refine pure_ (i := 11) (N := some 56) (v := ?_) (a' := ?_) #[true, true, true, true, false, true, false, false, false, false, false, true, false, false, false, false, false, false, false, false, false, false, false] rfl rfl (any_of HT_.out (by kernel_rfl)) (fun _ _ _ h => h) (Or.inl ⟨by rfl, ?_⟩) ?_ ?_
                  rotate_left
                  ·intro w'
                   go_simp
                   with_reducible rfl
                  rotate_left
                  ·simp only [Act.put, zK, zL, zM, i64_w, i32_w]
                   rfl
                  refine pure_ (i := 12) (N := some 57) (v := ?_) (a' := ?_) #[true, true, true, true, false, true, false, false, false, false, false, true, true, false, false, false, false, false, false, false, false, false, false] rfl rfl (any_of HT_.out (by kernel_rfl)) (fun _ _ _ h => h) (Or.inl ⟨by rfl, ?_⟩) ?_ ?_
                  rotate_left
                  ·intro w'
                   go_simp
                   with_reducible rfl
                  rotate_left
                  ·simp only [Act.put, zK, zL, zM, i64_w, i32_w]
                   rfl
                  refine pure_ (i := 14) (N := some 59) (v := ?_) (a' := ?_) #[true, true, true, true, false, true, false, false, false, false, false, true, true, false, true, false, false, false, false, false, false, false, false] rfl rfl (any_of HT_.out (by kernel_rfl)) (fun _ _ _ h => h) (Or.inl ⟨by rfl, ?_⟩) ?_ ?_
                  rotate_left
                  ·intro w'
                   go_simp
                   with_reducible rfl
                  rotate_left
                  ·simp only [Act.put, zK, zL, zM, i64_w, i32_w]
                   rfl
                  refine take_ (i := 4) (N := some 49) (v := ?_) (a' := ?_) #[true, true, true, true, true, true, false, false, false, false, false, true, true, false, true, false, false, false, false, false, false, false, false] rfl rfl (take_ofW HT_.out HW_.out (by kernel_rfl)) (fun _ _ _ h => h) (Or.inl ⟨by rfl, ?_⟩) hHeld ?_ ?_
                  rotate_left
                  ·rintro w' ⟨s0, s1, s2, s3, s4, s5, s6, s7, s8, s9, s10, s11, s12, s13⟩
                   go_simp
                   with_reducible rfl
                  rotate_left
                  ·simp only [Act.put, zK, zL, zM, i64_w, i32_w]
                   rfl
                  refine pure_ (i := 6) (N := some 51) (v := ?_) (a' := ?_) #[true, true, true, true, true, true, true, false, false, false, false, true, true, false, true, false, false, false, false, false, false, false, false] rfl rfl (any_of HT_.out (by kernel_rfl)) (fun _ _ _ h => h) (Or.inl ⟨by rfl, ?_⟩) ?_ ?_
                  rotate_left
                  ·intro w'
                   go_simp
                   with_reducible rfl
                  rotate_left
                  ·simp only [Act.put, zK, zL, zM, i64_w, i32_w]
                   rfl
                  refine take_ (i := 7) (N := some 52) (v := ?_) (a' := ?_) #[true, true, true, true, true, true, true, true, false, false, false, true, true, false, true, false, false, false, false, false, false, false, false] rfl rfl (take_ofW HT_.out HW_.out (by kernel_rfl)) (fun _ _ _ h => h) (Or.inl ⟨by rfl, ?_⟩) hHeld ?_ ?_
                  rotate_left
                  ·rintro w' ⟨s0, s1, s2, s3, s4, s5, s6, s7, s8, s9, s10, s11, s12, s13⟩
                   go_simp
                   with_reducible rfl
                  rotate_left
                  ·simp only [Act.put, zK, zL, zM, i64_w, i32_w]
                   rfl
                  refine pure_ (i := 8) (N := some 53) (v := ?_) (a' := ?_) #[true, true, true, true, true, true, true, true, true, false, false, true, true, false, true, false, false, false, false, false, false, false, false] rfl rfl (any_of HT_.out (by kernel_rfl)) (fun _ _ _ h => h) (Or.inl ⟨by rfl, ?_⟩) ?_ ?_
                  rotate_left
                  ·intro w'
                   go_simp
                   with_reducible rfl
                  rotate_left
                  ·simp only [Act.put, zK, zL, zM, i64_w, i32_w]
                   rfl
                  refine pure_ (i := 9) (N := some 54) (v := ?_) (a' := ?_) #[true, true, true, true, true, true, true, true, true, true, false, true, true, false, true, false, false, false, false, false, false, false, false] rfl rfl (any_of HT_.out (by kernel_rfl)) (fun _ _ _ h => h) (Or.inl ⟨by rfl, ?_⟩) ?_ ?_
                  rotate_left
                  ·intro w'
                   go_simp
                   with_reducible rfl
                  rotate_left
                  ·simp only [Act.put, zK, zL, zM, i64_w, i32_w]
                   rfl
                  refine take_ (i := 10) (N := some 55) (v := ?_) (a' := ?_) #[true, true, true, true, true, true, true, true, true, true, true, true, true, false, true, false, false, false, false, false, false, false, false] rfl rfl (take_ofW HT_.out HW_.out (by kernel_rfl)) (fun _ _ _ h => h) (Or.inl ⟨by rfl, ?_⟩) hHeld ?_ ?_
                  rotate_left
                  ·rintro w' ⟨s0, s1, s2, s3, s4, s5, s6, s7, s8, s9, s10, s11, s12, s13⟩
                   go_simp
                   with_reducible rfl
                  rotate_left
                  ·simp only [Act.put, zK, zL, zM, i64_w, i32_w]
                   rfl
                  refine take_ (i := 13) (N := some 58) (v := ?_) (a' := ?_) #[true, true, true, true, true, true, true, true, true, true, true, true, true, true, true, false, false, false, false, false, false, false, false] rfl rfl (take_ofW HT_.out HW_.out (by kernel_rfl)) (fun _ _ _ h => h) (Or.inl ⟨by rfl, ?_⟩) hHeld ?_ ?_
                  rotate_left
                  ·rintro w' ⟨s0, s1, s2, s3, s4, s5, s6, s7, s8, s9, s10, s11, s12, s13⟩
                   go_simp
                   with_reducible rfl
                  rotate_left
                  ·simp only [Act.put, zK, zL, zM, i64_w, i32_w]
                   rfl
                  refine pure_ (i := 15) (N := some 60) (v := ?_) (a' := ?_) #[true, true, true, true, true, true, true, true, true, true, true, true, true, true, true, true, false, false, false, false, false, false, false] rfl rfl (any_of HT_.out (by kernel_rfl)) (fun _ _ _ h => h) (Or.inl ⟨by rfl, ?_⟩) ?_ ?_
                  rotate_left
                  ·intro w'
                   go_simp
                   with_reducible rfl
                  rotate_left
                  ·simp only [Act.put, zK, zL, zM, i64_w, i32_w]
                   rfl
                  refine take_ (i := 16) (N := some 61) (v := ?_) (a' := ?_) #[true, true, true, true, true, true, true, true, true, true, true, true, true, true, true, true, true, false, false, false, false, false, false] rfl rfl (take_ofW HT_.out HW_.out (by kernel_rfl)) (fun _ _ _ h => h) (Or.inl ⟨by rfl, ?_⟩) hHeld ?_ ?_
                  rotate_left
                  ·rintro w' ⟨s0, s1, s2, s3, s4, s5, s6, s7, s8, s9, s10, s11, s12, s13⟩
                   go_simp
                   with_reducible rfl
                  rotate_left
                  ·simp only [Act.put, zK, zL, zM, i64_w, i32_w]
                   rfl
                  refine pure_ (i := 17) (N := some 62) (v := ?_) (a' := ?_) #[true, true, true, true, true, true, true, true, true, true, true, true, true, true, true, true, true, true, false, false, false, false, false] rfl rfl (any_of HT_.out (by kernel_rfl)) (fun _ _ _ h => h) (Or.inl ⟨by rfl, ?_⟩) ?_ ?_
                  rotate_left
                  ·intro w'
                   go_simp
                   with_reducible rfl
                  rotate_left
                  ·simp only [Act.put, zK, zL, zM, i64_w, i32_w]
                   rfl
                  refine pure_ (i := 18) (N := some 63) (v := ?_) (a' := ?_) #[true, true, true, true, true, true, true, true, true, true, true, true, true, true, true, true, true, true, true, false, false, false, false] rfl rfl (any_of HT_.out (by kernel_rfl)) (fun _ _ _ h => h) (Or.inl ⟨by rfl, ?_⟩) ?_ ?_
                  rotate_left
                  ·intro w'
                   go_simp
                   with_reducible rfl
                  rotate_left
                  ·simp only [Act.put, zK, zL, zM, i64_w, i32_w]
                   rfl
                  refine one_ (i := 19) (N := some 64) #[true, true, true, true, true, true, true, true, true, true, true, true, true, true, true, true, true, true, true, true, false, false, false] rfl rfl (one_of HT_.out (by kernel_rfl)) (by decide) (fun K hK => ?_)
                  refine goes_ Tryd.func19 (by kernel_rfl) rfl #[.agg #[.int .i64 ((rd_T34 l0_4 x37_2).f0), .int .i64 ((rd_T34 l0_4 x37_2).f1.f0), .int .i64 ((rd_T34 l0_4 x37_2).f1.f1), .string ((rd_T34 l0_4 x37_2).f2), .slice A338_4 ((rd_T34 l0_4 x37_2).f3).length c338_4, .slice A338_5 ((rd_T34 l0_4 x37_2).f4).length c338_5], .string ((a1 ++ (rdOf ByteArray.empty l0_5 x37_2)) ++ (⟨#[46]⟩ : ByteArray))] (by rfl) rfl rfl apE ?_
                  with_reducible refine (ih k2 (by have := HK1.out; have := HK2.out; omega) ((rd_T34 l0_4 x37_2).f0) ((rd_T34 l0_4 x37_2).f1.f0) ((rd_T34 l0_4 x37_2).f1.f1) ((rd_T34 l0_4 x37_2).f2) _ _ ((rd_T34 l0_4 x37_2).f3) _ _ ((rd_T34 l0_4 x37_2).f4) ((a1 ++ (rdOf ByteArray.empty l0_5 x37_2)) ++ (⟨#[46]⟩ : ByteArray)) A2 c2 l2 t342 _ ?side1 ?side2 ?side3 ?side4 ?side5 ?side6 ?side7 A36.out).mono ?_
                  (case side1 => repeat (first | exact (Kd.C_below HR338_4.out HB.out) | (with_reducible refine Kd.C_alloc ?_ _) | (with_reducible refine Kd.C_drewN ?_ _) | (with_reducible refine Kd.C_drew ?_)))
                  (case side2 => exact HC338_4.out)
                  (case side3 => repeat (first | exact (Kd.C_below HR338_5.out HB.out) | (with_reducible refine Kd.C_alloc ?_ _) | (with_reducible refine Kd.C_drewN ?_ _) | (with_reducible refine Kd.C_drew ?_)))
                  (case side4 => exact HC338_5.out)
                  (case side5 => repeat (first | exact (Kd.C_below HR2.out HB.out) | (with_reducible refine Kd.C_alloc ?_ _) | (with_reducible refine Kd.C_drewN ?_ _) | (with_reducible refine Kd.C_drew ?_)))
                  (case side6 => exact HC2.out)
                  (case side7 => exact HG2.out)
                  rintro e w44 ⟨rfl, hb⟩
                  refine ⟨_, rfl, ?_⟩
                  have n0_ := zA (zN (g := gb333) (o := .cells #[.int .i64 a0_0, .int .i64 a0_1, .int .i64 a0_2, .string a0_3, .slice (some ad338) l0_4.length c0_4, .slice (some ad340) l0_5.length c0_5] 34 (0, 0)) apO hb)
                  have n1_ := zA (zN (g := gb339) (o := .cells #[.int .i64 ((rd_T34 l0_4 x37_2).f0), .int .i64 ((rd_T34 l0_4 x37_2).f1.f0), .int .i64 ((rd_T34 l0_4 x37_2).f1.f1), .string ((rd_T34 l0_4 x37_2).f2), .slice A338_4 ((rd_T34 l0_4 x37_2).f3).length c338_4, .slice A338_5 ((rd_T34 l0_4 x37_2).f4).length c338_5] 34 (0, 0)) (by (with_reducible repeat (first | refine zB ?_ _ | refine zD ?_ | refine zC ?_ _)); exact BK339.out) hb)
                  have n2_ := zA (zP (by repeat (first | (with_reducible first | exact HB.out | apply zG | apply zE | apply zF | refine zH ?_ GE333.out | refine zH ?_ GE339.out) | exact HB.out)) hb)
                  clear BK333
                  clear BK339
                  clear HB
                  have BK333 := n0_
                  have BK339 := n1_
                  have HB := n2_
                  clear n0_ n1_ n2_
                  (try clear hb)
                  (try clear hb2)
                  (try clear hk)
                  (try clear hi)
                  refine hK.out _ _ ⟨(zJ BK333.out 0).trans rfl, (zJ BK333.out 1).trans rfl, (zJ BK333.out 2).trans rfl, (zJ BK333.out 3).trans rfl, (zJ BK333.out 4).trans rfl, (zJ BK333.out 5).trans rfl, (zJ BK339.out 0).trans rfl, (zJ BK339.out 1).trans rfl, (zJ BK339.out 2).trans rfl, (zJ BK339.out 3).trans rfl, (zJ BK339.out 4).trans rfl, (zJ BK339.out 5).trans rfl, ((HB.out.cell (zR w _ hw340_0)).trans hw340_0), ((HB.out.cell (zR w _ hw341_0)).trans hw341_0)⟩ (fun hHeld => ?_)
                  clear hK K
                  refine norm_ (a' := ?_) ?_ ?_
                  rotate_left
                  ·show Act.put _ (some 64) _ = _
                   simp only [Act.put, zK, zL, zM, i64_w, i32_w]
                   rfl
                  refine pure_ (i := 20) (N := some 65) (v := ?_) (a' := ?_) #[true, true, true, true, true, true, true, true, true, true, true, true, true, true, true, true, true, true, true, true, true, false, false] rfl rfl (any_of HT_.out (by kernel_rfl)) (fun _ _ _ h => h) (Or.inl ⟨by rfl, ?_⟩) ?_ ?_
                  rotate_left
                  ·intro w'
                   go_simp
                   with_reducible rfl
                  rotate_left
                  ·simp only [Act.put, zK, zL, zM, i64_w, i32_w]
                   rfl
                  refine pure_ (i := 21) (N := some 66) (v := ?_) (a' := ?_) #[true, true, true, true, true, true, true, true, true, true, true, true, true, true, true, true, true, true, true, true, true, true, false] rfl rfl (any_of HT_.out (by kernel_rfl)) (fun _ _ _ h => h) (Or.inl ⟨by rfl, ?_⟩) ?_ ?_
                  rotate_left
                  ·intro w'
                   go_simp
                   with_reducible rfl
                  rotate_left
                  ·simp only [Act.put, zK, zL, zM, i64_w, i32_w]
                   rfl
                  refine pure_ (i := 22) (N := some 5) (v := ?_) (a' := ?_) #[true, true, true, true, true, true, true, true, true, true, true, true, true, true, true, true, true, true, true, true, true, true, true] rfl rfl (any_of HT_.out (by kernel_rfl)) (fun _ _ _ h => h) (Or.inl ⟨by rfl, ?_⟩) ?_ ?_
                  rotate_left
                  ·intro w'
                   go_simp
                   with_reducible rfl
                  rotate_left
                  ·simp only [Act.put, zK, zL, zM, i64_w, i32_w]
                   rfl
                  refine done_ (done_of HT_.out (by kernel_rfl)) ?_
                  try go_wp2
                  go_roundg k2
                  case measure => have := HK1.out; have := HK2.out; omega
                  case rel => exact ⟨(x5_2 ++ (((((⟨#[91]⟩ : ByteArray) ++ a1) ++ (rdOf ByteArray.empty l0_5 x37_2)) ++ (⟨#[93, 10]⟩ : ByteArray)) ++ t342)), (wrap64 (x37_2 + 1)), apC, apC, H', ⟨by have := HK1.out; have := HK2.out; omega⟩, ⟨apO⟩, ⟨by repeat (first | (with_reducible first | exact HB.out | apply zG | apply zE | apply zF | refine zH ?_ GE333.out | refine zH ?_ GE339.out) | exact HB.out)⟩⟩
                 ·rw [if_neg c38] at H
                  exact absurd H (by simp)
                ·rw [if_neg c37] at H
                 exact absurd H (by simp)
               ·rw [if_neg c35] at H
                exact absurd H (by simp)
              ·rw [if_neg c34] at H
               exact absurd H (by simp)
             ·rw [if_neg c33] at H
              exact absurd H (by simp)
            ·rw [if_neg c32] at H
             exact absurd H (by simp)
           ·rw [if_neg c31] at H
            exact absurd H (by simp)
          ·rw [if_neg c30] at H
           exact absurd H (by simp)
         ·rw [if_neg c29] at H
          have c29b0 : (((rd_T34 l0_4 x37_2).f0) == 6) = false := beq_eq_false_iff_ne.mpr c29
          have c29b1 : (((rd_T34 l0_4 x37_2).f0) != 6) = true := bne_iff_ne.mpr c29
          have H' := zA H
          clear H
          have p338 : 0 ≤ (x37_2 : Int) := yF apB
          have q338 : x37_2 < (l0_4.length : Int) := yF apB
          obtain ⟨ad338, A338_4, c338_4, A338_5, c338_5, e338, hx338_0, hx338_1, hx338_2, hx338_3, hx338_4, hx338_5, hl338_4, hi338_4, hl338_5, hi338_5⟩ := at_T34 HR0_4.out x37_2 p338 q338
          cases e338
          replace hx338_0 := (HB.out.cell (zR w _ hx338_0)).trans hx338_0
          replace hx338_1 := (HB.out.cell (zR w _ hx338_1)).trans hx338_1
          replace hx338_2 := (HB.out.cell (zR w _ hx338_2)).trans hx338_2
          replace hx338_3 := (HB.out.cell (zR w _ hx338_3)).trans hx338_3
          replace hx338_4 := (HB.out.cell (zR w _ hx338_4)).trans hx338_4
          replace hx338_5 := (HB.out.cell (zR w _ hx338_5)).trans hx338_5
          have HR338_4 := zA hi338_4
          have HC338_4 := zA hl338_4
          clear hi338_4 hl338_4
          have HR338_5 := zA hi338_5
          have HC338_5 := zA hl338_5
          clear hi338_5 hl338_5
          replace p338 := eq_true p338
          replace q338 := eq_true q338
          go_wp2_with (first | ((with_reducible refine zS (N := 9) rfl ?_); refine zW ?hg (N := 9) ?hd (cs := #[.int .i64 0, .int .i64 0, .int .i64 0, .string (⟨#[]⟩ : ByteArray), .slice none 0 0, .slice none 0 0]) (t := 34) ?hr ?_; (case hd => rfl); (case hg => rfl); (case hr => first | (go_simp; done) | (go_simp; rfl)); intro gb339 hg w45 hbox hb; have n0_ := zA (zN (g := gb333) (o := .cells #[.int .i64 a0_0, .int .i64 a0_1, .int .i64 a0_2, .string a0_3, .slice (some ad338) l0_4.length c0_4, .slice A0_5 l0_5.length c0_5] 34 (0, 0)) apO hb); have n1_ := zA (zP apQ hb); have n2_ := zA (hbox); have n3_ := zA ((by rw [hg]; exact (zQ apQ) : w.heap.size ≤ gb339)); have n4_ := zA ((by rw [hg]; exact (zQ apQ) : w.heap.size ≤ gb339)); have n5_ := zA ((by rw [hg]; exact Nat.ne_of_lt (blk_lt (g := gb333) (o := .cells #[.int .i64 a0_0, .int .i64 a0_1, .int .i64 a0_2, .string a0_3, .slice (some ad338) l0_4.length c0_4, .slice A0_5 l0_5.length c0_5] 34 (0, 0)) apO) : gb333 ≠ gb339)); have n6_ := zA ((by rw [hg]; exact Nat.ne_of_gt (blk_lt (g := gb333) (o := .cells #[.int .i64 a0_0, .int .i64 a0_1, .int .i64 a0_2, .string a0_3, .slice (some ad338) l0_4.length c0_4, .slice A0_5 l0_5.length c0_5] 34 (0, 0)) apO) : gb339 ≠ gb333)); clear BK333; clear HB; have BK333 := n0_; have HB := n1_; have BK339 := n2_; have GW339 := n3_; have GE339 := n4_; have NB333_339 := n5_; have NB339_333 := n6_; clear n0_ n1_ n2_ n3_ n4_ n5_ n6_; clear hb hbox hg; have hnb46 := NB339_333.out; have hnc46 := NB333_339.out; obtain ⟨hcz47_0, hcz47_1, hcz47_2, hcz47_3, hcz47_4, hcz47_5, hfz47_0, hfz47_1, hfz47_2, hfz47_3, hfz47_4, hfz47_5⟩ := zb6 BK339.out))
          go_roundg k2
          case measure => have := HK1.out; have := HK2.out; omega
          case rel => exact ⟨(x5_2), (wrap64 (x37_2 + 1)), apC, apC, H', ⟨by have := HK1.out; have := HK2.out; omega⟩, ⟨by (with_reducible repeat (first | refine zB ?_ _ | refine zD ?_ | refine zC ?_ _)); refine blk_far ?_ NB333_339.out _; (with_reducible repeat (first | refine zB ?_ _ | refine zD ?_ | refine zC ?_ _)); refine blk_far ?_ NB333_339.out _; (with_reducible repeat (first | refine zB ?_ _ | refine zD ?_ | refine zC ?_ _)); refine blk_far ?_ NB333_339.out _; (with_reducible repeat (first | refine zB ?_ _ | refine zD ?_ | refine zC ?_ _)); refine blk_far ?_ NB333_339.out _; (with_reducible repeat (first | refine zB ?_ _ | refine zD ?_ | refine zC ?_ _)); refine blk_far ?_ NB333_339.out _; (with_reducible repeat (first | refine zB ?_ _ | refine zD ?_ | refine zC ?_ _)); refine blk_far ?_ NB333_339.out _; (with_reducible repeat (first | refine zB ?_ _ | refine zD ?_ | refine zC ?_ _)); exact BK333.out⟩, ⟨by repeat (first | (with_reducible first | exact HB.out | apply zG | apply zE | apply zF | refine zH ?_ GE333.out | refine zH ?_ GE339.out) | exact HB.out)⟩⟩
        ·rw [if_neg c28] at H
         exact absurd H (by simp)
       ·rw [if_neg c27] at H
        exact absurd H (by simp)
      ·rw [if_neg c26] at H
       have c26b0 : decide (x37_2 < (l0_4.length : Int)) = false := decide_eq_false c26
       clear c26
       obtain rfl := yG H
       go_wp2
       go_ret
       exact ⟨apD, apQ⟩


def impl_TomlPut.f (k : Nat) (a0_0 : Int) (a0_1 : Int) (a0_2 : Int) (a0_3 : ByteArray) (l0_4 : List (S34)) (l0_5 : List ByteArray) (l1 : List (List ByteArray)) (l2 : List Int) : Option (ByteArray × Bool) := (impl_ValueOk.f k a0_0 a0_1 a0_2 a0_3 l0_4 l0_5 l1).bind fun t344 => (if t344 = true then ((impl_fits.f k a0_0 a0_1 a0_2 a0_3 l0_4 l0_5).bind fun t345 => (if t345 = true then ((impl_toml.f k a0_0 a0_1 a0_2 a0_3 l0_4 l0_5 (⟨#[]⟩ : ByteArray) l2).bind fun t346 => (some (t346, true))) else (some ((⟨#[]⟩ : ByteArray), false)))) else (some ((⟨#[]⟩ : ByteArray), false)))
theorem impl_TomlPut.mono : ∀ a0 a1 a2 a3 a4 a5 a6 a7 k, LeO (impl_TomlPut.f k a0 a1 a2 a3 a4 a5 a6 a7) (impl_TomlPut.f (k + 1) a0 a1 a2 a3 a4 a5 a6 a7) := by
 intro a0 a1 a2 a3 a4 a5 a6 a7 k
 unfold impl_TomlPut.f
 repeat' first
   | (with_reducible exact impl_ValueOk.mono _ _ _ _ _ _ _ _)
   | (with_reducible exact impl_fits.mono _ _ _ _ _ _ _)
   | (with_reducible exact impl_toml.mono _ _ _ _ _ _ _ _ _)
   | (with_reducible exact LeO.refl _)
   | (with_reducible exact LeO.none _)
   | (with_reducible refine LeO.ite ?_ ?_)
   | (with_reducible refine LeO.bind ?_ (fun _ => ?_))
set_option maxHeartbeats 8000000 in
set_option maxRecDepth 100000 in
theorem impl_TomlPut.calls (k : Nat) (a0_0 : Int) (a0_1 : Int) (a0_2 : Int) (a0_3 : ByteArray) (A0_4 : Option Addr) (c0_4 : Nat) (l0_4 : List (S34)) (A0_5 : Option Addr) (c0_5 : Nat) (l0_5 : List ByteArray) (A1 : Option Addr) (c1 : Nat) (l1 : List (List ByteArray)) (A2 : Option Addr) (c2 : Nat) (l2 : List Int) (r1 : ByteArray) (r2 : Bool) (w : World) (hr0_4 : Kd.C k34 w A0_4 l0_4.length l0_4) (hc0_4 : l0_4.length ≤ c0_4) (hr0_5 : Kd.C Kd.string w A0_5 l0_5.length l0_5) (hc0_5 : l0_5.length ≤ c0_5) (hr1 : Kd.C (Kd.slice 9 Kd.string) w A1 l1.length l1) (hc1 : l1.length ≤ c1) (hr2 : Kd.C kPow w A2 l2.length l2) (hc2 : l2.length ≤ c2) (hg1 : A1 = some ⟨0, 0, none⟩) (hg2 : A2 = some ⟨2, 0, none⟩ ∧ l2 = [1]) (h : impl_TomlPut.f k a0_0 a0_1 a0_2 a0_3 l0_4 l0_5 l1 l2 = some (r1, r2)) :
  Calls Tryd.prog 7 #[.agg #[.int .i64 a0_0, .int .i64 a0_1, .int .i64 a0_2, .string a0_3, .slice A0_4 l0_4.length c0_4, .slice A0_5 l0_5.length c0_5]] w fun e w' => e = .returned (.tuple #[.string r1, .bool r2]) ∧ Below w.heap.size w w' := by
 have hu34 := Tryd.underlying34
 have HR0_4 := zA hr0_4
 have HC0_4 := zA hc0_4
 clear hr0_4 hc0_4
 have HR0_5 := zA hr0_5
 have HC0_5 := zA hc0_5
 clear hr0_5 hc0_5
 have HG1 := zA hg1
 clear hg1
 have HR1 := zA hr1
 have HC1 := zA hc1
 clear hr1 hc1
 have HG2 := zA hg2
 clear hg2
 have HR2 := zA hr2
 have HC2 := zA hc2
 clear hr2 hc2
 have HB := zA (yH w.heap.size w)
 have H : ((impl_ValueOk.f k a0_0 a0_1 a0_2 a0_3 l0_4 l0_5 l1).bind fun t344 => (if t344 = true then ((impl_fits.f k a0_0 a0_1 a0_2 a0_3 l0_4 l0_5).bind fun t345 => (if t345 = true then ((impl_toml.f k a0_0 a0_1 a0_2 a0_3 l0_4 l0_5 (⟨#[]⟩ : ByteArray) l2).bind fun t346 => (some (t346, true))) else (some ((⟨#[]⟩ : ByteArray), false)))) else (some ((⟨#[]⟩ : ByteArray), false)))) = some (r1, r2) := h
 clear h
 replace H := Option.bind_eq_some_iff.mp H
 obtain ⟨t344, A40, H⟩ := H
 replace H : (if t344 = true then ((impl_fits.f k a0_0 a0_1 a0_2 a0_3 l0_4 l0_5).bind fun t345 => (if t345 = true then ((impl_toml.f k a0_0 a0_1 a0_2 a0_3 l0_4 l0_5 (⟨#[]⟩ : ByteArray) l2).bind fun t346 => (some (t346, true))) else (some ((⟨#[]⟩ : ByteArray), false)))) else (some ((⟨#[]⟩ : ByteArray), false))) = some (r1, r2) := H
 have A4 := zA A40
 clear A40
 by_cases c5 : t344 = true
 ·subst c5
  have H1 : ((impl_fits.f k a0_0 a0_1 a0_2 a0_3 l0_4 l0_5).bind fun t345 => (if t345 = true then ((impl_toml.f k a0_0 a0_1 a0_2 a0_3 l0_4 l0_5 (⟨#[]⟩ : ByteArray) l2).bind fun t346 => (some (t346, true))) else (some ((⟨#[]⟩ : ByteArray), false)))) = some (r1, r2) := by rw [if_pos rfl] at H; exact H
  clear H
  have H := H1
  clear H1
  replace H := Option.bind_eq_some_iff.mp H
  obtain ⟨t345, A60, H⟩ := H
  replace H : (if t345 = true then ((impl_toml.f k a0_0 a0_1 a0_2 a0_3 l0_4 l0_5 (⟨#[]⟩ : ByteArray) l2).bind fun t346 => (some (t346, true))) else (some ((⟨#[]⟩ : ByteArray), false))) = some (r1, r2) := H
  have A6 := zA A60
  clear A60
  by_cases c7 : t345 = true
  ·subst c7
   have H1 : ((impl_toml.f k a0_0 a0_1 a0_2 a0_3 l0_4 l0_5 (⟨#[]⟩ : ByteArray) l2).bind fun t346 => (some (t346, true))) = some (r1, r2) := by rw [if_pos rfl] at H; exact H
   clear H
   have H := H1
   clear H1
   replace H := Option.bind_eq_some_iff.mp H
   obtain ⟨t346, A80, H⟩ := H
   replace H : (some (t346, true)) = some (r1, r2) := H
   have A8 := zA A80
   clear A80
   simp only [Option.some.injEq, Prod.mk.injEq] at H
   obtain ⟨rfl, rfl⟩ := H
   go_enter Tryd.func7, Tryd.ntmps7
   go_wp2_with (first | ((with_reducible refine zS (N := 1) rfl ?_); refine zW ?hg (N := 1) ?hd (cs := #[.int .i64 a0_0, .int .i64 a0_1, .int .i64 a0_2, .string a0_3, .slice A0_4 l0_4.length c0_4, .slice A0_5 l0_5.length c0_5]) (t := 34) ?hr ?_; (case hd => rfl); (case hg => rfl); (case hr => first | (go_simp; done) | (go_simp; rfl)); intro gb343 hg w9 hbox hb; have n0_ := zA (zP apA hb); have n1_ := zA (hbox); have n2_ := zA ((by rw [hg]; exact (zQ apA) : w.heap.size ≤ gb343)); have n3_ := zA ((by rw [hg]; exact (zQ apA) : w.heap.size ≤ gb343)); clear HB; have HB := n0_; have BK343 := n1_; have GW343 := n2_; have GE343 := n3_; clear n0_ n1_ n2_ n3_; clear hb hbox hg; obtain ⟨hcz10_0, hcz10_1, hcz10_2, hcz10_3, hcz10_4, hcz10_5, hfz10_0, hfz10_1, hfz10_2, hfz10_3, hfz10_4, hfz10_5⟩ := zb6 BK343.out) | ((with_reducible refine zT (f := 17) rfl ?_); refine goesL_ (some 5) rfl rfl Tryd.func17 (by kernel_rfl) rfl #[.agg #[.int .i64 a0_0, .int .i64 a0_1, .int .i64 a0_2, .string a0_3, .slice A0_4 l0_4.length c0_4, .slice A0_5 l0_5.length c0_5]] rfl apE ?_; (with_reducible refine (impl_ValueOk.calls k a0_0 a0_1 a0_2 a0_3 _ _ l0_4 _ _ l0_5 A1 c1 l1 true _ ?side1 ?side2 ?side3 ?side4 ?side5 ?side6 ?side7 A4.out).mono ?_); (case side1 => repeat (first | exact (Kd.C_below HR0_4.out HB.out) | (with_reducible refine Kd.C_alloc ?_ _) | (with_reducible refine Kd.C_drewN ?_ _) | (with_reducible refine Kd.C_drew ?_))); (case side2 => exact HC0_4.out); (case side3 => repeat (first | exact (Kd.C_below HR0_5.out HB.out) | (with_reducible refine Kd.C_alloc ?_ _) | (with_reducible refine Kd.C_drewN ?_ _) | (with_reducible refine Kd.C_drew ?_))); (case side4 => exact HC0_5.out); (case side5 => repeat (first | exact (Kd.C_below HR1.out HB.out) | (with_reducible refine Kd.C_alloc ?_ _) | (with_reducible refine Kd.C_drewN ?_ _) | (with_reducible refine Kd.C_drew ?_))); (case side6 => exact HC1.out); (case side7 => exact HG1.out); rintro e w11 ⟨rfl, hb⟩; refine ⟨_, rfl, ?_⟩; have n0_ := zA (zN (g := gb343) (o := .cells #[.int .i64 a0_0, .int .i64 a0_1, .int .i64 a0_2, .string a0_3, .slice A0_4 l0_4.length c0_4, .slice A0_5 l0_5.length c0_5] 34 (0, 0)) (by (with_reducible repeat (first | refine zB ?_ _ | refine zD ?_ | refine zC ?_ _)); exact BK343.out) hb); have n1_ := zA (zP (by repeat (first | (with_reducible first | exact HB.out | apply zG | apply zE | apply zF | refine zH ?_ GE343.out) | exact HB.out)) hb); clear BK343; clear HB; have BK343 := n0_; have HB := n1_; clear n0_ n1_; (try clear hb); (try clear hb2); (try clear hk); (try clear hi); obtain ⟨hcz12_0, hcz12_1, hcz12_2, hcz12_3, hcz12_4, hcz12_5, hfz12_0, hfz12_1, hfz12_2, hfz12_3, hfz12_4, hfz12_5⟩ := zb6 BK343.out) | (go_at_call 18; (with_reducible refine (impl_fits.calls k a0_0 a0_1 a0_2 a0_3 _ _ l0_4 _ _ l0_5 true _ ?side1 ?side2 ?side3 ?side4 A6.out).mono ?_); (case side1 => repeat (first | exact (Kd.C_below HR0_4.out HB.out) | (with_reducible refine Kd.C_alloc ?_ _) | (with_reducible refine Kd.C_drewN ?_ _) | (with_reducible refine Kd.C_drew ?_))); (case side2 => exact HC0_4.out); (case side3 => repeat (first | exact (Kd.C_below HR0_5.out HB.out) | (with_reducible refine Kd.C_alloc ?_ _) | (with_reducible refine Kd.C_drewN ?_ _) | (with_reducible refine Kd.C_drew ?_))); (case side4 => exact HC0_5.out); rintro e w13 ⟨rfl, hb⟩; have n0_ := zA (zN (g := gb343) (o := .cells #[.int .i64 a0_0, .int .i64 a0_1, .int .i64 a0_2, .string a0_3, .slice A0_4 l0_4.length c0_4, .slice A0_5 l0_5.length c0_5] 34 (0, 0)) (by (with_reducible repeat (first | refine zB ?_ _ | refine zD ?_ | refine zC ?_ _)); exact BK343.out) hb); have n1_ := zA (zP (by repeat (first | (with_reducible first | exact HB.out | apply zG | apply zE | apply zF | refine zH ?_ GE343.out) | exact HB.out)) hb); clear BK343; clear HB; have BK343 := n0_; have HB := n1_; clear n0_ n1_; (try clear hb); (try clear hb2); (try clear hk); (try clear hi); obtain ⟨hcz14_0, hcz14_1, hcz14_2, hcz14_3, hcz14_4, hcz14_5, hfz14_0, hfz14_1, hfz14_2, hfz14_3, hfz14_4, hfz14_5⟩ := zb6 BK343.out) | ((with_reducible refine zT (f := 19) rfl ?_); refine goesL_ (some 13) rfl rfl Tryd.func19 (by kernel_rfl) rfl #[.agg #[.int .i64 a0_0, .int .i64 a0_1, .int .i64 a0_2, .string a0_3, .slice A0_4 l0_4.length c0_4, .slice A0_5 l0_5.length c0_5], .string (⟨#[]⟩ : ByteArray)] rfl apE ?_; (with_reducible refine (impl_toml.calls k a0_0 a0_1 a0_2 a0_3 _ _ l0_4 _ _ l0_5 (⟨#[]⟩ : ByteArray) A2 c2 l2 t346 _ ?side1 ?side2 ?side3 ?side4 ?side5 ?side6 ?side7 A8.out).mono ?_); (case side1 => repeat (first | exact (Kd.C_below HR0_4.out HB.out) | (with_reducible refine Kd.C_alloc ?_ _) | (with_reducible refine Kd.C_drewN ?_ _) | (with_reducible refine Kd.C_drew ?_))); (case side2 => exact HC0_4.out); (case side3 => repeat (first | exact (Kd.C_below HR0_5.out HB.out) | (with_reducible refine Kd.C_alloc ?_ _) | (with_reducible refine Kd.C_drewN ?_ _) | (with_reducible refine Kd.C_drew ?_))); (case side4 => exact HC0_5.out); (case side5 => repeat (first | exact (Kd.C_below HR2.out HB.out) | (with_reducible refine Kd.C_alloc ?_ _) | (with_reducible refine Kd.C_drewN ?_ _) | (with_reducible refine Kd.C_drew ?_))); (case side6 => exact HC2.out); (case side7 => exact HG2.out); rintro e w15 ⟨rfl, hb⟩; refine ⟨_, rfl, ?_⟩; have n0_ := zA (zP apA hb); clear HB; have HB := n0_; clear n0_; (try clear hb); (try clear hb2); (try clear hk); (try clear hi)))
   go_ret2
   exact ⟨apD, apA⟩
  ·replace c7 := Bool.eq_false_iff.mpr c7
   subst c7
   have H1 : (some ((⟨#[]⟩ : ByteArray), false)) = some (r1, r2) := by rw [if_neg (show ¬ (false = true) by decide)] at H; exact H
   clear H
   have H := H1
   clear H1
   simp only [Option.some.injEq, Prod.mk.injEq] at H
   obtain ⟨rfl, rfl⟩ := H
   go_enter Tryd.func7, Tryd.ntmps7
   go_wp2_with (first | ((with_reducible refine zS (N := 1) rfl ?_); refine zW ?hg (N := 1) ?hd (cs := #[.int .i64 a0_0, .int .i64 a0_1, .int .i64 a0_2, .string a0_3, .slice A0_4 l0_4.length c0_4, .slice A0_5 l0_5.length c0_5]) (t := 34) ?hr ?_; (case hd => rfl); (case hg => rfl); (case hr => first | (go_simp; done) | (go_simp; rfl)); intro gb343 hg w16 hbox hb; have n0_ := zA (zP apA hb); have n1_ := zA (hbox); have n2_ := zA ((by rw [hg]; exact (zQ apA) : w.heap.size ≤ gb343)); have n3_ := zA ((by rw [hg]; exact (zQ apA) : w.heap.size ≤ gb343)); clear HB; have HB := n0_; have BK343 := n1_; have GW343 := n2_; have GE343 := n3_; clear n0_ n1_ n2_ n3_; clear hb hbox hg; obtain ⟨hcz17_0, hcz17_1, hcz17_2, hcz17_3, hcz17_4, hcz17_5, hfz17_0, hfz17_1, hfz17_2, hfz17_3, hfz17_4, hfz17_5⟩ := zb6 BK343.out) | ((with_reducible refine zT (f := 17) rfl ?_); refine goesL_ (some 5) rfl rfl Tryd.func17 (by kernel_rfl) rfl #[.agg #[.int .i64 a0_0, .int .i64 a0_1, .int .i64 a0_2, .string a0_3, .slice A0_4 l0_4.length c0_4, .slice A0_5 l0_5.length c0_5]] rfl apE ?_; (with_reducible refine (impl_ValueOk.calls k a0_0 a0_1 a0_2 a0_3 _ _ l0_4 _ _ l0_5 A1 c1 l1 true _ ?side1 ?side2 ?side3 ?side4 ?side5 ?side6 ?side7 A4.out).mono ?_); (case side1 => repeat (first | exact (Kd.C_below HR0_4.out HB.out) | (with_reducible refine Kd.C_alloc ?_ _) | (with_reducible refine Kd.C_drewN ?_ _) | (with_reducible refine Kd.C_drew ?_))); (case side2 => exact HC0_4.out); (case side3 => repeat (first | exact (Kd.C_below HR0_5.out HB.out) | (with_reducible refine Kd.C_alloc ?_ _) | (with_reducible refine Kd.C_drewN ?_ _) | (with_reducible refine Kd.C_drew ?_))); (case side4 => exact HC0_5.out); (case side5 => repeat (first | exact (Kd.C_below HR1.out HB.out) | (with_reducible refine Kd.C_alloc ?_ _) | (with_reducible refine Kd.C_drewN ?_ _) | (with_reducible refine Kd.C_drew ?_))); (case side6 => exact HC1.out); (case side7 => exact HG1.out); rintro e w18 ⟨rfl, hb⟩; refine ⟨_, rfl, ?_⟩; have n0_ := zA (zN (g := gb343) (o := .cells #[.int .i64 a0_0, .int .i64 a0_1, .int .i64 a0_2, .string a0_3, .slice A0_4 l0_4.length c0_4, .slice A0_5 l0_5.length c0_5] 34 (0, 0)) (by (with_reducible repeat (first | refine zB ?_ _ | refine zD ?_ | refine zC ?_ _)); exact BK343.out) hb); have n1_ := zA (zP (by repeat (first | (with_reducible first | exact HB.out | apply zG | apply zE | apply zF | refine zH ?_ GE343.out) | exact HB.out)) hb); clear BK343; clear HB; have BK343 := n0_; have HB := n1_; clear n0_ n1_; (try clear hb); (try clear hb2); (try clear hk); (try clear hi); obtain ⟨hcz19_0, hcz19_1, hcz19_2, hcz19_3, hcz19_4, hcz19_5, hfz19_0, hfz19_1, hfz19_2, hfz19_3, hfz19_4, hfz19_5⟩ := zb6 BK343.out) | (go_at_call 18; (with_reducible refine (impl_fits.calls k a0_0 a0_1 a0_2 a0_3 _ _ l0_4 _ _ l0_5 false _ ?side1 ?side2 ?side3 ?side4 A6.out).mono ?_); (case side1 => repeat (first | exact (Kd.C_below HR0_4.out HB.out) | (with_reducible refine Kd.C_alloc ?_ _) | (with_reducible refine Kd.C_drewN ?_ _) | (with_reducible refine Kd.C_drew ?_))); (case side2 => exact HC0_4.out); (case side3 => repeat (first | exact (Kd.C_below HR0_5.out HB.out) | (with_reducible refine Kd.C_alloc ?_ _) | (with_reducible refine Kd.C_drewN ?_ _) | (with_reducible refine Kd.C_drew ?_))); (case side4 => exact HC0_5.out); rintro e w20 ⟨rfl, hb⟩; have n0_ := zA (zP apA hb); clear HB; have HB := n0_; clear n0_; (try clear hb); (try clear hb2); (try clear hk); (try clear hi)))
   go_ret2
   exact ⟨apD, apA⟩
 ·replace c5 := Bool.eq_false_iff.mpr c5
  subst c5
  have H1 : (some ((⟨#[]⟩ : ByteArray), false)) = some (r1, r2) := by rw [if_neg (show ¬ (false = true) by decide)] at H; exact H
  clear H
  have H := H1
  clear H1
  simp only [Option.some.injEq, Prod.mk.injEq] at H
  obtain ⟨rfl, rfl⟩ := H
  go_enter Tryd.func7, Tryd.ntmps7
  go_wp2_with (first | ((with_reducible refine zS (N := 1) rfl ?_); refine zW ?hg (N := 1) ?hd (cs := #[.int .i64 a0_0, .int .i64 a0_1, .int .i64 a0_2, .string a0_3, .slice A0_4 l0_4.length c0_4, .slice A0_5 l0_5.length c0_5]) (t := 34) ?hr ?_; (case hd => rfl); (case hg => rfl); (case hr => first | (go_simp; done) | (go_simp; rfl)); intro gb343 hg w21 hbox hb; have n0_ := zA (zP apA hb); have n1_ := zA (hbox); have n2_ := zA ((by rw [hg]; exact (zQ apA) : w.heap.size ≤ gb343)); have n3_ := zA ((by rw [hg]; exact (zQ apA) : w.heap.size ≤ gb343)); clear HB; have HB := n0_; have BK343 := n1_; have GW343 := n2_; have GE343 := n3_; clear n0_ n1_ n2_ n3_; clear hb hbox hg; obtain ⟨hcz22_0, hcz22_1, hcz22_2, hcz22_3, hcz22_4, hcz22_5, hfz22_0, hfz22_1, hfz22_2, hfz22_3, hfz22_4, hfz22_5⟩ := zb6 BK343.out) | ((with_reducible refine zT (f := 17) rfl ?_); refine goesL_ (some 5) rfl rfl Tryd.func17 (by kernel_rfl) rfl #[.agg #[.int .i64 a0_0, .int .i64 a0_1, .int .i64 a0_2, .string a0_3, .slice A0_4 l0_4.length c0_4, .slice A0_5 l0_5.length c0_5]] rfl apE ?_; (with_reducible refine (impl_ValueOk.calls k a0_0 a0_1 a0_2 a0_3 _ _ l0_4 _ _ l0_5 A1 c1 l1 false _ ?side1 ?side2 ?side3 ?side4 ?side5 ?side6 ?side7 A4.out).mono ?_); (case side1 => repeat (first | exact (Kd.C_below HR0_4.out HB.out) | (with_reducible refine Kd.C_alloc ?_ _) | (with_reducible refine Kd.C_drewN ?_ _) | (with_reducible refine Kd.C_drew ?_))); (case side2 => exact HC0_4.out); (case side3 => repeat (first | exact (Kd.C_below HR0_5.out HB.out) | (with_reducible refine Kd.C_alloc ?_ _) | (with_reducible refine Kd.C_drewN ?_ _) | (with_reducible refine Kd.C_drew ?_))); (case side4 => exact HC0_5.out); (case side5 => repeat (first | exact (Kd.C_below HR1.out HB.out) | (with_reducible refine Kd.C_alloc ?_ _) | (with_reducible refine Kd.C_drewN ?_ _) | (with_reducible refine Kd.C_drew ?_))); (case side6 => exact HC1.out); (case side7 => exact HG1.out); rintro e w23 ⟨rfl, hb⟩; refine ⟨_, rfl, ?_⟩; have n0_ := zA (zP apA hb); clear HB; have HB := n0_; clear n0_; (try clear hb); (try clear hb2); (try clear hk); (try clear hi)))
  go_ret2
  exact ⟨apD, apA⟩


def laws_FnExactTomlPut.j0 : Nat → Bool → Int → Int → Int → ByteArray → List (S27) → List ByteArray → Int → Int → Int → ByteArray → List (S34) → List ByteArray → Option (Bool)
 | 0, _, _, _, _, _, _, _, _, _, _, _, _, _ => none
 | k + 1, x34, x360000, x360001, x360002, x360003, x360004, x360005, x384000, x384001, x384002, x384003, x384004, x384005 => if x34 = true then (none) else ((laws_toValue.f k x360000 x360001 x360002 x360003 x360004 x360005).bind fun bt386 => ((laws_eqValue.f k x384000 x384001 x384002 x384003 x384004 x384005 bt386.1 bt386.2.1 bt386.2.2.1 bt386.2.2.2.1 bt386.2.2.2.2.1 bt386.2.2.2.2.2).bind fun t396 => (if t396 = true then (some true) else (none))))
def laws_FnExactTomlPut.f (k : Nat) (a0_0 : Int) (a0_1 : Int) (a0_2 : Int) (a0_3 : ByteArray) (l0_4 : List (S27)) (l0_5 : List ByteArray) (l1 : List (List ByteArray)) (l2 : List Int) : Option (Bool) := (laws_szValue.f k a0_0 a0_1 a0_2 a0_3 l0_4 l0_5 1048576).bind fun t360 => (if t360 < 0 then (some true) else ((laws_toValue.f k a0_0 a0_1 a0_2 a0_3 l0_4 l0_5).bind fun bt361 => ((spec_TomlPut.f k bt361.1 bt361.2.1 bt361.2.2.1 bt361.2.2.2.1 bt361.2.2.2.2.1 bt361.2.2.2.2.2).bind fun bt371 => ((laws_toValue.f k a0_0 a0_1 a0_2 a0_3 l0_4 l0_5).bind fun bt373 => ((impl_TomlPut.f k bt373.1 bt373.2.1 bt373.2.2.1 bt373.2.2.2.1 bt373.2.2.2.2.1 bt373.2.2.2.2.2 l1 l2).bind fun bt384 => (if bt384.1.toList = bt371.1.toList then (laws_FnExactTomlPut.j0 k (bt384.2 != bt371.2) a0_0 a0_1 a0_2 a0_3 l0_4 l0_5 bt373.1 bt373.2.1 bt373.2.2.1 bt373.2.2.2.1 bt373.2.2.2.2.1 bt373.2.2.2.2.2) else (laws_FnExactTomlPut.j0 k true a0_0 a0_1 a0_2 a0_3 l0_4 l0_5 bt373.1 bt373.2.1 bt373.2.2.1 bt373.2.2.2.1 bt373.2.2.2.2.1 bt373.2.2.2.2.2)))))))
theorem laws_FnExactTomlPut.mono_l : ∀ k, (∀ y0 y1 y2 y3 y4 y5 y6 y7 y8 y9 y10 y11 y12, LeO (laws_FnExactTomlPut.j0 k y0 y1 y2 y3 y4 y5 y6 y7 y8 y9 y10 y11 y12) (laws_FnExactTomlPut.j0 (k + 1) y0 y1 y2 y3 y4 y5 y6 y7 y8 y9 y10 y11 y12))
 | 0 => fun _ _ _ _ _ _ _ _ _ _ _ _ _ r h => by simp [laws_FnExactTomlPut.j0] at h
 | k + 1 => by
  have ih0 := laws_FnExactTomlPut.mono_l k
  ·intro y0 y1 y2 y3 y4 y5 y6 y7 y8 y9 y10 y11 y12
   unfold laws_FnExactTomlPut.j0
   repeat' first
   | (with_reducible exact ih0 _ _ _ _ _ _ _ _ _ _ _ _ _)
   | (with_reducible exact impl_TomlPut.mono _ _ _ _ _ _ _ _ _)
   | (with_reducible exact laws_eqValue.mono _ _ _ _ _ _ _ _ _ _ _ _ _)
   | (with_reducible exact laws_szValue.mono _ _ _ _ _ _ _ _)
   | (with_reducible exact laws_toValue.mono _ _ _ _ _ _ _)
   | (with_reducible exact spec_TomlPut.mono _ _ _ _ _ _ _)
   | (with_reducible exact LeO.refl _)
   | (with_reducible exact LeO.none _)
   | (with_reducible refine LeO.ite ?_ ?_)
   | (with_reducible refine LeO.bind ?_ (fun _ => ?_))
   | exact ih0 _ _ _ _ _ _ _ _ _ _ _ _ _
theorem laws_FnExactTomlPut.mono : ∀ a0 a1 a2 a3 a4 a5 a6 a7 k, LeO (laws_FnExactTomlPut.f k a0 a1 a2 a3 a4 a5 a6 a7) (laws_FnExactTomlPut.f (k + 1) a0 a1 a2 a3 a4 a5 a6 a7) := by
 intro a0 a1 a2 a3 a4 a5 a6 a7 k
 have ih0 := laws_FnExactTomlPut.mono_l k
 unfold laws_FnExactTomlPut.f
 repeat' first
   | (with_reducible exact ih0 _ _ _ _ _ _ _ _ _ _ _ _ _)
   | (with_reducible exact impl_TomlPut.mono _ _ _ _ _ _ _ _ _)
   | (with_reducible exact laws_eqValue.mono _ _ _ _ _ _ _ _ _ _ _ _ _)
   | (with_reducible exact laws_szValue.mono _ _ _ _ _ _ _ _)
   | (with_reducible exact laws_toValue.mono _ _ _ _ _ _ _)
   | (with_reducible exact spec_TomlPut.mono _ _ _ _ _ _ _)
   | (with_reducible exact LeO.refl _)
   | (with_reducible exact LeO.none _)
   | (with_reducible refine LeO.ite ?_ ?_)
   | (with_reducible refine LeO.bind ?_ (fun _ => ?_))
   | exact ih0 _ _ _ _ _ _ _ _ _ _ _ _ _
set_option maxHeartbeats 8000000 in
set_option maxRecDepth 100000 in
theorem laws_FnExactTomlPut.calls (k : Nat) (a0_0 : Int) (a0_1 : Int) (a0_2 : Int) (a0_3 : ByteArray) (A0_4 : Option Addr) (c0_4 : Nat) (l0_4 : List (S27)) (A0_5 : Option Addr) (c0_5 : Nat) (l0_5 : List ByteArray) (A1 : Option Addr) (c1 : Nat) (l1 : List (List ByteArray)) (A2 : Option Addr) (c2 : Nat) (l2 : List Int) (r : Bool) (w : World) (hr0_4 : Kd.C k27 w A0_4 l0_4.length l0_4) (hc0_4 : l0_4.length ≤ c0_4) (hr0_5 : Kd.C Kd.string w A0_5 l0_5.length l0_5) (hc0_5 : l0_5.length ≤ c0_5) (hr1 : Kd.C (Kd.slice 9 Kd.string) w A1 l1.length l1) (hc1 : l1.length ≤ c1) (hr2 : Kd.C kPow w A2 l2.length l2) (hc2 : l2.length ≤ c2) (hg1 : A1 = some ⟨0, 0, none⟩) (hg2 : A2 = some ⟨2, 0, none⟩ ∧ l2 = [1]) (h : laws_FnExactTomlPut.f k a0_0 a0_1 a0_2 a0_3 l0_4 l0_5 l1 l2 = some r) :
  Calls Tryd.prog 3 #[.agg #[.int .i64 a0_0, .int .i64 a0_1, .int .i64 a0_2, .string a0_3, .slice A0_4 l0_4.length c0_4, .slice A0_5 l0_5.length c0_5]] w fun e w' => e = .returned (.bool r) ∧ Below w.heap.size w w' := by
 have hu27 := Tryd.underlying27
 have hu34 := Tryd.underlying34
 have HR0_4 := zA hr0_4
 have HC0_4 := zA hc0_4
 clear hr0_4 hc0_4
 have HR0_5 := zA hr0_5
 have HC0_5 := zA hc0_5
 clear hr0_5 hc0_5
 have HG1 := zA hg1
 clear hg1
 have HR1 := zA hr1
 have HC1 := zA hc1
 clear hr1 hc1
 have HG2 := zA hg2
 clear hg2
 have HR2 := zA hr2
 have HC2 := zA hc2
 clear hr2 hc2
 have HB := zA (yH w.heap.size w)
 have H : ((laws_szValue.f k a0_0 a0_1 a0_2 a0_3 l0_4 l0_5 1048576).bind fun t360 => (if t360 < 0 then (some true) else ((laws_toValue.f k a0_0 a0_1 a0_2 a0_3 l0_4 l0_5).bind fun bt361 => ((spec_TomlPut.f k bt361.1 bt361.2.1 bt361.2.2.1 bt361.2.2.2.1 bt361.2.2.2.2.1 bt361.2.2.2.2.2).bind fun bt371 => ((laws_toValue.f k a0_0 a0_1 a0_2 a0_3 l0_4 l0_5).bind fun bt373 => ((impl_TomlPut.f k bt373.1 bt373.2.1 bt373.2.2.1 bt373.2.2.2.1 bt373.2.2.2.2.1 bt373.2.2.2.2.2 l1 l2).bind fun bt384 => (if bt384.1.toList = bt371.1.toList then (laws_FnExactTomlPut.j0 k (bt384.2 != bt371.2) a0_0 a0_1 a0_2 a0_3 l0_4 l0_5 bt373.1 bt373.2.1 bt373.2.2.1 bt373.2.2.2.1 bt373.2.2.2.2.1 bt373.2.2.2.2.2) else (laws_FnExactTomlPut.j0 k true a0_0 a0_1 a0_2 a0_3 l0_4 l0_5 bt373.1 bt373.2.1 bt373.2.2.1 bt373.2.2.2.1 bt373.2.2.2.2.1 bt373.2.2.2.2.2)))))))) = some r := h
 clear h
 replace H := Option.bind_eq_some_iff.mp H
 obtain ⟨t360, A40, H⟩ := H
 have A4 := zA A40
 clear A40
 by_cases c5 : t360 < 0
 ·rw [if_pos c5] at H
  have c5b0 : decide (t360 < 0) = true := yE c5
  clear c5
  obtain rfl := yG H
  go_enter Tryd.func3, Tryd.ntmps3
  go_wp2_with (first | ((with_reducible refine zS (N := 1) rfl ?_); refine zW ?hg (N := 1) ?hd (cs := #[.int .i64 a0_0, .int .i64 a0_1, .int .i64 a0_2, .string a0_3, .slice A0_4 l0_4.length c0_4, .slice A0_5 l0_5.length c0_5]) (t := 27) ?hr ?_; (case hd => rfl); (case hg => rfl); (case hr => first | (go_simp; done) | (go_simp; rfl)); intro gb359 hg w6 hbox hb; have n0_ := zA (zP apA hb); have n1_ := zA (hbox); have n2_ := zA ((by rw [hg]; exact (zQ apA) : w.heap.size ≤ gb359)); have n3_ := zA ((by rw [hg]; exact (zQ apA) : w.heap.size ≤ gb359)); clear HB; have HB := n0_; have BK359 := n1_; have GW359 := n2_; have GE359 := n3_; clear n0_ n1_ n2_ n3_; clear hb hbox hg; obtain ⟨hcz7_0, hcz7_1, hcz7_2, hcz7_3, hcz7_4, hcz7_5, hfz7_0, hfz7_1, hfz7_2, hfz7_3, hfz7_4, hfz7_5⟩ := zb6 BK359.out) | ((with_reducible refine zT (f := 4) rfl ?_); refine goesL_ (some 11) rfl rfl Tryd.func4 (by kernel_rfl) rfl #[.agg #[.int .i64 a0_0, .int .i64 a0_1, .int .i64 a0_2, .string a0_3, .slice A0_4 l0_4.length c0_4, .slice A0_5 l0_5.length c0_5], .int .i64 1048576] rfl apE ?_; (with_reducible refine (laws_szValue.calls k a0_0 a0_1 a0_2 a0_3 _ _ l0_4 _ _ l0_5 1048576 t360 _ ?side1 ?side2 ?side3 ?side4 A4.out).mono ?_); (case side1 => repeat (first | exact (Kd.C_below HR0_4.out HB.out) | (with_reducible refine Kd.C_alloc ?_ _) | (with_reducible refine Kd.C_drewN ?_ _) | (with_reducible refine Kd.C_drew ?_))); (case side2 => exact HC0_4.out); (case side3 => repeat (first | exact (Kd.C_below HR0_5.out HB.out) | (with_reducible refine Kd.C_alloc ?_ _) | (with_reducible refine Kd.C_drewN ?_ _) | (with_reducible refine Kd.C_drew ?_))); (case side4 => exact HC0_5.out); rintro e w8 ⟨rfl, hb⟩; refine ⟨_, rfl, ?_⟩; have n0_ := zA (zP apA hb); clear HB; have HB := n0_; clear n0_; (try clear hb); (try clear hb2); (try clear hk); (try clear hi)))
  go_ret
  exact ⟨apD, apA⟩
 ·rw [if_neg c5] at H
  have c5b0 : decide (t360 < 0) = false := decide_eq_false c5
  clear c5
  replace H := Option.bind_eq_some_iff.mp H
  obtain ⟨⟨t361, t362, t363, t364, t365, t368⟩, A90, H⟩ := H
  have A9 := zA A90
  clear A90
  replace H := Option.bind_eq_some_iff.mp H
  obtain ⟨⟨t371, t372⟩, A100, H⟩ := H
  have A10 := zA A100
  clear A100
  replace H := Option.bind_eq_some_iff.mp H
  obtain ⟨⟨t373, t374, t375, t376, t377, t380⟩, A110, H⟩ := H
  have A11 := zA A110
  clear A110
  replace H := Option.bind_eq_some_iff.mp H
  obtain ⟨⟨t384, t385⟩, A120, H⟩ := H
  have A12 := zA A120
  clear A120
  have HC13 := zA H
  clear H
  go_enter Tryd.func3, Tryd.ntmps3
  go_upto_region 8 with (first | ((with_reducible refine zS (N := 1) rfl ?_); refine zW ?hg (N := 1) ?hd (cs := #[.int .i64 a0_0, .int .i64 a0_1, .int .i64 a0_2, .string a0_3, .slice A0_4 l0_4.length c0_4, .slice A0_5 l0_5.length c0_5]) (t := 27) ?hr ?_; (case hd => rfl); (case hg => rfl); (case hr => first | (go_simp; done) | (go_simp; rfl)); intro gb359 hg w14 hbox hb; have n0_ := zA (zP apA hb); have n1_ := zA (hbox); have n2_ := zA ((by rw [hg]; exact (zQ apA) : w.heap.size ≤ gb359)); have n3_ := zA ((by rw [hg]; exact (zQ apA) : w.heap.size ≤ gb359)); clear HB; have HB := n0_; have BK359 := n1_; have GW359 := n2_; have GE359 := n3_; clear n0_ n1_ n2_ n3_; clear hb hbox hg; obtain ⟨hcz15_0, hcz15_1, hcz15_2, hcz15_3, hcz15_4, hcz15_5, hfz15_0, hfz15_1, hfz15_2, hfz15_3, hfz15_4, hfz15_5⟩ := zb6 BK359.out) | ((with_reducible refine zT (f := 4) rfl ?_); refine goesL_ (some 11) rfl rfl Tryd.func4 (by kernel_rfl) rfl #[.agg #[.int .i64 a0_0, .int .i64 a0_1, .int .i64 a0_2, .string a0_3, .slice A0_4 l0_4.length c0_4, .slice A0_5 l0_5.length c0_5], .int .i64 1048576] rfl apE ?_; (with_reducible refine (laws_szValue.calls k a0_0 a0_1 a0_2 a0_3 _ _ l0_4 _ _ l0_5 1048576 t360 _ ?side1 ?side2 ?side3 ?side4 A4.out).mono ?_); (case side1 => repeat (first | exact (Kd.C_below HR0_4.out HB.out) | (with_reducible refine Kd.C_alloc ?_ _) | (with_reducible refine Kd.C_drewN ?_ _) | (with_reducible refine Kd.C_drew ?_))); (case side2 => exact HC0_4.out); (case side3 => repeat (first | exact (Kd.C_below HR0_5.out HB.out) | (with_reducible refine Kd.C_alloc ?_ _) | (with_reducible refine Kd.C_drewN ?_ _) | (with_reducible refine Kd.C_drew ?_))); (case side4 => exact HC0_5.out); rintro e w16 ⟨rfl, hb⟩; refine ⟨_, rfl, ?_⟩; have n0_ := zA (zN (g := gb359) (o := .cells #[.int .i64 a0_0, .int .i64 a0_1, .int .i64 a0_2, .string a0_3, .slice A0_4 l0_4.length c0_4, .slice A0_5 l0_5.length c0_5] 27 (0, 0)) (by (with_reducible repeat (first | refine zB ?_ _ | refine zD ?_ | refine zC ?_ _)); exact BK359.out) hb); have n1_ := zA (zP apU hb); clear BK359; clear HB; have BK359 := n0_; have HB := n1_; clear n0_ n1_; (try clear hb); (try clear hb2); (try clear hk); (try clear hi); obtain ⟨hcz17_0, hcz17_1, hcz17_2, hcz17_3, hcz17_4, hcz17_5, hfz17_0, hfz17_1, hfz17_2, hfz17_3, hfz17_4, hfz17_5⟩ := zb6 BK359.out) | ((with_reducible refine zT (f := 6) rfl ?_); refine goesL_ (some 16) rfl rfl Tryd.func6 (by kernel_rfl) rfl #[.agg #[.int .i64 a0_0, .int .i64 a0_1, .int .i64 a0_2, .string a0_3, .slice A0_4 l0_4.length c0_4, .slice A0_5 l0_5.length c0_5]] rfl apE ?_; (with_reducible refine (laws_toValue.calls k a0_0 a0_1 a0_2 a0_3 _ _ l0_4 _ _ l0_5 t361 t362 t363 t364 t365 t368 _ ?side1 ?side2 ?side3 ?side4 A9.out).mono ?_); (case side1 => repeat (first | exact (Kd.C_below HR0_4.out HB.out) | (with_reducible refine Kd.C_alloc ?_ _) | (with_reducible refine Kd.C_drewN ?_ _) | (with_reducible refine Kd.C_drew ?_))); (case side2 => exact HC0_4.out); (case side3 => repeat (first | exact (Kd.C_below HR0_5.out HB.out) | (with_reducible refine Kd.C_alloc ?_ _) | (with_reducible refine Kd.C_drewN ?_ _) | (with_reducible refine Kd.C_drew ?_))); (case side4 => exact HC0_5.out); rintro e w18 ⟨v366, v369, rfl, ho0, ho1, hb⟩; refine ⟨_, rfl, ?_⟩; have n0_ := zA (Kd.R_lower ho0 (zQ apU)); have n1_ := zA (Kd.R_lower ho1 (zQ apU)); have n2_ := zA (zN (g := gb359) (o := .cells #[.int .i64 a0_0, .int .i64 a0_1, .int .i64 a0_2, .string a0_3, .slice A0_4 l0_4.length c0_4, .slice A0_5 l0_5.length c0_5] 27 (0, 0)) (by (with_reducible repeat (first | refine zB ?_ _ | refine zD ?_ | refine zC ?_ _)); exact BK359.out) hb); have n3_ := zA (zP apU hb); clear BK359; clear HB; have HO367 := n0_; have HO370 := n1_; have BK359 := n2_; have HB := n3_; clear n0_ n1_ n2_ n3_; (try clear hb); (try clear hb2); (try clear hk); (try clear hi); (try clear ho0); (try clear ho1); obtain ⟨Ao19, co19, eo19⟩ := Kd.R_slice HO367.out; subst eo19; obtain ⟨Ao20, co20, eo20⟩ := Kd.R_slice HO370.out; subst eo20) | ((with_reducible refine zT (f := 5) rfl ?_); refine goesL_ (some 17) rfl rfl Tryd.func5 (by kernel_rfl) rfl #[.agg #[.int .i64 t361, .int .i64 t362, .int .i64 t363, .string t364, .slice Ao19 t365.length co19, .slice Ao20 t368.length co20]] rfl apE ?_; (with_reducible refine (spec_TomlPut.calls k t361 t362 t363 t364 _ _ t365 _ _ t368 t371 t372 _ ?side1 ?side2 ?side3 ?side4 A10.out).mono ?_); (case side1 => repeat (first | exact (Kd.R_reads' HO367.out).2.2 | (with_reducible refine Kd.C_alloc ?_ _) | (with_reducible refine Kd.C_drewN ?_ _) | (with_reducible refine Kd.C_drew ?_))); (case side2 => exact (Kd.R_reads' HO367.out).2.1); (case side3 => repeat (first | exact (Kd.R_reads' HO370.out).2.2 | (with_reducible refine Kd.C_alloc ?_ _) | (with_reducible refine Kd.C_drewN ?_ _) | (with_reducible refine Kd.C_drew ?_))); (case side4 => exact (Kd.R_reads' HO370.out).2.1); rintro e w21 ⟨rfl, hb⟩; refine ⟨_, rfl, ?_⟩; have n0_ := zA (Kd.R_below (by (with_reducible repeat (first | apply Kd.R_alloc | apply Kd.R_drewN | apply Kd.R_drew)); exact HO367.out) hb); have n1_ := zA (Kd.R_below (by (with_reducible repeat (first | apply Kd.R_alloc | apply Kd.R_drewN | apply Kd.R_drew)); exact HO370.out) hb); have n2_ := zA (zN (g := gb359) (o := .cells #[.int .i64 a0_0, .int .i64 a0_1, .int .i64 a0_2, .string a0_3, .slice A0_4 l0_4.length c0_4, .slice A0_5 l0_5.length c0_5] 27 (0, 0)) (by (with_reducible repeat (first | refine zB ?_ _ | refine zD ?_ | refine zC ?_ _)); exact BK359.out) hb); have n3_ := zA (zP apU hb); clear HO367; clear HO370; clear BK359; clear HB; have HO367 := n0_; have HO370 := n1_; have BK359 := n2_; have HB := n3_; clear n0_ n1_ n2_ n3_; (try clear hb); (try clear hb2); (try clear hk); (try clear hi); obtain ⟨hcz22_0, hcz22_1, hcz22_2, hcz22_3, hcz22_4, hcz22_5, hfz22_0, hfz22_1, hfz22_2, hfz22_3, hfz22_4, hfz22_5⟩ := zb6 BK359.out) | ((with_reducible refine zT (f := 6) rfl ?_); refine goesL_ (some 21) rfl rfl Tryd.func6 (by kernel_rfl) rfl #[.agg #[.int .i64 a0_0, .int .i64 a0_1, .int .i64 a0_2, .string a0_3, .slice A0_4 l0_4.length c0_4, .slice A0_5 l0_5.length c0_5]] rfl apE ?_; (with_reducible refine (laws_toValue.calls k a0_0 a0_1 a0_2 a0_3 _ _ l0_4 _ _ l0_5 t373 t374 t375 t376 t377 t380 _ ?side1 ?side2 ?side3 ?side4 A11.out).mono ?_); (case side1 => repeat (first | exact (Kd.C_below HR0_4.out HB.out) | (with_reducible refine Kd.C_alloc ?_ _) | (with_reducible refine Kd.C_drewN ?_ _) | (with_reducible refine Kd.C_drew ?_))); (case side2 => exact HC0_4.out); (case side3 => repeat (first | exact (Kd.C_below HR0_5.out HB.out) | (with_reducible refine Kd.C_alloc ?_ _) | (with_reducible refine Kd.C_drewN ?_ _) | (with_reducible refine Kd.C_drew ?_))); (case side4 => exact HC0_5.out); rintro e w23 ⟨v378, v381, rfl, ho0, ho1, hb⟩; refine ⟨_, rfl, ?_⟩; have n0_ := zA (Kd.R_mono (Kd.R_told (Kd.R_told (Kd.R_old (by (with_reducible repeat (first | apply Kd.R_alloc | apply Kd.R_drewN | apply Kd.R_drew)); exact HO367.out) hb) (Kd.R_base ho0)) (Kd.R_base ho1)) (fun _ h_ => h_.1)); have n1_ := zA (Kd.R_elder' (by (with_reducible repeat (first | apply Kd.R_alloc | apply Kd.R_drewN | apply Kd.R_drew)); exact HO370.out) (Kd.R_base ho1) hb); have n2_ := zA (Kd.R_lower (Kd.R_new' (Kd.R_new' ho0 (Kd.R_lt (by (with_reducible repeat (first | apply Kd.R_alloc | apply Kd.R_drewN | apply Kd.R_drew)); exact HO367.out))) (Kd.R_lt (by (with_reducible repeat (first | apply Kd.R_alloc | apply Kd.R_drewN | apply Kd.R_drew)); exact HO370.out))) (zQ apU)); have n3_ := zA (Kd.R_lower (Kd.R_new' ho1 (Kd.R_lt (by (with_reducible repeat (first | apply Kd.R_alloc | apply Kd.R_drewN | apply Kd.R_drew)); exact HO370.out))) (zQ apU)); have n4_ := zA (zN (g := gb359) (o := .cells #[.int .i64 a0_0, .int .i64 a0_1, .int .i64 a0_2, .string a0_3, .slice A0_4 l0_4.length c0_4, .slice A0_5 l0_5.length c0_5] 27 (0, 0)) (by (with_reducible repeat (first | refine zB ?_ _ | refine zD ?_ | refine zC ?_ _)); exact BK359.out) hb); have n5_ := zA (zP apU hb); clear HO367; clear HO370; clear BK359; clear HB; have HO367 := n0_; have HO370 := n1_; have HO379 := n2_; have HO382 := n3_; have BK359 := n4_; have HB := n5_; clear n0_ n1_ n2_ n3_ n4_ n5_; (try clear hb); (try clear hb2); (try clear hk); (try clear hi); (try clear ho0); (try clear ho1)) | ((with_reducible refine zS (N := 6) rfl ?_); refine zW ?hg (N := 6) ?hd (cs := #[.int .i64 0, .int .i64 0, .int .i64 0, .string (⟨#[]⟩ : ByteArray), .slice none 0 0, .slice none 0 0]) (t := 34) ?hr ?_; (case hd => rfl); (case hg => rfl); (case hr => first | (go_simp; done) | (go_simp; rfl)); intro gb383 hg w24 hbox hb; have n0_ := zA (Kd.R_below (Kd.R_elderB (by (with_reducible repeat (first | apply Kd.R_alloc | apply Kd.R_drewN | apply Kd.R_drew)); exact HO367.out) gb383 (Nat.le_of_eq hg.symm)) hb); have n1_ := zA (Kd.R_below (by (with_reducible repeat (first | apply Kd.R_alloc | apply Kd.R_drewN | apply Kd.R_drew)); exact HO370.out) hb); have n2_ := zA (Kd.R_below (Kd.R_elderB (by (with_reducible repeat (first | apply Kd.R_alloc | apply Kd.R_drewN | apply Kd.R_drew)); exact HO379.out) gb383 (Nat.le_of_eq hg.symm)) hb); have n3_ := zA (Kd.R_below (by (with_reducible repeat (first | apply Kd.R_alloc | apply Kd.R_drewN | apply Kd.R_drew)); exact HO382.out) hb); have n4_ := zA (zN (g := gb359) (o := .cells #[.int .i64 a0_0, .int .i64 a0_1, .int .i64 a0_2, .string a0_3, .slice A0_4 l0_4.length c0_4, .slice A0_5 l0_5.length c0_5] 27 (0, 0)) (by (with_reducible repeat (first | refine zB ?_ _ | refine zD ?_ | refine zC ?_ _)); exact BK359.out) hb); have n5_ := zA (zP apU hb); have n6_ := zA (hbox); have n7_ := zA ((by rw [hg]; exact (zQ apU) : w.heap.size ≤ gb383)); have n8_ := zA ((by rw [hg]; exact (zQ apU) : w.heap.size ≤ gb383)); have n9_ := zA ((by rw [hg]; exact Nat.ne_of_lt (blk_lt (g := gb359) (o := .cells #[.int .i64 a0_0, .int .i64 a0_1, .int .i64 a0_2, .string a0_3, .slice A0_4 l0_4.length c0_4, .slice A0_5 l0_5.length c0_5] 27 (0, 0)) (by (with_reducible repeat (first | refine zB ?_ _ | refine zD ?_ | refine zC ?_ _)); exact BK359.out)) : gb359 ≠ gb383)); have n10_ := zA ((by rw [hg]; exact Nat.ne_of_gt (blk_lt (g := gb359) (o := .cells #[.int .i64 a0_0, .int .i64 a0_1, .int .i64 a0_2, .string a0_3, .slice A0_4 l0_4.length c0_4, .slice A0_5 l0_5.length c0_5] 27 (0, 0)) (by (with_reducible repeat (first | refine zB ?_ _ | refine zD ?_ | refine zC ?_ _)); exact BK359.out)) : gb383 ≠ gb359)); clear HO367; clear HO370; clear HO379; clear HO382; clear BK359; clear HB; have HO367 := n0_; have HO370 := n1_; have HO379 := n2_; have HO382 := n3_; have BK359 := n4_; have HB := n5_; have BK383 := n6_; have GW383 := n7_; have GE383 := n8_; have NB359_383 := n9_; have NB383_359 := n10_; clear n0_ n1_ n2_ n3_ n4_ n5_ n6_ n7_ n8_ n9_ n10_; clear hb hbox hg; have hnb25 := NB383_359.out; have hnc25 := NB359_383.out; obtain ⟨hcz26_0, hcz26_1, hcz26_2, hcz26_3, hcz26_4, hcz26_5, hfz26_0, hfz26_1, hfz26_2, hfz26_3, hfz26_4, hfz26_5⟩ := zb6 BK383.out; obtain ⟨Ao27, co27, eo27⟩ := Kd.R_slice HO379.out; subst eo27; obtain ⟨Ao28, co28, eo28⟩ := Kd.R_slice HO382.out; subst eo28) | ((with_reducible refine zT (f := 7) rfl ?_); refine goesL_ (some 24) rfl rfl Tryd.func7 (by kernel_rfl) rfl #[.agg #[.int .i64 t373, .int .i64 t374, .int .i64 t375, .string t376, .slice Ao27 t377.length co27, .slice Ao28 t380.length co28]] rfl apE ?_; (with_reducible refine (impl_TomlPut.calls k t373 t374 t375 t376 _ _ t377 _ _ t380 A1 c1 l1 A2 c2 l2 t384 t385 _ ?side1 ?side2 ?side3 ?side4 ?side5 ?side6 ?side7 ?side8 ?side9 ?side10 A12.out).mono ?_); (case side1 => refine (Kd.R_reads' (e := 34) (base := w.heap.size) (ok := fun k_ => (((some k_ ≠ (.slice Ao28 t380.length co28 : Value).ownBlock ∧ some k_ ≠ (.slice Ao19 t365.length co19 : Value).ownBlock) ∧ some k_ ≠ (.slice Ao20 t368.length co20 : Value).ownBlock) ∧ k_ ≠ gb383)) (n := t377.length) (c := co27) ?_).2.2; exact (by (with_reducible repeat (first | apply Kd.R_alloc | apply Kd.R_drewN | apply Kd.R_drew)); exact (Kd.R_mono (Kd.R_far (p := ⟨gb383, 5, none⟩) (Kd.R_far (p := ⟨gb383, 4, none⟩) (Kd.R_far (p := ⟨gb383, 3, none⟩) (Kd.R_far (p := ⟨gb383, 2, none⟩) (Kd.R_far (p := ⟨gb383, 1, none⟩) (Kd.R_far (p := ⟨gb383, 0, none⟩) (Kd.R_mono HO379.out (fun k_ hk => (⟨hk, hk.2⟩ : _ ∧ k_ ≠ gb383))) (fun _ hk => hk.2) (.int .i64 t373)) (fun _ hk => hk.2) (.int .i64 t374)) (fun _ hk => hk.2) (.int .i64 t375)) (fun _ hk => hk.2) (.string t376)) (fun _ hk => hk.2) (.slice Ao27 t377.length co27)) (fun _ hk => hk.2) (.slice Ao28 t380.length co28)) (fun _ h_ => h_.1)))); (case side2 => exact (Kd.R_reads' HO379.out).2.1); (case side3 => refine (Kd.R_reads' (e := 9) (base := w.heap.size) (ok := fun k_ => (True ∧ some k_ ≠ (.slice Ao20 t368.length co20 : Value).ownBlock)) (n := t380.length) (c := co28) ?_).2.2; exact (by (with_reducible repeat (first | apply Kd.R_alloc | apply Kd.R_drewN | apply Kd.R_drew)); exact (Kd.R_mono (Kd.R_far (p := ⟨gb383, 5, none⟩) (Kd.R_far (p := ⟨gb383, 4, none⟩) (Kd.R_far (p := ⟨gb383, 3, none⟩) (Kd.R_far (p := ⟨gb383, 2, none⟩) (Kd.R_far (p := ⟨gb383, 1, none⟩) (Kd.R_far (p := ⟨gb383, 0, none⟩) (Kd.R_types HO382.out BK383.out (by decide)) (fun _ hk => hk.2) (.int .i64 t373)) (fun _ hk => hk.2) (.int .i64 t374)) (fun _ hk => hk.2) (.int .i64 t375)) (fun _ hk => hk.2) (.string t376)) (fun _ hk => hk.2) (.slice Ao27 t377.length co27)) (fun _ hk => hk.2) (.slice Ao28 t380.length co28)) (fun _ h_ => h_.1)))); (case side4 => exact (Kd.R_reads' HO382.out).2.1); (case side5 => exact Kd.C_below HR1.out apV); (case side6 => exact HC1.out); (case side7 => exact Kd.C_below HR2.out apV); (case side8 => exact HC2.out); (case side9 => exact HG1.out); (case side10 => exact HG2.out); rintro e w29 ⟨rfl, hb⟩; refine ⟨_, rfl, ?_⟩; have n0_ := zA (Kd.R_below (by (with_reducible repeat (first | apply Kd.R_alloc | apply Kd.R_drewN | apply Kd.R_drew)); exact (Kd.R_mono (Kd.R_far (p := ⟨gb383, 5, none⟩) (Kd.R_far (p := ⟨gb383, 4, none⟩) (Kd.R_far (p := ⟨gb383, 3, none⟩) (Kd.R_far (p := ⟨gb383, 2, none⟩) (Kd.R_far (p := ⟨gb383, 1, none⟩) (Kd.R_far (p := ⟨gb383, 0, none⟩) (Kd.R_mono HO367.out (fun k_ hk => (⟨hk, hk.2⟩ : _ ∧ k_ ≠ gb383))) (fun _ hk => hk.2) (.int .i64 t373)) (fun _ hk => hk.2) (.int .i64 t374)) (fun _ hk => hk.2) (.int .i64 t375)) (fun _ hk => hk.2) (.string t376)) (fun _ hk => hk.2) (.slice Ao27 t377.length co27)) (fun _ hk => hk.2) (.slice Ao28 t380.length co28)) (fun _ h_ => h_.1))) hb); have n1_ := zA (Kd.R_below (by (with_reducible repeat (first | apply Kd.R_alloc | apply Kd.R_drewN | apply Kd.R_drew)); exact (Kd.R_mono (Kd.R_far (p := ⟨gb383, 5, none⟩) (Kd.R_far (p := ⟨gb383, 4, none⟩) (Kd.R_far (p := ⟨gb383, 3, none⟩) (Kd.R_far (p := ⟨gb383, 2, none⟩) (Kd.R_far (p := ⟨gb383, 1, none⟩) (Kd.R_far (p := ⟨gb383, 0, none⟩) (Kd.R_types HO370.out BK383.out (by decide)) (fun _ hk => hk.2) (.int .i64 t373)) (fun _ hk => hk.2) (.int .i64 t374)) (fun _ hk => hk.2) (.int .i64 t375)) (fun _ hk => hk.2) (.string t376)) (fun _ hk => hk.2) (.slice Ao27 t377.length co27)) (fun _ hk => hk.2) (.slice Ao28 t380.length co28)) (fun _ h_ => h_.1))) hb); have n2_ := zA (Kd.R_below (by (with_reducible repeat (first | apply Kd.R_alloc | apply Kd.R_drewN | apply Kd.R_drew)); exact (Kd.R_mono (Kd.R_far (p := ⟨gb383, 5, none⟩) (Kd.R_far (p := ⟨gb383, 4, none⟩) (Kd.R_far (p := ⟨gb383, 3, none⟩) (Kd.R_far (p := ⟨gb383, 2, none⟩) (Kd.R_far (p := ⟨gb383, 1, none⟩) (Kd.R_far (p := ⟨gb383, 0, none⟩) (Kd.R_mono HO379.out (fun k_ hk => (⟨hk, hk.2⟩ : _ ∧ k_ ≠ gb383))) (fun _ hk => hk.2) (.int .i64 t373)) (fun _ hk => hk.2) (.int .i64 t374)) (fun _ hk => hk.2) (.int .i64 t375)) (fun _ hk => hk.2) (.string t376)) (fun _ hk => hk.2) (.slice Ao27 t377.length co27)) (fun _ hk => hk.2) (.slice Ao28 t380.length co28)) (fun _ h_ => h_.1))) hb); have n3_ := zA (Kd.R_below (by (with_reducible repeat (first | apply Kd.R_alloc | apply Kd.R_drewN | apply Kd.R_drew)); exact (Kd.R_mono (Kd.R_far (p := ⟨gb383, 5, none⟩) (Kd.R_far (p := ⟨gb383, 4, none⟩) (Kd.R_far (p := ⟨gb383, 3, none⟩) (Kd.R_far (p := ⟨gb383, 2, none⟩) (Kd.R_far (p := ⟨gb383, 1, none⟩) (Kd.R_far (p := ⟨gb383, 0, none⟩) (Kd.R_types HO382.out BK383.out (by decide)) (fun _ hk => hk.2) (.int .i64 t373)) (fun _ hk => hk.2) (.int .i64 t374)) (fun _ hk => hk.2) (.int .i64 t375)) (fun _ hk => hk.2) (.string t376)) (fun _ hk => hk.2) (.slice Ao27 t377.length co27)) (fun _ hk => hk.2) (.slice Ao28 t380.length co28)) (fun _ h_ => h_.1))) hb); have n4_ := zA (zN (g := gb359) (o := .cells #[.int .i64 a0_0, .int .i64 a0_1, .int .i64 a0_2, .string a0_3, .slice A0_4 l0_4.length c0_4, .slice A0_5 l0_5.length c0_5] 27 (0, 0)) (by (with_reducible repeat (first | refine zB ?_ _ | refine zD ?_ | refine zC ?_ _)); refine blk_far ?_ NB359_383.out _; (with_reducible repeat (first | refine zB ?_ _ | refine zD ?_ | refine zC ?_ _)); refine blk_far ?_ NB359_383.out _; (with_reducible repeat (first | refine zB ?_ _ | refine zD ?_ | refine zC ?_ _)); refine blk_far ?_ NB359_383.out _; (with_reducible repeat (first | refine zB ?_ _ | refine zD ?_ | refine zC ?_ _)); refine blk_far ?_ NB359_383.out _; (with_reducible repeat (first | refine zB ?_ _ | refine zD ?_ | refine zC ?_ _)); refine blk_far ?_ NB359_383.out _; (with_reducible repeat (first | refine zB ?_ _ | refine zD ?_ | refine zC ?_ _)); refine blk_far ?_ NB359_383.out _; (with_reducible repeat (first | refine zB ?_ _ | refine zD ?_ | refine zC ?_ _)); exact BK359.out) hb); have n5_ := zA (zN (g := gb383) (o := .cells #[.int .i64 t373, .int .i64 t374, .int .i64 t375, .string t376, .slice Ao27 t377.length co27, .slice Ao28 t380.length co28] 34 (0, 0)) (by (with_reducible repeat (first | refine zB ?_ _ | refine zD ?_ | refine zC ?_ _)); refine blk_put (cs := #[.int .i64 t373, .int .i64 t374, .int .i64 t375, .string t376, .slice Ao27 t377.length co27, .slice none 0 0]) ?_ 5 _ rfl; (with_reducible repeat (first | refine zB ?_ _ | refine zD ?_ | refine zC ?_ _)); refine blk_put (cs := #[.int .i64 t373, .int .i64 t374, .int .i64 t375, .string t376, .slice none 0 0, .slice none 0 0]) ?_ 4 _ rfl; (with_reducible repeat (first | refine zB ?_ _ | refine zD ?_ | refine zC ?_ _)); refine blk_put (cs := #[.int .i64 t373, .int .i64 t374, .int .i64 t375, .string (⟨#[]⟩ : ByteArray), .slice none 0 0, .slice none 0 0]) ?_ 3 _ rfl; (with_reducible repeat (first | refine zB ?_ _ | refine zD ?_ | refine zC ?_ _)); refine blk_put (cs := #[.int .i64 t373, .int .i64 t374, .int .i64 0, .string (⟨#[]⟩ : ByteArray), .slice none 0 0, .slice none 0 0]) ?_ 2 _ rfl; (with_reducible repeat (first | refine zB ?_ _ | refine zD ?_ | refine zC ?_ _)); refine blk_put (cs := #[.int .i64 t373, .int .i64 0, .int .i64 0, .string (⟨#[]⟩ : ByteArray), .slice none 0 0, .slice none 0 0]) ?_ 1 _ rfl; (with_reducible repeat (first | refine zB ?_ _ | refine zD ?_ | refine zC ?_ _)); refine blk_put (cs := #[.int .i64 0, .int .i64 0, .int .i64 0, .string (⟨#[]⟩ : ByteArray), .slice none 0 0, .slice none 0 0]) ?_ 0 _ rfl; (with_reducible repeat (first | refine zB ?_ _ | refine zD ?_ | refine zC ?_ _)); exact BK383.out) hb); have n6_ := zA (zP apV hb); clear HO367; clear HO370; clear HO379; clear HO382; clear BK359; clear BK383; clear HB; have HO367 := n0_; have HO370 := n1_; have HO379 := n2_; have HO382 := n3_; have BK359 := n4_; have BK383 := n5_; have HB := n6_; clear n0_ n1_ n2_ n3_ n4_ n5_ n6_; (try clear hb); (try clear hb2); (try clear hk); (try clear hi)))
  (try simp only [Act.put, zK, zL, zM])
  go_cut [34] (fun v34 wc => ∃ (kq : Nat) (x34_12 : Bool), v34 = .bool x34_12 ∧ Aside0 (laws_FnExactTomlPut.j0 kq x34_12 a0_0 a0_1 a0_2 a0_3 l0_4 l0_5 t373 t374 t375 t376 t377 t380 = some r) ∧ Aside0 (kq ≤ k) ∧ Aside0 (Kd.R k34 34 wc w.heap.size (fun k_ => some k_ ≠ ((.slice Ao28 t380.length co28) : Value).ownBlock ∧ k_ ≠ gb383) (.slice Ao27 t377.length co27) t377) ∧ Aside0 (Kd.R Kd.string 9 wc w.heap.size (fun _ => True) (.slice Ao28 t380.length co28) t380) ∧ Aside0 (wc.heap[gb359]? = some (.cells #[.int .i64 a0_0, .int .i64 a0_1, .int .i64 a0_2, .string a0_3, (.slice A0_4 l0_4.length c0_4), (.slice A0_5 l0_5.length c0_5)] 27 (0, 0))) ∧ Aside0 (wc.heap[gb383]? = some (.cells #[.int .i64 t373, .int .i64 t374, .int .i64 t375, .string t376, (.slice Ao27 t377.length co27), (.slice Ao28 t380.length co28)] 34 (0, 0))) ∧ Aside0 (Below w.heap.size w wc))
  case first =>
   have H := HC13.out
   clear HC13
   by_cases c30 : t384.toList = t371.toList
   ·rw [if_pos c30] at H
    have c30b0 : (t384.toList == t371.toList) = true := beq_iff_eq.mpr c30
    have c30b1 : (t384.toList != t371.toList) = false := bne_eq_false_iff_eq.mpr c30
    clear c30
    (first | rw [c30b0] | (simp only [i64_w, i32_w]; rw [c30b0]) | skip)
    have H' := zA H
    clear H
    go_wp2
    go_meet
    case rel => exact ⟨_, ((t385 != t372)), apC, H', ⟨by first | omega | exact yJ _⟩, ⟨by (with_reducible repeat (first | apply Kd.R_alloc | apply Kd.R_drewN | apply Kd.R_drew)); exact Kd.R_mono HO379.out (fun _ hk => ⟨hk.1.1.1, hk.2⟩)⟩, ⟨by (with_reducible repeat (first | apply Kd.R_alloc | apply Kd.R_drewN | apply Kd.R_drew)); exact Kd.R_mono HO382.out (fun _ hk => trivial)⟩, ⟨by (with_reducible repeat (first | refine zB ?_ _ | refine zD ?_ | refine zC ?_ _)); exact BK359.out⟩, ⟨by (with_reducible repeat (first | refine zB ?_ _ | refine zD ?_ | refine zC ?_ _)); exact BK383.out⟩, ⟨apV⟩⟩
   ·rw [if_neg c30] at H
    have c30b0 : (t384.toList == t371.toList) = false := beq_eq_false_iff_ne.mpr c30
    have c30b1 : (t384.toList != t371.toList) = true := bne_iff_ne.mpr c30
    (first | rw [c30b0] | (simp only [i64_w, i32_w]; rw [c30b0]) | skip)
    have H' := zA H
    clear H
    go_wp2
    go_meet
    case rel => exact ⟨_, (true), apC, H', ⟨by first | omega | exact yJ _⟩, ⟨by (with_reducible repeat (first | apply Kd.R_alloc | apply Kd.R_drewN | apply Kd.R_drew)); exact Kd.R_mono HO379.out (fun _ hk => ⟨hk.1.1.1, hk.2⟩)⟩, ⟨by (with_reducible repeat (first | apply Kd.R_alloc | apply Kd.R_drewN | apply Kd.R_drew)); exact Kd.R_mono HO382.out (fun _ hk => trivial)⟩, ⟨by (with_reducible repeat (first | refine zB ?_ _ | refine zD ?_ | refine zC ?_ _)); exact BK359.out⟩, ⟨by (with_reducible repeat (first | refine zB ?_ _ | refine zD ?_ | refine zC ?_ _)); exact BK383.out⟩, ⟨apV⟩⟩
  case rest =>
   clear HC13
   try clear c1 c2 p2 c3 c4 c5 c5b0 c6 c7 c25 c30 c30b0 c30b1 hcz15_0 hcz15_1 hcz15_2 hcz15_3 hcz15_4 hcz15_5 hcz17_0 hcz17_1 hcz17_2 hcz17_3 hcz17_4 hcz17_5 hcz22_0 hcz22_1 hcz22_2 hcz22_3 hcz22_4 hcz22_5 hcz26_0 hcz26_1 hcz26_2 hcz26_3 hcz26_4 hcz26_5 hcz7_0 hcz7_1 hcz7_2 hcz7_3 hcz7_4 hcz7_5 hfz15_0 hfz15_1 hfz15_2 hfz15_3 hfz15_4 hfz15_5 hfz17_0 hfz17_1 hfz17_2 hfz17_3 hfz17_4 hfz17_5 hfz22_0 hfz22_1 hfz22_2 hfz22_3 hfz22_4 hfz22_5 hfz26_0 hfz26_1 hfz26_2 hfz26_3 hfz26_4 hfz26_5 hfz7_0 hfz7_1 hfz7_2 hfz7_3 hfz7_4 hfz7_5
   obtain ⟨kq, x34_12, rfl, HA, HJ12, HO_384004, HO_384005, BK359, BK383, HB⟩ := hcut
   cases kq with
   | zero => exact absurd HA.out (by simp [laws_FnExactTomlPut.j0])
   | succ kj12 =>
    have H := HA.out
    clear HA
    simp only [laws_FnExactTomlPut.j0] at H
    by_cases c31 : x34_12 = true
    ·subst c31
     have H1 := H; rw [if_pos rfl] at H1
     clear H
     have H := H1
     clear H1
     exact absurd H (by simp)
    ·replace c31 := Bool.eq_false_iff.mpr c31
     subst c31
     have H1 := H; rw [if_neg (show ¬ (false = true) by decide)] at H1
     clear H
     have H := H1
     clear H1
     replace H := Option.bind_eq_some_iff.mp H
     obtain ⟨⟨t386, t387, t388, t389, t390, t393⟩, A320, H⟩ := H
     have A32 := zA A320
     clear A320
     replace H := Option.bind_eq_some_iff.mp H
     obtain ⟨t396, A330, H⟩ := H
     have A33 := zA A330
     clear A330
     by_cases c34 : t396 = true
     ·subst c34
      have H1 := H; rw [if_pos rfl] at H1
      clear H
      have H := H1
      clear H1
      obtain rfl := yG H
      try go_wp2
      have n0_ := zA (Kd.R_drew HO_384004.out)
      have n1_ := zA (Kd.R_drew HO_384005.out)
      have n2_ := zA (zD BK359.out)
      have n3_ := zA (zD BK383.out)
      have n4_ := zA (zF HB.out)
      clear HO_384004
      clear HO_384005
      clear BK359
      clear BK383
      clear HB
      have HO_384004 := n0_
      have HO_384005 := n1_
      have BK359 := n2_
      have BK383 := n3_
      have HB := n4_
      clear n0_ n1_ n2_ n3_ n4_
      refine start_ (n := 5) (S := fun w' => w'.cell? ⟨gb383, 0, none⟩ = some (.int .i64 t373) ∧ w'.cell? ⟨gb383, 1, none⟩ = some (.int .i64 t374) ∧ w'.cell? ⟨gb383, 2, none⟩ = some (.int .i64 t375) ∧ w'.cell? ⟨gb383, 3, none⟩ = some (.string t376) ∧ w'.cell? ⟨gb383, 4, none⟩ = some (.slice Ao27 t377.length co27) ∧ w'.cell? ⟨gb383, 5, none⟩ = some (.slice Ao28 t380.length co28) ∧ w'.cell? ⟨gb359, 0, none⟩ = some (.int .i64 a0_0) ∧ w'.cell? ⟨gb359, 1, none⟩ = some (.int .i64 a0_1) ∧ w'.cell? ⟨gb359, 2, none⟩ = some (.int .i64 a0_2) ∧ w'.cell? ⟨gb359, 3, none⟩ = some (.string a0_3) ∧ w'.cell? ⟨gb359, 4, none⟩ = some (.slice A0_4 l0_4.length c0_4) ∧ w'.cell? ⟨gb359, 5, none⟩ = some (.slice A0_5 l0_5.length c0_5)) (ds := []) #[false, false, false, false, false] (by kernel_rfl) rfl rfl ⟨(zJ BK383.out 0).trans rfl, (zJ BK383.out 1).trans rfl, (zJ BK383.out 2).trans rfl, (zJ BK383.out 3).trans rfl, (zJ BK383.out 4).trans rfl, (zJ BK383.out 5).trans rfl, (zJ BK359.out 0).trans rfl, (zJ BK359.out 1).trans rfl, (zJ BK359.out 2).trans rfl, (zJ BK359.out 3).trans rfl, (zJ BK359.out 4).trans rfl, (zJ BK359.out 5).trans rfl⟩ (fun hHeld => ?_)
      generalize wc.drew = w35 at HO_384004 HO_384005 BK359 BK383 HB hHeld ⊢
      refine take_ (i := 0) (N := some 35) (v := ?_) (a' := ?_) #[true, false, false, false, false] rfl rfl (by kernel_rfl) (fun _ _ _ h => h) (Or.inl ⟨by rfl, ?_⟩) hHeld ?_ ?_
      rotate_left
      ·rintro w' ⟨s0, s1, s2, s3, s4, s5, s6, s7, s8, s9, s10, s11⟩
       go_simp
       with_reducible rfl
      rotate_left
      ·simp only [Act.put, zK, zL, zM, i64_w, i32_w]
       rfl
      refine take_ (i := 1) (N := some 36) (v := ?_) (a' := ?_) #[true, true, false, false, false] rfl rfl (by kernel_rfl) (fun _ _ _ h => h) (Or.inl ⟨by rfl, ?_⟩) hHeld ?_ ?_
      rotate_left
      ·rintro w' ⟨s0, s1, s2, s3, s4, s5, s6, s7, s8, s9, s10, s11⟩
       go_simp
       with_reducible rfl
      rotate_left
      ·simp only [Act.put, zK, zL, zM, i64_w, i32_w]
       rfl
      refine one_ (i := 2) (N := some 37) #[true, true, true, false, false] rfl rfl (by kernel_rfl) (by decide) (fun K hK => ?_)
      refine goes_ Tryd.func6 (by kernel_rfl) rfl #[.agg #[.int .i64 a0_0, .int .i64 a0_1, .int .i64 a0_2, .string a0_3, .slice A0_4 l0_4.length c0_4, .slice A0_5 l0_5.length c0_5]] (by rfl) rfl rfl apE ?_
      with_reducible refine (laws_toValue.calls kj12 a0_0 a0_1 a0_2 a0_3 _ _ l0_4 _ _ l0_5 t386 t387 t388 t389 t390 t393 _ ?side1 ?side2 ?side3 ?side4 A32.out).mono ?_
      (case side1 => repeat (first | exact (Kd.C_below HR0_4.out HB.out) | (with_reducible refine Kd.C_alloc ?_ _) | (with_reducible refine Kd.C_drewN ?_ _) | (with_reducible refine Kd.C_drew ?_)))
      (case side2 => exact HC0_4.out)
      (case side3 => repeat (first | exact (Kd.C_below HR0_5.out HB.out) | (with_reducible refine Kd.C_alloc ?_ _) | (with_reducible refine Kd.C_drewN ?_ _) | (with_reducible refine Kd.C_drew ?_)))
      (case side4 => exact HC0_5.out)
      rintro e w36 ⟨v391, v394, rfl, ho0, ho1, hb⟩
      refine ⟨_, rfl, ?_⟩
      have n0_ := zA (Kd.R_mono (Kd.R_told (Kd.R_told (Kd.R_old (by (with_reducible repeat (first | apply Kd.R_alloc | apply Kd.R_drewN | apply Kd.R_drew)); exact HO_384004.out) hb) (Kd.R_base ho0)) (Kd.R_base ho1)) (fun _ h_ => h_.1))
      have n1_ := zA (Kd.R_elder' (by (with_reducible repeat (first | apply Kd.R_alloc | apply Kd.R_drewN | apply Kd.R_drew)); exact HO_384005.out) (Kd.R_base ho1) hb)
      have n2_ := zA (Kd.R_lower (Kd.R_newB (Kd.R_new' (Kd.R_new' ho0 (Kd.R_lt (by (with_reducible repeat (first | apply Kd.R_alloc | apply Kd.R_drewN | apply Kd.R_drew)); exact HO_384004.out))) (Kd.R_lt (by (with_reducible repeat (first | apply Kd.R_alloc | apply Kd.R_drewN | apply Kd.R_drew)); exact HO_384005.out))) (g := gb383) (o := .cells #[.int .i64 t373, .int .i64 t374, .int .i64 t375, .string t376, .slice Ao27 t377.length co27, .slice Ao28 t380.length co28] 34 (0, 0)) (by (with_reducible repeat (first | refine zB ?_ _ | refine zD ?_ | refine zC ?_ _)); exact BK383.out)) (zQ apV))
      have n3_ := zA (Kd.R_lower (Kd.R_new' ho1 (Kd.R_lt (by (with_reducible repeat (first | apply Kd.R_alloc | apply Kd.R_drewN | apply Kd.R_drew)); exact HO_384005.out))) (zQ apV))
      have n4_ := zA (zN (g := gb359) (o := .cells #[.int .i64 a0_0, .int .i64 a0_1, .int .i64 a0_2, .string a0_3, .slice A0_4 l0_4.length c0_4, .slice A0_5 l0_5.length c0_5] 27 (0, 0)) (by (with_reducible repeat (first | refine zB ?_ _ | refine zD ?_ | refine zC ?_ _)); exact BK359.out) hb)
      have n5_ := zA (zN (g := gb383) (o := .cells #[.int .i64 t373, .int .i64 t374, .int .i64 t375, .string t376, .slice Ao27 t377.length co27, .slice Ao28 t380.length co28] 34 (0, 0)) (by (with_reducible repeat (first | refine zB ?_ _ | refine zD ?_ | refine zC ?_ _)); exact BK383.out) hb)
      have n6_ := zA (zP apV hb)
      clear HO_384004
      clear HO_384005
      clear BK359
      clear BK383
      clear HB
      have HO_384004 := n0_
      have HO_384005 := n1_
      have HO392 := n2_
      have HO395 := n3_
      have BK359 := n4_
      have BK383 := n5_
      have HB := n6_
      clear n0_ n1_ n2_ n3_ n4_ n5_ n6_
      (try clear hb)
      (try clear hb2)
      (try clear hk)
      (try clear hi)
      (try clear ho0)
      (try clear ho1)
      obtain ⟨Ao37, co37, eo37⟩ := Kd.R_slice HO392.out
      (first | subst eo37 | (injection eo37 with f1_ f2_ f3_; have f4_ := f1_.symm; have f5_ := f3_.symm; clear f1_ f2_ f3_; subst f4_; subst f5_))
      obtain ⟨Ao38, co38, eo38⟩ := Kd.R_slice HO395.out
      (first | subst eo38 | (injection eo38 with f1_ f2_ f3_; have f4_ := f1_.symm; have f5_ := f3_.symm; clear f1_ f2_ f3_; subst f4_; subst f5_))
      refine hK.out _ _ ⟨(zJ BK383.out 0).trans rfl, (zJ BK383.out 1).trans rfl, (zJ BK383.out 2).trans rfl, (zJ BK383.out 3).trans rfl, (zJ BK383.out 4).trans rfl, (zJ BK383.out 5).trans rfl, (zJ BK359.out 0).trans rfl, (zJ BK359.out 1).trans rfl, (zJ BK359.out 2).trans rfl, (zJ BK359.out 3).trans rfl, (zJ BK359.out 4).trans rfl, (zJ BK359.out 5).trans rfl⟩ (fun hHeld => ?_)
      clear hK K
      refine norm_ (a' := ?_) ?_ ?_
      rotate_left
      ·show Act.put _ (some 37) _ = _
       simp only [Act.put, zK, zL, zM, i64_w, i32_w]
       rfl
      refine one_ (i := 3) (N := some 38) #[true, true, true, true, false] rfl rfl (by kernel_rfl) (by decide) (fun K hK => ?_)
      refine goes_ Tryd.func8 (by kernel_rfl) rfl #[.agg #[.int .i64 t373, .int .i64 t374, .int .i64 t375, .string t376, .slice Ao27 t377.length co27, .slice Ao28 t380.length co28], .agg #[.int .i64 t386, .int .i64 t387, .int .i64 t388, .string t389, .slice Ao37 t390.length co37, .slice Ao38 t393.length co38]] (by rfl) rfl rfl apE ?_
      with_reducible refine (laws_eqValue.calls kj12 t373 t374 t375 t376 _ _ t377 _ _ t380 t386 t387 t388 t389 _ _ t390 _ _ t393 true _ ?side1 ?side2 ?side3 ?side4 ?side5 ?side6 ?side7 ?side8 A33.out).mono ?_
      (case side1 => repeat (first | exact (Kd.R_reads' HO_384004.out).2.2 | (with_reducible refine Kd.C_alloc ?_ _) | (with_reducible refine Kd.C_drewN ?_ _) | (with_reducible refine Kd.C_drew ?_)))
      (case side2 => exact (Kd.R_reads' HO_384004.out).2.1)
      (case side3 => repeat (first | exact (Kd.R_reads' HO_384005.out).2.2 | (with_reducible refine Kd.C_alloc ?_ _) | (with_reducible refine Kd.C_drewN ?_ _) | (with_reducible refine Kd.C_drew ?_)))
      (case side4 => exact (Kd.R_reads' HO_384005.out).2.1)
      (case side5 => repeat (first | exact (Kd.R_reads' HO392.out).2.2 | (with_reducible refine Kd.C_alloc ?_ _) | (with_reducible refine Kd.C_drewN ?_ _) | (with_reducible refine Kd.C_drew ?_)))
      (case side6 => exact (Kd.R_reads' HO392.out).2.1)
      (case side7 => repeat (first | exact (Kd.R_reads' HO395.out).2.2 | (with_reducible refine Kd.C_alloc ?_ _) | (with_reducible refine Kd.C_drewN ?_ _) | (with_reducible refine Kd.C_drew ?_)))
      (case side8 => exact (Kd.R_reads' HO395.out).2.1)
      rintro e w39 ⟨rfl, hb⟩
      refine ⟨_, rfl, ?_⟩
      have n0_ := zA (Kd.R_below (by (with_reducible repeat (first | apply Kd.R_alloc | apply Kd.R_drewN | apply Kd.R_drew)); exact HO_384004.out) hb)
      have n1_ := zA (Kd.R_below (by (with_reducible repeat (first | apply Kd.R_alloc | apply Kd.R_drewN | apply Kd.R_drew)); exact HO_384005.out) hb)
      have n2_ := zA (Kd.R_below (by (with_reducible repeat (first | apply Kd.R_alloc | apply Kd.R_drewN | apply Kd.R_drew)); exact HO392.out) hb)
      have n3_ := zA (Kd.R_below (by (with_reducible repeat (first | apply Kd.R_alloc | apply Kd.R_drewN | apply Kd.R_drew)); exact HO395.out) hb)
      have n4_ := zA (zN (g := gb359) (o := .cells #[.int .i64 a0_0, .int .i64 a0_1, .int .i64 a0_2, .string a0_3, .slice A0_4 l0_4.length c0_4, .slice A0_5 l0_5.length c0_5] 27 (0, 0)) (by (with_reducible repeat (first | refine zB ?_ _ | refine zD ?_ | refine zC ?_ _)); exact BK359.out) hb)
      have n5_ := zA (zN (g := gb383) (o := .cells #[.int .i64 t373, .int .i64 t374, .int .i64 t375, .string t376, .slice Ao27 t377.length co27, .slice Ao28 t380.length co28] 34 (0, 0)) (by (with_reducible repeat (first | refine zB ?_ _ | refine zD ?_ | refine zC ?_ _)); exact BK383.out) hb)
      have n6_ := zA (zP apV hb)
      clear HO_384004
      clear HO_384005
      clear HO392
      clear HO395
      clear BK359
      clear BK383
      clear HB
      have HO_384004 := n0_
      have HO_384005 := n1_
      have HO392 := n2_
      have HO395 := n3_
      have BK359 := n4_
      have BK383 := n5_
      have HB := n6_
      clear n0_ n1_ n2_ n3_ n4_ n5_ n6_
      (try clear hb)
      (try clear hb2)
      (try clear hk)
      (try clear hi)
      refine hK.out _ _ ⟨(zJ BK383.out 0).trans rfl, (zJ BK383.out 1).trans rfl, (zJ BK383.out 2).trans rfl, (zJ BK383.out 3).trans rfl, (zJ BK383.out 4).trans rfl, (zJ BK383.out 5).trans rfl, (zJ BK359.out 0).trans rfl, (zJ BK359.out 1).trans rfl, (zJ BK359.out 2).trans rfl, (zJ BK359.out 3).trans rfl, (zJ BK359.out 4).trans rfl, (zJ BK359.out 5).trans rfl⟩ (fun hHeld => ?_)
      clear hK K
      refine norm_ (a' := ?_) ?_ ?_
      rotate_left
      ·show Act.put _ (some 38) _ = _
       simp only [Act.put, zK, zL, zM, i64_w, i32_w]
       rfl
      refine pure_ (i := 4) (N := some 39) (v := ?_) (a' := ?_) #[true, true, true, true, true] rfl rfl (by kernel_rfl) (fun _ _ _ h => h) (Or.inl ⟨by rfl, ?_⟩) ?_ ?_
      rotate_left
      ·intro w'
       go_simp
       with_reducible rfl
      rotate_left
      ·simp only [Act.put, zK, zL, zM, i64_w, i32_w]
       rfl
      refine done_ (by kernel_rfl) ?_
      try go_wp2
      go_ret
      exact ⟨apD, apV⟩
     ·replace c34 := Bool.eq_false_iff.mpr c34
      subst c34
      have H1 := H; rw [if_neg (show ¬ (false = true) by decide)] at H1
      clear H
      have H := H1
      clear H1
      exact absurd H (by simp)

end Go.Proofs.YtmdpjfmkhnjilaaDoor.Q
