-- laid by a program of this session (wip/tools) out of the translation; Lean checks it
import Derived.Test.YtihepjjjdjemfaaDoorBFnExactJsonWideq3
namespace Go.Proofs.YtihepjjjdjemfaaDoor.Q
open Go.RowKit Go.Proofs.YtihepjjjdjemfaaDoorW.PrintWords Go.Proofs.YtihepjjjdjemfaaDoorW.PrintLast Go.Proofs.YtihepjjjdjemfaaDoorW.PrintMore Go.Proofs.YtihepjjjdjemfaaDoorX
attribute [local go_sem] max2_int min2_int max_two min_two max_three min_three max_four min_four   -- for this text's walks alone
set_option linter.unusedVariables false
set_option linter.unusedSimpArgs false

mutual
def spec_l12Wide.l0 : Nat → ByteArray → ByteArray → Int → Int → Int → Int → ByteArray → List (S33) → List ByteArray → Option (ByteArray)
 | 0, _, _, _, _, _, _, _, _, _ => none
 | k + 1, x1, x5, x6, x216000, x216001, x216002, x216003, x216004, x216005 => if x6 < (x216004.length : Int) then (if x6 > 0 then (if x5.size + 1 ≤ 9223372036854775807 then (spec_l12Wide.j1 k x1 (x5 ++ (⟨#[44]⟩ : ByteArray)) x6 x216000 x216001 x216002 x216003 x216004 x216005) else (none)) else (spec_l12Wide.j1 k x1 x5 x6 x216000 x216001 x216002 x216003 x216004 x216005)) else (if x216000 = 6 then (if 1 + x5.size ≤ 9223372036854775807 then (if ((⟨#[123]⟩ : ByteArray) ++ x5).size + 1 ≤ 9223372036854775807 then (if (((⟨#[123]⟩ : ByteArray) ++ x5) ++ (⟨#[10]⟩ : ByteArray)).size + x1.size ≤ 9223372036854775807 then (if ((((⟨#[123]⟩ : ByteArray) ++ x5) ++ (⟨#[10]⟩ : ByteArray)) ++ x1).size + 1 ≤ 9223372036854775807 then (some (((((⟨#[123]⟩ : ByteArray) ++ x5) ++ (⟨#[10]⟩ : ByteArray)) ++ x1) ++ (⟨#[125]⟩ : ByteArray))) else (none)) else (none)) else (none)) else (none)) else (if 1 + x5.size ≤ 9223372036854775807 then (if ((⟨#[91]⟩ : ByteArray) ++ x5).size + 1 ≤ 9223372036854775807 then (if (((⟨#[91]⟩ : ByteArray) ++ x5) ++ (⟨#[10]⟩ : ByteArray)).size + x1.size ≤ 9223372036854775807 then (if ((((⟨#[91]⟩ : ByteArray) ++ x5) ++ (⟨#[10]⟩ : ByteArray)) ++ x1).size + 1 ≤ 9223372036854775807 then (some (((((⟨#[91]⟩ : ByteArray) ++ x5) ++ (⟨#[10]⟩ : ByteArray)) ++ x1) ++ (⟨#[93]⟩ : ByteArray))) else (none)) else (none)) else (none)) else (none)))
def spec_l12Wide.j1 : Nat → ByteArray → ByteArray → Int → Int → Int → Int → ByteArray → List (S33) → List ByteArray → Option (ByteArray)
 | 0, _, _, _, _, _, _, _, _, _ => none
 | k + 1, x1, x5, x6, x216000, x216001, x216002, x216003, x216004, x216005 => if x5.size + 1 ≤ 9223372036854775807 then (if (x5 ++ (⟨#[10]⟩ : ByteArray)).size + x1.size ≤ 9223372036854775807 then (if ((x5 ++ (⟨#[10]⟩ : ByteArray)) ++ x1).size + 2 ≤ 9223372036854775807 then (if x216000 = 6 then (if 0 ≤ x6 then (if x6 < (x216005.length : Int) then ((spec_l7Quote.f k (rdOf ByteArray.empty x216005 x6)).bind fun t218 => (if (((x5 ++ (⟨#[10]⟩ : ByteArray)) ++ x1) ++ (⟨#[32, 32]⟩ : ByteArray)).size + t218.size ≤ 9223372036854775807 then (if ((((x5 ++ (⟨#[10]⟩ : ByteArray)) ++ x1) ++ (⟨#[32, 32]⟩ : ByteArray)) ++ t218).size + 2 ≤ 9223372036854775807 then (if x6 < (x216004.length : Int) then (if x1.size + 2 ≤ 9223372036854775807 then ((spec_l12Wide.f k ((rd_T33 x216004 x6).f0) ((rd_T33 x216004 x6).f1.f0) ((rd_T33 x216004 x6).f1.f1) ((rd_T33 x216004 x6).f2) ((rd_T33 x216004 x6).f3) ((rd_T33 x216004 x6).f4) (x1 ++ (⟨#[32, 32]⟩ : ByteArray))).bind fun t220 => (if (((((x5 ++ (⟨#[10]⟩ : ByteArray)) ++ x1) ++ (⟨#[32, 32]⟩ : ByteArray)) ++ t218) ++ (⟨#[58, 32]⟩ : ByteArray)).size + t220.size ≤ 9223372036854775807 then (spec_l12Wide.l0 k x1 ((((((x5 ++ (⟨#[10]⟩ : ByteArray)) ++ x1) ++ (⟨#[32, 32]⟩ : ByteArray)) ++ t218) ++ (⟨#[58, 32]⟩ : ByteArray)) ++ t220) (wrap64 (x6 + 1)) x216000 x216001 x216002 x216003 x216004 x216005) else (none))) else (none)) else (none)) else (none)) else (none))) else (none)) else (none)) else (if 0 ≤ x6 then (if x6 < (x216004.length : Int) then (if x1.size + 2 ≤ 9223372036854775807 then ((spec_l12Wide.f k ((rd_T33 x216004 x6).f0) ((rd_T33 x216004 x6).f1.f0) ((rd_T33 x216004 x6).f1.f1) ((rd_T33 x216004 x6).f2) ((rd_T33 x216004 x6).f3) ((rd_T33 x216004 x6).f4) (x1 ++ (⟨#[32, 32]⟩ : ByteArray))).bind fun t222 => (if (((x5 ++ (⟨#[10]⟩ : ByteArray)) ++ x1) ++ (⟨#[32, 32]⟩ : ByteArray)).size + t222.size ≤ 9223372036854775807 then (spec_l12Wide.l0 k x1 ((((x5 ++ (⟨#[10]⟩ : ByteArray)) ++ x1) ++ (⟨#[32, 32]⟩ : ByteArray)) ++ t222) (wrap64 (x6 + 1)) x216000 x216001 x216002 x216003 x216004 x216005) else (none))) else (none)) else (none)) else (none))) else (none)) else (none)) else (none)
def spec_l12Wide.f : Nat → Int → Int → Int → ByteArray → List (S33) → List ByteArray → ByteArray → Option (ByteArray)
 | 0, _, _, _, _, _, _, _ => none
 | k + 1, a0_0, a0_1, a0_2, a0_3, l0_4, l0_5, a1 => if (l0_4.length : Int) = 0 then ((spec_l7Put.f k a0_0 a0_1 a0_2 a0_3 l0_4 l0_5).bind fun t216 => (some t216)) else (spec_l12Wide.l0 k a1 (⟨#[]⟩ : ByteArray) 0 a0_0 a0_1 a0_2 a0_3 l0_4 l0_5)
end
theorem spec_l12Wide.mono_l : ∀ k, (∀ y0 y1 y2 y3 y4 y5 y6, LeO (spec_l12Wide.f k y0 y1 y2 y3 y4 y5 y6) (spec_l12Wide.f (k + 1) y0 y1 y2 y3 y4 y5 y6)) ∧ (∀ y0 y1 y2 y3 y4 y5 y6 y7 y8, LeO (spec_l12Wide.l0 k y0 y1 y2 y3 y4 y5 y6 y7 y8) (spec_l12Wide.l0 (k + 1) y0 y1 y2 y3 y4 y5 y6 y7 y8)) ∧ (∀ y0 y1 y2 y3 y4 y5 y6 y7 y8, LeO (spec_l12Wide.j1 k y0 y1 y2 y3 y4 y5 y6 y7 y8) (spec_l12Wide.j1 (k + 1) y0 y1 y2 y3 y4 y5 y6 y7 y8))
 | 0 => ⟨fun _ _ _ _ _ _ _ r h => by simp [spec_l12Wide.f] at h, fun _ _ _ _ _ _ _ _ _ r h => by simp [spec_l12Wide.l0] at h, fun _ _ _ _ _ _ _ _ _ r h => by simp [spec_l12Wide.j1] at h⟩
 | k + 1 => by
  obtain ⟨ih0, ih1, ih2⟩ := spec_l12Wide.mono_l k
  refine ⟨?_, ?_, ?_⟩
  ·intro y0 y1 y2 y3 y4 y5 y6
   unfold spec_l12Wide.f
   repeat' first
   | (with_reducible exact ih0 _ _ _ _ _ _ _)
   | (with_reducible exact ih1 _ _ _ _ _ _ _ _ _)
   | (with_reducible exact ih2 _ _ _ _ _ _ _ _ _)
   | (with_reducible exact spec_l7Put.mono _ _ _ _ _ _ _)
   | (with_reducible exact spec_l7Quote.mono _ _)
   | (with_reducible exact LeO.refl _)
   | (with_reducible exact LeO.none _)
   | (with_reducible refine LeO.ite ?_ ?_)
   | (with_reducible refine LeO.bind ?_ (fun _ => ?_))
   | exact ih0 _ _ _ _ _ _ _
   | exact ih1 _ _ _ _ _ _ _ _ _
   | exact ih2 _ _ _ _ _ _ _ _ _
  ·intro y0 y1 y2 y3 y4 y5 y6 y7 y8
   unfold spec_l12Wide.l0
   repeat' first
   | (with_reducible exact ih0 _ _ _ _ _ _ _)
   | (with_reducible exact ih1 _ _ _ _ _ _ _ _ _)
   | (with_reducible exact ih2 _ _ _ _ _ _ _ _ _)
   | (with_reducible exact spec_l7Put.mono _ _ _ _ _ _ _)
   | (with_reducible exact spec_l7Quote.mono _ _)
   | (with_reducible exact LeO.refl _)
   | (with_reducible exact LeO.none _)
   | (with_reducible refine LeO.ite ?_ ?_)
   | (with_reducible refine LeO.bind ?_ (fun _ => ?_))
   | exact ih0 _ _ _ _ _ _ _
   | exact ih1 _ _ _ _ _ _ _ _ _
   | exact ih2 _ _ _ _ _ _ _ _ _
  ·intro y0 y1 y2 y3 y4 y5 y6 y7 y8
   unfold spec_l12Wide.j1
   repeat' first
   | (with_reducible exact ih0 _ _ _ _ _ _ _)
   | (with_reducible exact ih1 _ _ _ _ _ _ _ _ _)
   | (with_reducible exact ih2 _ _ _ _ _ _ _ _ _)
   | (with_reducible exact spec_l7Put.mono _ _ _ _ _ _ _)
   | (with_reducible exact spec_l7Quote.mono _ _)
   | (with_reducible exact LeO.refl _)
   | (with_reducible exact LeO.none _)
   | (with_reducible refine LeO.ite ?_ ?_)
   | (with_reducible refine LeO.bind ?_ (fun _ => ?_))
   | exact ih0 _ _ _ _ _ _ _
   | exact ih1 _ _ _ _ _ _ _ _ _
   | exact ih2 _ _ _ _ _ _ _ _ _
theorem spec_l12Wide.mono : ∀ a0 a1 a2 a3 a4 a5 a6 k, LeO (spec_l12Wide.f k a0 a1 a2 a3 a4 a5 a6) (spec_l12Wide.f (k + 1) a0 a1 a2 a3 a4 a5 a6) := by
 intro a0 a1 a2 a3 a4 a5 a6 k
 obtain ⟨ih0, ih1, ih2⟩ := spec_l12Wide.mono_l k
 exact ih0 a0 a1 a2 a3 a4 a5 a6
set_option maxHeartbeats 8000000 in
set_option maxRecDepth 100000 in
theorem spec_l12Wide.calls (k : Nat) : ∀ (a0_0 : Int) (a0_1 : Int) (a0_2 : Int) (a0_3 : ByteArray) (A0_4 : Option Addr) (c0_4 : Nat) (l0_4 : List (S33)) (A0_5 : Option Addr) (c0_5 : Nat) (l0_5 : List ByteArray) (a1 : ByteArray) (r : ByteArray) (w : World) (hr0_4 : Kd.C k33 w A0_4 l0_4.length l0_4) (hc0_4 : l0_4.length ≤ c0_4) (hr0_5 : Kd.C Kd.string w A0_5 l0_5.length l0_5) (hc0_5 : l0_5.length ≤ c0_5) (h : spec_l12Wide.f k a0_0 a0_1 a0_2 a0_3 l0_4 l0_5 a1 = some r),
  Calls Tryd.prog 12 #[.agg #[.int .i64 a0_0, .int .i64 a0_1, .int .i64 a0_2, .string a0_3, .slice A0_4 l0_4.length c0_4, .slice A0_5 l0_5.length c0_5], .string a1] w fun e w' => e = .returned (.string r) ∧ Below w.heap.size w w' := by
 induction k using Nat.strongRecOn with
 | _ k ih =>
 intro a0_0 a0_1 a0_2 a0_3 A0_4 c0_4 l0_4 A0_5 c0_5 l0_5 a1 r w hr0_4 hc0_4 hr0_5 hc0_5 h
 cases k with
 | zero => exact absurd h (by simp [spec_l12Wide.f])
 | succ k =>
 simp only [spec_l12Wide.f] at h
 have hu33 := Tryd.underlying33
 have HR0_4 := zA hr0_4
 have HC0_4 := zA hc0_4
 clear hr0_4 hc0_4
 have HR0_5 := zA hr0_5
 have HC0_5 := zA hc0_5
 clear hr0_5 hc0_5
 have HB := zA (yJ w.heap.size w)
 have H : (if (l0_4.length : Int) = 0 then ((spec_l7Put.f k a0_0 a0_1 a0_2 a0_3 l0_4 l0_5).bind fun t216 => (some t216)) else (spec_l12Wide.l0 k a1 (⟨#[]⟩ : ByteArray) 0 a0_0 a0_1 a0_2 a0_3 l0_4 l0_5)) = some r := h
 clear h
 by_cases c3 : (l0_4.length : Int) = 0
 ·rw [if_pos c3] at H
  have c3b0 : ((l0_4.length : Int) == 0) = true := beq_iff_eq.mpr c3
  have c3b1 : ((l0_4.length : Int) != 0) = false := bne_eq_false_iff_eq.mpr c3
  clear c3
  replace H := Option.bind_eq_some_iff.mp H
  obtain ⟨t216, A40, H⟩ := H
  replace H : (some t216) = some r := H
  have A4 := zA A40
  clear A40
  obtain rfl := yH H
  go_enter Tryd.func12, Tryd.ntmps12
  go_wp2_with (first | ((with_reducible refine zT (N := 2) rfl ?_); refine zX ?hg (N := 2) ?hd (cs := #[.int .i64 a0_0, .int .i64 a0_1, .int .i64 a0_2, .string a0_3, .slice A0_4 l0_4.length c0_4, .slice A0_5 l0_5.length c0_5]) (t := 33) ?hr ?_; (case hd => rfl); (case hg => rfl); (case hr => first | (go_simp; done) | (go_simp; rfl)); intro gb215 hg w5 hbox hb; have n0_ := zA (zQ apA hb); have n1_ := zA (hbox); have n2_ := zA ((by rw [hg]; exact (zR apA) : w.heap.size ≤ gb215)); have n3_ := zA ((by rw [hg]; exact (zR apA) : w.heap.size ≤ gb215)); clear HB; have HB := n0_; have BK215 := n1_; have GW215 := n2_; have GE215 := n3_; clear n0_ n1_ n2_ n3_; clear hb hbox hg; have hcz6_0 : w5.cell? ⟨gb215, 0, none⟩ = some (.int .i64 a0_0) := (zJ BK215.out 0).trans rfl; have hcz6_1 : w5.cell? ⟨gb215, 1, none⟩ = some (.int .i64 a0_1) := (zJ BK215.out 1).trans rfl; have hcz6_2 : w5.cell? ⟨gb215, 2, none⟩ = some (.int .i64 a0_2) := (zJ BK215.out 2).trans rfl; have hcz6_3 : w5.cell? ⟨gb215, 3, none⟩ = some (.string a0_3) := (zJ BK215.out 3).trans rfl; have hcz6_4 : w5.cell? ⟨gb215, 4, none⟩ = some (.slice A0_4 l0_4.length c0_4) := (zJ BK215.out 4).trans rfl; have hcz6_5 : w5.cell? ⟨gb215, 5, none⟩ = some (.slice A0_5 l0_5.length c0_5) := (zJ BK215.out 5).trans rfl; have hfz6_0 := zK BK215.out 0; have hfz6_1 := zK BK215.out 1; have hfz6_2 := zK BK215.out 2; have hfz6_3 := zK BK215.out 3; have hfz6_4 := zK BK215.out 4; have hfz6_5 := zK BK215.out 5) | ((with_reducible refine zV (f := 24) rfl ?_); refine goesL_ (some 12) rfl rfl Tryd.func24 (by kernel_rfl) rfl #[.agg #[.int .i64 a0_0, .int .i64 a0_1, .int .i64 a0_2, .string a0_3, .slice A0_4 l0_4.length c0_4, .slice A0_5 l0_5.length c0_5]] rfl apE ?_; (with_reducible refine (spec_l7Put.calls k a0_0 a0_1 a0_2 a0_3 _ _ l0_4 _ _ l0_5 t216 _ ?side1 ?side2 ?side3 ?side4 A4.out).mono ?_); (case side1 => repeat (first | exact (Kd.C_below HR0_4.out HB.out) | (with_reducible refine Kd.C_alloc ?_ _) | (with_reducible refine Kd.C_drewN ?_ _) | (with_reducible refine Kd.C_drew ?_))); (case side2 => exact HC0_4.out); (case side3 => repeat (first | exact (Kd.C_below HR0_5.out HB.out) | (with_reducible refine Kd.C_alloc ?_ _) | (with_reducible refine Kd.C_drewN ?_ _) | (with_reducible refine Kd.C_drew ?_))); (case side4 => exact HC0_5.out); rintro e w7 ⟨rfl, hb⟩; refine ⟨_, rfl, ?_⟩; have n0_ := zA (zQ apA hb); clear HB; have HB := n0_; clear n0_; (try clear hb); (try clear hb2); (try clear hk); (try clear hi)))
  go_ret
  exact ⟨apD, apA⟩
 ·rw [if_neg c3] at H
  have c3b0 : ((l0_4.length : Int) == 0) = false := beq_eq_false_iff_ne.mpr c3
  have c3b1 : ((l0_4.length : Int) != 0) = true := bne_iff_ne.mpr c3
  have c3b2 : ¬ (l0_4 = []) := fun h_ => c3 (by rw [h_]; rfl)
  have H' := zA H
  clear H
  go_enter Tryd.func12, Tryd.ntmps12
  go_wp2_with (first | ((with_reducible refine zT (N := 2) rfl ?_); refine zX ?hg (N := 2) ?hd (cs := #[.int .i64 a0_0, .int .i64 a0_1, .int .i64 a0_2, .string a0_3, .slice A0_4 l0_4.length c0_4, .slice A0_5 l0_5.length c0_5]) (t := 33) ?hr ?_; (case hd => rfl); (case hg => rfl); (case hr => first | (go_simp; done) | (go_simp; rfl)); intro gb215 hg w8 hbox hb; have n0_ := zA (zQ apA hb); have n1_ := zA (hbox); have n2_ := zA ((by rw [hg]; exact (zR apA) : w.heap.size ≤ gb215)); have n3_ := zA ((by rw [hg]; exact (zR apA) : w.heap.size ≤ gb215)); clear HB; have HB := n0_; have BK215 := n1_; have GW215 := n2_; have GE215 := n3_; clear n0_ n1_ n2_ n3_; clear hb hbox hg; have hcz9_0 : w8.cell? ⟨gb215, 0, none⟩ = some (.int .i64 a0_0) := (zJ BK215.out 0).trans rfl; have hcz9_1 : w8.cell? ⟨gb215, 1, none⟩ = some (.int .i64 a0_1) := (zJ BK215.out 1).trans rfl; have hcz9_2 : w8.cell? ⟨gb215, 2, none⟩ = some (.int .i64 a0_2) := (zJ BK215.out 2).trans rfl; have hcz9_3 : w8.cell? ⟨gb215, 3, none⟩ = some (.string a0_3) := (zJ BK215.out 3).trans rfl; have hcz9_4 : w8.cell? ⟨gb215, 4, none⟩ = some (.slice A0_4 l0_4.length c0_4) := (zJ BK215.out 4).trans rfl; have hcz9_5 : w8.cell? ⟨gb215, 5, none⟩ = some (.slice A0_5 l0_5.length c0_5) := (zJ BK215.out 5).trans rfl; have hfz9_0 := zK BK215.out 0; have hfz9_1 := zK BK215.out 1; have hfz9_2 := zK BK215.out 2; have hfz9_3 := zK BK215.out 3; have hfz9_4 := zK BK215.out 4; have hfz9_5 := zK BK215.out 5))
  go_loopg [5, 6] k (fun kq v5 v6 w' => ∃ (x5_1 : ByteArray) (x6_1 : Int), v5 = .string x5_1 ∧ v6 = .int .i64 x6_1 ∧ Aside0 (spec_l12Wide.l0 kq a1 x5_1 x6_1 a0_0 a0_1 a0_2 a0_3 l0_4 l0_5 = some r) ∧ Aside0 (kq ≤ k) ∧ Aside0 (w'.heap[gb215]? = some (.cells #[.int .i64 a0_0, .int .i64 a0_1, .int .i64 a0_2, .string a0_3, (.slice A0_4 l0_4.length c0_4), (.slice A0_5 l0_5.length c0_5)] 33 (0, 0))) ∧ Aside0 (Below w.heap.size w w'))
  case atStart => exact ⟨((⟨#[]⟩ : ByteArray)), (0), apB, apB, H', ⟨yK _⟩, ⟨by (with_reducible repeat (first | refine zB ?_ _ | refine zD ?_ | refine zC ?_ _)); exact BK215.out⟩, ⟨apT⟩⟩
  case round =>
   clear H'
   try clear c1
   try clear c2
   try clear p2
   try clear c3
   try clear c3b0
   try clear c3b1
   try clear c3b2
   try clear hcz6_0
   try clear hcz6_1
   try clear hcz6_2
   try clear hcz6_3
   try clear hcz6_4
   try clear hcz6_5
   try clear hcz9_0
   try clear hcz9_1
   try clear hcz9_2
   try clear hcz9_3
   try clear hcz9_4
   try clear hcz9_5
   try clear hfz6_0
   try clear hfz6_1
   try clear hfz6_2
   try clear hfz6_3
   try clear hfz6_4
   try clear hfz6_5
   try clear hfz9_0
   try clear hfz9_1
   try clear hfz9_2
   try clear hfz9_3
   try clear hfz9_4
   try clear hfz9_5
   obtain ⟨x5_1, x6_1, rfl, rfl, HA, HK1, BK215, HB⟩ := hrel
   cases gk with
   | zero => exact absurd HA.out (by simp [spec_l12Wide.l0])
   | succ k1 =>
    have H := HA.out
    clear HA
    simp only [spec_l12Wide.l0] at H
    by_cases c10 : x6_1 < (l0_4.length : Int)
    ·rw [if_pos c10] at H
     have c10b0 : decide (x6_1 < (l0_4.length : Int)) = true := yF c10
     clear c10
     have HC11 := zA H
     clear H
     have hcz12_0 : wr.cell? ⟨gb215, 0, none⟩ = some (.int .i64 a0_0) := (zJ BK215.out 0).trans rfl
     have hcz12_1 : wr.cell? ⟨gb215, 1, none⟩ = some (.int .i64 a0_1) := (zJ BK215.out 1).trans rfl
     have hcz12_2 : wr.cell? ⟨gb215, 2, none⟩ = some (.int .i64 a0_2) := (zJ BK215.out 2).trans rfl
     have hcz12_3 : wr.cell? ⟨gb215, 3, none⟩ = some (.string a0_3) := (zJ BK215.out 3).trans rfl
     have hcz12_4 : wr.cell? ⟨gb215, 4, none⟩ = some (.slice A0_4 l0_4.length c0_4) := (zJ BK215.out 4).trans rfl
     have hcz12_5 : wr.cell? ⟨gb215, 5, none⟩ = some (.slice A0_5 l0_5.length c0_5) := (zJ BK215.out 5).trans rfl
     have hfz12_0 := zK BK215.out 0
     have hfz12_1 := zK BK215.out 1
     have hfz12_2 := zK BK215.out 2
     have hfz12_3 := zK BK215.out 3
     have hfz12_4 := zK BK215.out 4
     have hfz12_5 := zK BK215.out 5
     go_upto_if 21 with (fail)
     go_cut [5] (fun v5 wc => ∃ (kq : Nat) (x5_10 : ByteArray), v5 = .string x5_10 ∧ Aside0 (spec_l12Wide.j1 kq a1 x5_10 x6_1 a0_0 a0_1 a0_2 a0_3 l0_4 l0_5 = some r) ∧ Aside0 (kq ≤ k1) ∧ Aside0 (wc.heap[gb215]? = some (.cells #[.int .i64 a0_0, .int .i64 a0_1, .int .i64 a0_2, .string a0_3, (.slice A0_4 l0_4.length c0_4), (.slice A0_5 l0_5.length c0_5)] 33 (0, 0))) ∧ Aside0 (Below w.heap.size w wc))
     case first =>
      have H := HC11.out
      clear HC11
      by_cases c13 : x6_1 > 0
      ·rw [if_pos c13] at H
       have c13b0 : decide (0 < x6_1) = true := yF c13
       clear c13
       (first | rw [c13b0] | (simp only [i64_w, i32_w]; rw [c13b0]) | skip)
       by_cases c14 : x5_1.size + 1 ≤ 9223372036854775807
       ·rw [if_pos c14] at H
        have c14b0 := eq_true c14
        have c14b1 : decide (x5_1.size + 1 ≤ 9223372036854775807) = true := yF c14
        try have c14b2 : (9223372036854775807 < x5_1.size + 1) = False := eq_false (Nat.not_lt.2 c14)
        have H' := zA H
        clear H
        go_wp2
        go_meet
        case rel => exact ⟨_, (x5_1 ++ (⟨#[44]⟩ : ByteArray)), apB, H', ⟨by have := HK1.out; first | omega | exact yK _⟩, ⟨by (with_reducible repeat (first | refine zB ?_ _ | refine zD ?_ | refine zC ?_ _)); exact BK215.out⟩, ⟨apT⟩⟩
       ·rw [if_neg c14] at H
        exact absurd H (by simp)
      ·rw [if_neg c13] at H
       have c13b0 : decide (0 < x6_1) = false := decide_eq_false c13
       clear c13
       (first | rw [c13b0] | (simp only [i64_w, i32_w]; rw [c13b0]) | skip)
       have H' := zA H
       clear H
       go_wp2
       go_meet
       case rel => exact ⟨_, (x5_1), apB, H', ⟨by have := HK1.out; first | omega | exact yK _⟩, ⟨by (with_reducible repeat (first | refine zB ?_ _ | refine zD ?_ | refine zC ?_ _)); exact BK215.out⟩, ⟨apT⟩⟩
     case rest =>
      clear HC11
      try clear c1
      try clear c2
      try clear p2
      try clear c3
      try clear c3b0
      try clear c3b1
      try clear c3b2
      try clear c10
      try clear c10b0
      try clear c12
      try clear c13
      try clear c13b0
      try clear c14
      try clear c14b0
      try clear c14b1
      try clear c14b2
      try clear hcz12_0
      try clear hcz12_1
      try clear hcz12_2
      try clear hcz12_3
      try clear hcz12_4
      try clear hcz12_5
      try clear hcz6_0
      try clear hcz6_1
      try clear hcz6_2
      try clear hcz6_3
      try clear hcz6_4
      try clear hcz6_5
      try clear hcz9_0
      try clear hcz9_1
      try clear hcz9_2
      try clear hcz9_3
      try clear hcz9_4
      try clear hcz9_5
      try clear hfz12_0
      try clear hfz12_1
      try clear hfz12_2
      try clear hfz12_3
      try clear hfz12_4
      try clear hfz12_5
      try clear hfz6_0
      try clear hfz6_1
      try clear hfz6_2
      try clear hfz6_3
      try clear hfz6_4
      try clear hfz6_5
      try clear hfz9_0
      try clear hfz9_1
      try clear hfz9_2
      try clear hfz9_3
      try clear hfz9_4
      try clear hfz9_5
      try clear p2
      obtain ⟨kq, x5_10, rfl, HA, HJ10, BK215, HB⟩ := hcut
      cases kq with
      | zero => exact absurd HA.out (by simp [spec_l12Wide.j1])
      | succ kj10 =>
       have H := HA.out
       clear HA
       simp only [spec_l12Wide.j1] at H
       by_cases c15 : x5_10.size + 1 ≤ 9223372036854775807
       ·rw [if_pos c15] at H
        have c15b0 := eq_true c15
        have c15b1 : decide (x5_10.size + 1 ≤ 9223372036854775807) = true := yF c15
        try have c15b2 : (9223372036854775807 < x5_10.size + 1) = False := eq_false (Nat.not_lt.2 c15)
        by_cases c16 : (x5_10 ++ (⟨#[10]⟩ : ByteArray)).size + a1.size ≤ 9223372036854775807
        ·rw [if_pos c16] at H
         (try (have c16b9 := eq_true c16; simp only [ByteArray.size_append, Int.natCast_add, show ((⟨#[10]⟩ : ByteArray)).size = 1 from rfl] at c16b9))
         (try (have c16b8 := eq_false (Nat.not_lt.2 c16); simp only [ByteArray.size_append, show ((⟨#[10]⟩ : ByteArray)).size = 1 from rfl] at c16b8))
         have c16b0 := eq_true c16
         have c16b1 : decide ((x5_10 ++ (⟨#[10]⟩ : ByteArray)).size + a1.size ≤ 9223372036854775807) = true := yF c16
         try have c16b2 : (9223372036854775807 < (x5_10 ++ (⟨#[10]⟩ : ByteArray)).size + a1.size) = False := eq_false (Nat.not_lt.2 c16)
         try simp only [ByteArray.size_append] at c16b2
         by_cases c17 : ((x5_10 ++ (⟨#[10]⟩ : ByteArray)) ++ a1).size + 2 ≤ 9223372036854775807
         ·rw [if_pos c17] at H
          (try (have c17b9 := eq_true c17; simp only [ByteArray.size_append, Int.natCast_add, show ((⟨#[10]⟩ : ByteArray)).size = 1 from rfl] at c17b9))
          (try (have c17b8 := eq_false (Nat.not_lt.2 c17); simp only [ByteArray.size_append, show ((⟨#[10]⟩ : ByteArray)).size = 1 from rfl] at c17b8))
          have c17b0 := eq_true c17
          have c17b1 : decide (((x5_10 ++ (⟨#[10]⟩ : ByteArray)) ++ a1).size + 2 ≤ 9223372036854775807) = true := yF c17
          try have c17b2 : (9223372036854775807 < ((x5_10 ++ (⟨#[10]⟩ : ByteArray)) ++ a1).size + 2) = False := eq_false (Nat.not_lt.2 c17)
          try simp only [ByteArray.size_append] at c17b2
          by_cases c18 : a0_0 = 6
          ·rw [if_pos c18] at H
           have c18b0 : (a0_0 == 6) = true := beq_iff_eq.mpr c18
           have c18b1 : (a0_0 != 6) = false := bne_eq_false_iff_eq.mpr c18
           clear c18
           by_cases c19 : 0 ≤ x6_1
           ·rw [if_pos c19] at H
            have c19b0 : decide (0 ≤ x6_1) = true := yF c19
            clear c19
            by_cases c20 : x6_1 < (l0_5.length : Int)
            ·rw [if_pos c20] at H
             have c20b0 : decide (x6_1 < (l0_5.length : Int)) = true := yF c20
             clear c20
             replace H := Option.bind_eq_some_iff.mp H
             obtain ⟨t218, A210, H⟩ := H
             replace H : (if (((x5_10 ++ (⟨#[10]⟩ : ByteArray)) ++ a1) ++ (⟨#[32, 32]⟩ : ByteArray)).size + t218.size ≤ 9223372036854775807 then (if ((((x5_10 ++ (⟨#[10]⟩ : ByteArray)) ++ a1) ++ (⟨#[32, 32]⟩ : ByteArray)) ++ t218).size + 2 ≤ 9223372036854775807 then (if x6_1 < (l0_4.length : Int) then (if a1.size + 2 ≤ 9223372036854775807 then ((spec_l12Wide.f kj10 ((rd_T33 l0_4 x6_1).f0) ((rd_T33 l0_4 x6_1).f1.f0) ((rd_T33 l0_4 x6_1).f1.f1) ((rd_T33 l0_4 x6_1).f2) ((rd_T33 l0_4 x6_1).f3) ((rd_T33 l0_4 x6_1).f4) (a1 ++ (⟨#[32, 32]⟩ : ByteArray))).bind fun t220 => (if (((((x5_10 ++ (⟨#[10]⟩ : ByteArray)) ++ a1) ++ (⟨#[32, 32]⟩ : ByteArray)) ++ t218) ++ (⟨#[58, 32]⟩ : ByteArray)).size + t220.size ≤ 9223372036854775807 then (spec_l12Wide.l0 kj10 a1 ((((((x5_10 ++ (⟨#[10]⟩ : ByteArray)) ++ a1) ++ (⟨#[32, 32]⟩ : ByteArray)) ++ t218) ++ (⟨#[58, 32]⟩ : ByteArray)) ++ t220) (wrap64 (x6_1 + 1)) a0_0 a0_1 a0_2 a0_3 l0_4 l0_5) else (none))) else (none)) else (none)) else (none)) else (none)) = some r := H
             have A21 := zA A210
             clear A210
             by_cases c22 : (((x5_10 ++ (⟨#[10]⟩ : ByteArray)) ++ a1) ++ (⟨#[32, 32]⟩ : ByteArray)).size + t218.size ≤ 9223372036854775807
             ·rw [if_pos c22] at H
              (try (have c22b9 := eq_true c22; simp only [ByteArray.size_append, Int.natCast_add, show ((⟨#[10]⟩ : ByteArray)).size = 1 from rfl, show ((⟨#[32, 32]⟩ : ByteArray)).size = 2 from rfl] at c22b9))
              (try (have c22b8 := eq_false (Nat.not_lt.2 c22); simp only [ByteArray.size_append, show ((⟨#[10]⟩ : ByteArray)).size = 1 from rfl, show ((⟨#[32, 32]⟩ : ByteArray)).size = 2 from rfl] at c22b8))
              have c22b0 := eq_true c22
              have c22b1 : decide ((((x5_10 ++ (⟨#[10]⟩ : ByteArray)) ++ a1) ++ (⟨#[32, 32]⟩ : ByteArray)).size + t218.size ≤ 9223372036854775807) = true := yF c22
              try have c22b2 : (9223372036854775807 < (((x5_10 ++ (⟨#[10]⟩ : ByteArray)) ++ a1) ++ (⟨#[32, 32]⟩ : ByteArray)).size + t218.size) = False := eq_false (Nat.not_lt.2 c22)
              try simp only [ByteArray.size_append] at c22b2
              by_cases c23 : ((((x5_10 ++ (⟨#[10]⟩ : ByteArray)) ++ a1) ++ (⟨#[32, 32]⟩ : ByteArray)) ++ t218).size + 2 ≤ 9223372036854775807
              ·rw [if_pos c23] at H
               (try (have c23b9 := eq_true c23; simp only [ByteArray.size_append, Int.natCast_add, show ((⟨#[10]⟩ : ByteArray)).size = 1 from rfl, show ((⟨#[32, 32]⟩ : ByteArray)).size = 2 from rfl] at c23b9))
               (try (have c23b8 := eq_false (Nat.not_lt.2 c23); simp only [ByteArray.size_append, show ((⟨#[10]⟩ : ByteArray)).size = 1 from rfl, show ((⟨#[32, 32]⟩ : ByteArray)).size = 2 from rfl] at c23b8))
               have c23b0 := eq_true c23
               have c23b1 : decide (((((x5_10 ++ (⟨#[10]⟩ : ByteArray)) ++ a1) ++ (⟨#[32, 32]⟩ : ByteArray)) ++ t218).size + 2 ≤ 9223372036854775807) = true := yF c23
               try have c23b2 : (9223372036854775807 < ((((x5_10 ++ (⟨#[10]⟩ : ByteArray)) ++ a1) ++ (⟨#[32, 32]⟩ : ByteArray)) ++ t218).size + 2) = False := eq_false (Nat.not_lt.2 c23)
               try simp only [ByteArray.size_append] at c23b2
               by_cases c24 : x6_1 < (l0_4.length : Int)
               ·rw [if_pos c24] at H
                have c24b0 : decide (x6_1 < (l0_4.length : Int)) = true := yF c24
                clear c24
                by_cases c25 : a1.size + 2 ≤ 9223372036854775807
                ·rw [if_pos c25] at H
                 have c25b0 := eq_true c25
                 have c25b1 : decide (a1.size + 2 ≤ 9223372036854775807) = true := yF c25
                 try have c25b2 : (9223372036854775807 < a1.size + 2) = False := eq_false (Nat.not_lt.2 c25)
                 replace H := Option.bind_eq_some_iff.mp H
                 obtain ⟨t220, A260, H⟩ := H
                 replace H : (if (((((x5_10 ++ (⟨#[10]⟩ : ByteArray)) ++ a1) ++ (⟨#[32, 32]⟩ : ByteArray)) ++ t218) ++ (⟨#[58, 32]⟩ : ByteArray)).size + t220.size ≤ 9223372036854775807 then (spec_l12Wide.l0 kj10 a1 ((((((x5_10 ++ (⟨#[10]⟩ : ByteArray)) ++ a1) ++ (⟨#[32, 32]⟩ : ByteArray)) ++ t218) ++ (⟨#[58, 32]⟩ : ByteArray)) ++ t220) (wrap64 (x6_1 + 1)) a0_0 a0_1 a0_2 a0_3 l0_4 l0_5) else (none)) = some r := H
                 have A26 := zA A260
                 clear A260
                 by_cases c27 : (((((x5_10 ++ (⟨#[10]⟩ : ByteArray)) ++ a1) ++ (⟨#[32, 32]⟩ : ByteArray)) ++ t218) ++ (⟨#[58, 32]⟩ : ByteArray)).size + t220.size ≤ 9223372036854775807
                 ·rw [if_pos c27] at H
                  (try (have c27b9 := eq_true c27; simp only [ByteArray.size_append, Int.natCast_add, show ((⟨#[10]⟩ : ByteArray)).size = 1 from rfl, show ((⟨#[32, 32]⟩ : ByteArray)).size = 2 from rfl, show ((⟨#[58, 32]⟩ : ByteArray)).size = 2 from rfl] at c27b9))
                  (try (have c27b8 := eq_false (Nat.not_lt.2 c27); simp only [ByteArray.size_append, show ((⟨#[10]⟩ : ByteArray)).size = 1 from rfl, show ((⟨#[32, 32]⟩ : ByteArray)).size = 2 from rfl, show ((⟨#[58, 32]⟩ : ByteArray)).size = 2 from rfl] at c27b8))
                  have c27b0 := eq_true c27
                  have c27b1 : decide ((((((x5_10 ++ (⟨#[10]⟩ : ByteArray)) ++ a1) ++ (⟨#[32, 32]⟩ : ByteArray)) ++ t218) ++ (⟨#[58, 32]⟩ : ByteArray)).size + t220.size ≤ 9223372036854775807) = true := yF c27
                  try have c27b2 : (9223372036854775807 < (((((x5_10 ++ (⟨#[10]⟩ : ByteArray)) ++ a1) ++ (⟨#[32, 32]⟩ : ByteArray)) ++ t218) ++ (⟨#[58, 32]⟩ : ByteArray)).size + t220.size) = False := eq_false (Nat.not_lt.2 c27)
                  try simp only [ByteArray.size_append] at c27b2
                  have H' := zA H
                  clear H
                  have hcz28_0 : wc.cell? ⟨gb215, 0, none⟩ = some (.int .i64 a0_0) := (zJ BK215.out 0).trans rfl
                  have hcz28_1 : wc.cell? ⟨gb215, 1, none⟩ = some (.int .i64 a0_1) := (zJ BK215.out 1).trans rfl
                  have hcz28_2 : wc.cell? ⟨gb215, 2, none⟩ = some (.int .i64 a0_2) := (zJ BK215.out 2).trans rfl
                  have hcz28_3 : wc.cell? ⟨gb215, 3, none⟩ = some (.string a0_3) := (zJ BK215.out 3).trans rfl
                  have hcz28_4 : wc.cell? ⟨gb215, 4, none⟩ = some (.slice A0_4 l0_4.length c0_4) := (zJ BK215.out 4).trans rfl
                  have hcz28_5 : wc.cell? ⟨gb215, 5, none⟩ = some (.slice A0_5 l0_5.length c0_5) := (zJ BK215.out 5).trans rfl
                  have hfz28_0 := zK BK215.out 0
                  have hfz28_1 := zK BK215.out 1
                  have hfz28_2 := zK BK215.out 2
                  have hfz28_3 := zK BK215.out 3
                  have hfz28_4 := zK BK215.out 4
                  have hfz28_5 := zK BK215.out 5
                  have p217 : 0 ≤ (x6_1 : Int) := yG apC
                  have q217 : x6_1 < (l0_5.length : Int) := yG apC
                  obtain ⟨ad217, e217, hx217_0⟩ := Kd.at_string HR0_5.out x6_1 p217 q217
                  cases e217
                  replace hx217_0 := (HB.out.cell (zS w _ hx217_0)).trans hx217_0
                  replace p217 := eq_true p217
                  replace q217 := eq_true q217
                  go_wp2_with (first | ((with_reducible refine zV (f := 25) rfl ?_); refine goesL_ (some 38) rfl rfl Tryd.func25 (by kernel_rfl) rfl #[.string (rdOf ByteArray.empty l0_5 x6_1)] rfl apE ?_; (with_reducible refine (spec_l7Quote.calls kj10 (rdOf ByteArray.empty l0_5 x6_1) t218 _ A21.out).mono ?_); rintro e w29 ⟨rfl, hb⟩; refine ⟨_, rfl, ?_⟩; have n0_ := zA (zP (g := gb215) (o := .cells #[.int .i64 a0_0, .int .i64 a0_1, .int .i64 a0_2, .string a0_3, .slice A0_4 l0_4.length c0_4, .slice (some ad217) l0_5.length c0_5] 33 (0, 0)) (by (with_reducible repeat (first | refine zB ?_ _ | refine zD ?_ | refine zC ?_ _)); exact BK215.out) hb); have n1_ := zA (zQ apT hb); clear BK215; clear HB; have BK215 := n0_; have HB := n1_; clear n0_ n1_; (try clear hb); (try clear hb2); (try clear hk); (try clear hi); have hcz30_0 : w29.cell? ⟨gb215, 0, none⟩ = some (.int .i64 a0_0) := (zJ BK215.out 0).trans rfl; have hcz30_1 : w29.cell? ⟨gb215, 1, none⟩ = some (.int .i64 a0_1) := (zJ BK215.out 1).trans rfl; have hcz30_2 : w29.cell? ⟨gb215, 2, none⟩ = some (.int .i64 a0_2) := (zJ BK215.out 2).trans rfl; have hcz30_3 : w29.cell? ⟨gb215, 3, none⟩ = some (.string a0_3) := (zJ BK215.out 3).trans rfl; have hcz30_4 : w29.cell? ⟨gb215, 4, none⟩ = some (.slice A0_4 l0_4.length c0_4) := (zJ BK215.out 4).trans rfl; have hcz30_5 : w29.cell? ⟨gb215, 5, none⟩ = some (.slice (some ad217) l0_5.length c0_5) := (zJ BK215.out 5).trans rfl; have hfz30_0 := zK BK215.out 0; have hfz30_1 := zK BK215.out 1; have hfz30_2 := zK BK215.out 2; have hfz30_3 := zK BK215.out 3; have hfz30_4 := zK BK215.out 4; have hfz30_5 := zK BK215.out 5; have p219 : 0 ≤ (x6_1 : Int) := yG apC; have q219 : x6_1 < (l0_4.length : Int) := yG apC; obtain ⟨ad219, A219_4, c219_4, A219_5, c219_5, e219, hx219_0, hx219_1, hx219_2, hx219_3, hx219_4, hx219_5, hl219_4, hi219_4, hl219_5, hi219_5⟩ := at_T33 HR0_4.out x6_1 p219 q219; cases e219; replace hx219_0 := (HB.out.cell (zS w _ hx219_0)).trans hx219_0; replace hx219_1 := (HB.out.cell (zS w _ hx219_1)).trans hx219_1; replace hx219_2 := (HB.out.cell (zS w _ hx219_2)).trans hx219_2; replace hx219_3 := (HB.out.cell (zS w _ hx219_3)).trans hx219_3; replace hx219_4 := (HB.out.cell (zS w _ hx219_4)).trans hx219_4; replace hx219_5 := (HB.out.cell (zS w _ hx219_5)).trans hx219_5; have HR219_4 := zA hi219_4; have HC219_4 := zA hl219_4; clear hi219_4 hl219_4; have HR219_5 := zA hi219_5; have HC219_5 := zA hl219_5; clear hi219_5 hl219_5; replace p219 := eq_true p219; replace q219 := eq_true q219) | ((with_reducible refine zV (f := 12) rfl ?_); refine goesL_ (some 49) rfl rfl Tryd.func12 (by kernel_rfl) rfl #[.agg #[.int .i64 ((rd_T33 l0_4 x6_1).f0), .int .i64 ((rd_T33 l0_4 x6_1).f1.f0), .int .i64 ((rd_T33 l0_4 x6_1).f1.f1), .string ((rd_T33 l0_4 x6_1).f2), .slice A219_4 ((rd_T33 l0_4 x6_1).f3).length c219_4, .slice A219_5 ((rd_T33 l0_4 x6_1).f4).length c219_5], .string (a1 ++ (⟨#[32, 32]⟩ : ByteArray))] rfl apE ?_; (with_reducible refine (ih kj10 (by have := HK1.out; have := HJ10.out; omega) ((rd_T33 l0_4 x6_1).f0) ((rd_T33 l0_4 x6_1).f1.f0) ((rd_T33 l0_4 x6_1).f1.f1) ((rd_T33 l0_4 x6_1).f2) _ _ ((rd_T33 l0_4 x6_1).f3) _ _ ((rd_T33 l0_4 x6_1).f4) (a1 ++ (⟨#[32, 32]⟩ : ByteArray)) t220 _ ?side1 ?side2 ?side3 ?side4 A26.out).mono ?_); (case side1 => repeat (first | exact (Kd.C_below HR219_4.out HB.out) | (with_reducible refine Kd.C_alloc ?_ _) | (with_reducible refine Kd.C_drewN ?_ _) | (with_reducible refine Kd.C_drew ?_))); (case side2 => exact HC219_4.out); (case side3 => repeat (first | exact (Kd.C_below HR219_5.out HB.out) | (with_reducible refine Kd.C_alloc ?_ _) | (with_reducible refine Kd.C_drewN ?_ _) | (with_reducible refine Kd.C_drew ?_))); (case side4 => exact HC219_5.out); rintro e w31 ⟨rfl, hb⟩; refine ⟨_, rfl, ?_⟩; have n0_ := zA (zP (g := gb215) (o := .cells #[.int .i64 a0_0, .int .i64 a0_1, .int .i64 a0_2, .string a0_3, .slice (some ad219) l0_4.length c0_4, .slice (some ad217) l0_5.length c0_5] 33 (0, 0)) (by (with_reducible repeat (first | refine zB ?_ _ | refine zD ?_ | refine zC ?_ _)); exact BK215.out) hb); have n1_ := zA (zQ apT hb); clear BK215; clear HB; have BK215 := n0_; have HB := n1_; clear n0_ n1_; (try clear hb); (try clear hb2); (try clear hk); (try clear hi)))
                  go_roundg kj10
                  case measure => have := HK1.out; have := HJ10.out; omega
                  case rel => exact ⟨((((((x5_10 ++ (⟨#[10]⟩ : ByteArray)) ++ a1) ++ (⟨#[32, 32]⟩ : ByteArray)) ++ t218) ++ (⟨#[58, 32]⟩ : ByteArray)) ++ t220), (wrap64 (x6_1 + 1)), apB, apB, H', ⟨by have := HK1.out; have := HJ10.out; omega⟩, ⟨by (with_reducible repeat (first | refine zB ?_ _ | refine zD ?_ | refine zC ?_ _)); exact BK215.out⟩, ⟨apT⟩⟩
                 ·rw [if_neg c27] at H
                  exact absurd H (by simp)
                ·rw [if_neg c25] at H
                 exact absurd H (by simp)
               ·rw [if_neg c24] at H
                exact absurd H (by simp)
              ·rw [if_neg c23] at H
               exact absurd H (by simp)
             ·rw [if_neg c22] at H
              exact absurd H (by simp)
            ·rw [if_neg c20] at H
             exact absurd H (by simp)
           ·rw [if_neg c19] at H
            exact absurd H (by simp)
          ·rw [if_neg c18] at H
           have c18b0 : (a0_0 == 6) = false := beq_eq_false_iff_ne.mpr c18
           have c18b1 : (a0_0 != 6) = true := bne_iff_ne.mpr c18
           by_cases c32 : 0 ≤ x6_1
           ·rw [if_pos c32] at H
            have c32b0 : decide (0 ≤ x6_1) = true := yF c32
            clear c32
            by_cases c33 : x6_1 < (l0_4.length : Int)
            ·rw [if_pos c33] at H
             have c33b0 : decide (x6_1 < (l0_4.length : Int)) = true := yF c33
             clear c33
             by_cases c34 : a1.size + 2 ≤ 9223372036854775807
             ·rw [if_pos c34] at H
              have c34b0 := eq_true c34
              have c34b1 : decide (a1.size + 2 ≤ 9223372036854775807) = true := yF c34
              try have c34b2 : (9223372036854775807 < a1.size + 2) = False := eq_false (Nat.not_lt.2 c34)
              replace H := Option.bind_eq_some_iff.mp H
              obtain ⟨t222, A350, H⟩ := H
              replace H : (if (((x5_10 ++ (⟨#[10]⟩ : ByteArray)) ++ a1) ++ (⟨#[32, 32]⟩ : ByteArray)).size + t222.size ≤ 9223372036854775807 then (spec_l12Wide.l0 kj10 a1 ((((x5_10 ++ (⟨#[10]⟩ : ByteArray)) ++ a1) ++ (⟨#[32, 32]⟩ : ByteArray)) ++ t222) (wrap64 (x6_1 + 1)) a0_0 a0_1 a0_2 a0_3 l0_4 l0_5) else (none)) = some r := H
              have A35 := zA A350
              clear A350
              by_cases c36 : (((x5_10 ++ (⟨#[10]⟩ : ByteArray)) ++ a1) ++ (⟨#[32, 32]⟩ : ByteArray)).size + t222.size ≤ 9223372036854775807
              ·rw [if_pos c36] at H
               (try (have c36b9 := eq_true c36; simp only [ByteArray.size_append, Int.natCast_add, show ((⟨#[10]⟩ : ByteArray)).size = 1 from rfl, show ((⟨#[32, 32]⟩ : ByteArray)).size = 2 from rfl] at c36b9))
               (try (have c36b8 := eq_false (Nat.not_lt.2 c36); simp only [ByteArray.size_append, show ((⟨#[10]⟩ : ByteArray)).size = 1 from rfl, show ((⟨#[32, 32]⟩ : ByteArray)).size = 2 from rfl] at c36b8))
               have c36b0 := eq_true c36
               have c36b1 : decide ((((x5_10 ++ (⟨#[10]⟩ : ByteArray)) ++ a1) ++ (⟨#[32, 32]⟩ : ByteArray)).size + t222.size ≤ 9223372036854775807) = true := yF c36
               try have c36b2 : (9223372036854775807 < (((x5_10 ++ (⟨#[10]⟩ : ByteArray)) ++ a1) ++ (⟨#[32, 32]⟩ : ByteArray)).size + t222.size) = False := eq_false (Nat.not_lt.2 c36)
               try simp only [ByteArray.size_append] at c36b2
               have H' := zA H
               clear H
               have hcz37_0 : wc.cell? ⟨gb215, 0, none⟩ = some (.int .i64 a0_0) := (zJ BK215.out 0).trans rfl
               have hcz37_1 : wc.cell? ⟨gb215, 1, none⟩ = some (.int .i64 a0_1) := (zJ BK215.out 1).trans rfl
               have hcz37_2 : wc.cell? ⟨gb215, 2, none⟩ = some (.int .i64 a0_2) := (zJ BK215.out 2).trans rfl
               have hcz37_3 : wc.cell? ⟨gb215, 3, none⟩ = some (.string a0_3) := (zJ BK215.out 3).trans rfl
               have hcz37_4 : wc.cell? ⟨gb215, 4, none⟩ = some (.slice A0_4 l0_4.length c0_4) := (zJ BK215.out 4).trans rfl
               have hcz37_5 : wc.cell? ⟨gb215, 5, none⟩ = some (.slice A0_5 l0_5.length c0_5) := (zJ BK215.out 5).trans rfl
               have hfz37_0 := zK BK215.out 0
               have hfz37_1 := zK BK215.out 1
               have hfz37_2 := zK BK215.out 2
               have hfz37_3 := zK BK215.out 3
               have hfz37_4 := zK BK215.out 4
               have hfz37_5 := zK BK215.out 5
               have p221 : 0 ≤ (x6_1 : Int) := yG apC
               have q221 : x6_1 < (l0_4.length : Int) := yG apC
               obtain ⟨ad221, A221_4, c221_4, A221_5, c221_5, e221, hx221_0, hx221_1, hx221_2, hx221_3, hx221_4, hx221_5, hl221_4, hi221_4, hl221_5, hi221_5⟩ := at_T33 HR0_4.out x6_1 p221 q221
               cases e221
               replace hx221_0 := (HB.out.cell (zS w _ hx221_0)).trans hx221_0
               replace hx221_1 := (HB.out.cell (zS w _ hx221_1)).trans hx221_1
               replace hx221_2 := (HB.out.cell (zS w _ hx221_2)).trans hx221_2
               replace hx221_3 := (HB.out.cell (zS w _ hx221_3)).trans hx221_3
               replace hx221_4 := (HB.out.cell (zS w _ hx221_4)).trans hx221_4
               replace hx221_5 := (HB.out.cell (zS w _ hx221_5)).trans hx221_5
               have HR221_4 := zA hi221_4
               have HC221_4 := zA hl221_4
               clear hi221_4 hl221_4
               have HR221_5 := zA hi221_5
               have HC221_5 := zA hl221_5
               clear hi221_5 hl221_5
               replace p221 := eq_true p221
               replace q221 := eq_true q221
               go_wp2_with (first | ((with_reducible refine zV (f := 12) rfl ?_); refine goesL_ (some 49) rfl rfl Tryd.func12 (by kernel_rfl) rfl #[.agg #[.int .i64 ((rd_T33 l0_4 x6_1).f0), .int .i64 ((rd_T33 l0_4 x6_1).f1.f0), .int .i64 ((rd_T33 l0_4 x6_1).f1.f1), .string ((rd_T33 l0_4 x6_1).f2), .slice A221_4 ((rd_T33 l0_4 x6_1).f3).length c221_4, .slice A221_5 ((rd_T33 l0_4 x6_1).f4).length c221_5], .string (a1 ++ (⟨#[32, 32]⟩ : ByteArray))] rfl apE ?_; (with_reducible refine (ih kj10 (by have := HK1.out; have := HJ10.out; omega) ((rd_T33 l0_4 x6_1).f0) ((rd_T33 l0_4 x6_1).f1.f0) ((rd_T33 l0_4 x6_1).f1.f1) ((rd_T33 l0_4 x6_1).f2) _ _ ((rd_T33 l0_4 x6_1).f3) _ _ ((rd_T33 l0_4 x6_1).f4) (a1 ++ (⟨#[32, 32]⟩ : ByteArray)) t222 _ ?side1 ?side2 ?side3 ?side4 A35.out).mono ?_); (case side1 => repeat (first | exact (Kd.C_below HR221_4.out HB.out) | (with_reducible refine Kd.C_alloc ?_ _) | (with_reducible refine Kd.C_drewN ?_ _) | (with_reducible refine Kd.C_drew ?_))); (case side2 => exact HC221_4.out); (case side3 => repeat (first | exact (Kd.C_below HR221_5.out HB.out) | (with_reducible refine Kd.C_alloc ?_ _) | (with_reducible refine Kd.C_drewN ?_ _) | (with_reducible refine Kd.C_drew ?_))); (case side4 => exact HC221_5.out); rintro e w38 ⟨rfl, hb⟩; refine ⟨_, rfl, ?_⟩; have n0_ := zA (zP (g := gb215) (o := .cells #[.int .i64 a0_0, .int .i64 a0_1, .int .i64 a0_2, .string a0_3, .slice (some ad221) l0_4.length c0_4, .slice A0_5 l0_5.length c0_5] 33 (0, 0)) (by (with_reducible repeat (first | refine zB ?_ _ | refine zD ?_ | refine zC ?_ _)); exact BK215.out) hb); have n1_ := zA (zQ apT hb); clear BK215; clear HB; have BK215 := n0_; have HB := n1_; clear n0_ n1_; (try clear hb); (try clear hb2); (try clear hk); (try clear hi)))
               go_roundg kj10
               case measure => have := HK1.out; have := HJ10.out; omega
               case rel => exact ⟨((((x5_10 ++ (⟨#[10]⟩ : ByteArray)) ++ a1) ++ (⟨#[32, 32]⟩ : ByteArray)) ++ t222), (wrap64 (x6_1 + 1)), apB, apB, H', ⟨by have := HK1.out; have := HJ10.out; omega⟩, ⟨by (with_reducible repeat (first | refine zB ?_ _ | refine zD ?_ | refine zC ?_ _)); exact BK215.out⟩, ⟨apT⟩⟩
              ·rw [if_neg c36] at H
               exact absurd H (by simp)
             ·rw [if_neg c34] at H
              exact absurd H (by simp)
            ·rw [if_neg c33] at H
             exact absurd H (by simp)
           ·rw [if_neg c32] at H
            exact absurd H (by simp)
         ·rw [if_neg c17] at H
          exact absurd H (by simp)
        ·rw [if_neg c16] at H
         exact absurd H (by simp)
       ·rw [if_neg c15] at H
        exact absurd H (by simp)
    ·rw [if_neg c10] at H
     have c10b0 : decide (x6_1 < (l0_4.length : Int)) = false := decide_eq_false c10
     clear c10
     by_cases c39 : a0_0 = 6
     ·rw [if_pos c39] at H
      have c39b0 : (a0_0 == 6) = true := beq_iff_eq.mpr c39
      have c39b1 : (a0_0 != 6) = false := bne_eq_false_iff_eq.mpr c39
      clear c39
      by_cases c40 : 1 + x5_1.size ≤ 9223372036854775807
      ·rw [if_pos c40] at H
       have c40b0 := eq_true c40
       have c40b1 : decide (1 + x5_1.size ≤ 9223372036854775807) = true := yF c40
       try have c40b2 : (9223372036854775807 < 1 + x5_1.size) = False := eq_false (Nat.not_lt.2 c40)
       by_cases c41 : ((⟨#[123]⟩ : ByteArray) ++ x5_1).size + 1 ≤ 9223372036854775807
       ·rw [if_pos c41] at H
        (try (have c41b9 := eq_true c41; simp only [ByteArray.size_append, Int.natCast_add, show ((⟨#[123]⟩ : ByteArray)).size = 1 from rfl] at c41b9))
        (try (have c41b8 := eq_false (Nat.not_lt.2 c41); simp only [ByteArray.size_append, show ((⟨#[123]⟩ : ByteArray)).size = 1 from rfl] at c41b8))
        have c41b0 := eq_true c41
        have c41b1 : decide (((⟨#[123]⟩ : ByteArray) ++ x5_1).size + 1 ≤ 9223372036854775807) = true := yF c41
        try have c41b2 : (9223372036854775807 < ((⟨#[123]⟩ : ByteArray) ++ x5_1).size + 1) = False := eq_false (Nat.not_lt.2 c41)
        try simp only [ByteArray.size_append] at c41b2
        by_cases c42 : (((⟨#[123]⟩ : ByteArray) ++ x5_1) ++ (⟨#[10]⟩ : ByteArray)).size + a1.size ≤ 9223372036854775807
        ·rw [if_pos c42] at H
         (try (have c42b9 := eq_true c42; simp only [ByteArray.size_append, Int.natCast_add, show ((⟨#[123]⟩ : ByteArray)).size = 1 from rfl, show ((⟨#[10]⟩ : ByteArray)).size = 1 from rfl] at c42b9))
         (try (have c42b8 := eq_false (Nat.not_lt.2 c42); simp only [ByteArray.size_append, show ((⟨#[123]⟩ : ByteArray)).size = 1 from rfl, show ((⟨#[10]⟩ : ByteArray)).size = 1 from rfl] at c42b8))
         have c42b0 := eq_true c42
         have c42b1 : decide ((((⟨#[123]⟩ : ByteArray) ++ x5_1) ++ (⟨#[10]⟩ : ByteArray)).size + a1.size ≤ 9223372036854775807) = true := yF c42
         try have c42b2 : (9223372036854775807 < (((⟨#[123]⟩ : ByteArray) ++ x5_1) ++ (⟨#[10]⟩ : ByteArray)).size + a1.size) = False := eq_false (Nat.not_lt.2 c42)
         try simp only [ByteArray.size_append] at c42b2
         by_cases c43 : ((((⟨#[123]⟩ : ByteArray) ++ x5_1) ++ (⟨#[10]⟩ : ByteArray)) ++ a1).size + 1 ≤ 9223372036854775807
         ·rw [if_pos c43] at H
          (try (have c43b9 := eq_true c43; simp only [ByteArray.size_append, Int.natCast_add, show ((⟨#[123]⟩ : ByteArray)).size = 1 from rfl, show ((⟨#[10]⟩ : ByteArray)).size = 1 from rfl] at c43b9))
          (try (have c43b8 := eq_false (Nat.not_lt.2 c43); simp only [ByteArray.size_append, show ((⟨#[123]⟩ : ByteArray)).size = 1 from rfl, show ((⟨#[10]⟩ : ByteArray)).size = 1 from rfl] at c43b8))
          have c43b0 := eq_true c43
          have c43b1 : decide (((((⟨#[123]⟩ : ByteArray) ++ x5_1) ++ (⟨#[10]⟩ : ByteArray)) ++ a1).size + 1 ≤ 9223372036854775807) = true := yF c43
          try have c43b2 : (9223372036854775807 < ((((⟨#[123]⟩ : ByteArray) ++ x5_1) ++ (⟨#[10]⟩ : ByteArray)) ++ a1).size + 1) = False := eq_false (Nat.not_lt.2 c43)
          try simp only [ByteArray.size_append] at c43b2
          obtain rfl := yH H
          have hcz44_0 : wr.cell? ⟨gb215, 0, none⟩ = some (.int .i64 a0_0) := (zJ BK215.out 0).trans rfl
          have hcz44_1 : wr.cell? ⟨gb215, 1, none⟩ = some (.int .i64 a0_1) := (zJ BK215.out 1).trans rfl
          have hcz44_2 : wr.cell? ⟨gb215, 2, none⟩ = some (.int .i64 a0_2) := (zJ BK215.out 2).trans rfl
          have hcz44_3 : wr.cell? ⟨gb215, 3, none⟩ = some (.string a0_3) := (zJ BK215.out 3).trans rfl
          have hcz44_4 : wr.cell? ⟨gb215, 4, none⟩ = some (.slice A0_4 l0_4.length c0_4) := (zJ BK215.out 4).trans rfl
          have hcz44_5 : wr.cell? ⟨gb215, 5, none⟩ = some (.slice A0_5 l0_5.length c0_5) := (zJ BK215.out 5).trans rfl
          have hfz44_0 := zK BK215.out 0
          have hfz44_1 := zK BK215.out 1
          have hfz44_2 := zK BK215.out 2
          have hfz44_3 := zK BK215.out 3
          have hfz44_4 := zK BK215.out 4
          have hfz44_5 := zK BK215.out 5
          go_wp2
          go_ret
          exact ⟨apD, apT⟩
         ·rw [if_neg c43] at H
          exact absurd H (by simp)
        ·rw [if_neg c42] at H
         exact absurd H (by simp)
       ·rw [if_neg c41] at H
        exact absurd H (by simp)
      ·rw [if_neg c40] at H
       exact absurd H (by simp)
     ·rw [if_neg c39] at H
      have c39b0 : (a0_0 == 6) = false := beq_eq_false_iff_ne.mpr c39
      have c39b1 : (a0_0 != 6) = true := bne_iff_ne.mpr c39
      by_cases c45 : 1 + x5_1.size ≤ 9223372036854775807
      ·rw [if_pos c45] at H
       have c45b0 := eq_true c45
       have c45b1 : decide (1 + x5_1.size ≤ 9223372036854775807) = true := yF c45
       try have c45b2 : (9223372036854775807 < 1 + x5_1.size) = False := eq_false (Nat.not_lt.2 c45)
       by_cases c46 : ((⟨#[91]⟩ : ByteArray) ++ x5_1).size + 1 ≤ 9223372036854775807
       ·rw [if_pos c46] at H
        (try (have c46b9 := eq_true c46; simp only [ByteArray.size_append, Int.natCast_add, show ((⟨#[91]⟩ : ByteArray)).size = 1 from rfl] at c46b9))
        (try (have c46b8 := eq_false (Nat.not_lt.2 c46); simp only [ByteArray.size_append, show ((⟨#[91]⟩ : ByteArray)).size = 1 from rfl] at c46b8))
        have c46b0 := eq_true c46
        have c46b1 : decide (((⟨#[91]⟩ : ByteArray) ++ x5_1).size + 1 ≤ 9223372036854775807) = true := yF c46
        try have c46b2 : (9223372036854775807 < ((⟨#[91]⟩ : ByteArray) ++ x5_1).size + 1) = False := eq_false (Nat.not_lt.2 c46)
        try simp only [ByteArray.size_append] at c46b2
        by_cases c47 : (((⟨#[91]⟩ : ByteArray) ++ x5_1) ++ (⟨#[10]⟩ : ByteArray)).size + a1.size ≤ 9223372036854775807
        ·rw [if_pos c47] at H
         (try (have c47b9 := eq_true c47; simp only [ByteArray.size_append, Int.natCast_add, show ((⟨#[91]⟩ : ByteArray)).size = 1 from rfl, show ((⟨#[10]⟩ : ByteArray)).size = 1 from rfl] at c47b9))
         (try (have c47b8 := eq_false (Nat.not_lt.2 c47); simp only [ByteArray.size_append, show ((⟨#[91]⟩ : ByteArray)).size = 1 from rfl, show ((⟨#[10]⟩ : ByteArray)).size = 1 from rfl] at c47b8))
         have c47b0 := eq_true c47
         have c47b1 : decide ((((⟨#[91]⟩ : ByteArray) ++ x5_1) ++ (⟨#[10]⟩ : ByteArray)).size + a1.size ≤ 9223372036854775807) = true := yF c47
         try have c47b2 : (9223372036854775807 < (((⟨#[91]⟩ : ByteArray) ++ x5_1) ++ (⟨#[10]⟩ : ByteArray)).size + a1.size) = False := eq_false (Nat.not_lt.2 c47)
         try simp only [ByteArray.size_append] at c47b2
         by_cases c48 : ((((⟨#[91]⟩ : ByteArray) ++ x5_1) ++ (⟨#[10]⟩ : ByteArray)) ++ a1).size + 1 ≤ 9223372036854775807
         ·rw [if_pos c48] at H
          (try (have c48b9 := eq_true c48; simp only [ByteArray.size_append, Int.natCast_add, show ((⟨#[91]⟩ : ByteArray)).size = 1 from rfl, show ((⟨#[10]⟩ : ByteArray)).size = 1 from rfl] at c48b9))
          (try (have c48b8 := eq_false (Nat.not_lt.2 c48); simp only [ByteArray.size_append, show ((⟨#[91]⟩ : ByteArray)).size = 1 from rfl, show ((⟨#[10]⟩ : ByteArray)).size = 1 from rfl] at c48b8))
          have c48b0 := eq_true c48
          have c48b1 : decide (((((⟨#[91]⟩ : ByteArray) ++ x5_1) ++ (⟨#[10]⟩ : ByteArray)) ++ a1).size + 1 ≤ 9223372036854775807) = true := yF c48
          try have c48b2 : (9223372036854775807 < ((((⟨#[91]⟩ : ByteArray) ++ x5_1) ++ (⟨#[10]⟩ : ByteArray)) ++ a1).size + 1) = False := eq_false (Nat.not_lt.2 c48)
          try simp only [ByteArray.size_append] at c48b2
          obtain rfl := yH H
          have hcz49_0 : wr.cell? ⟨gb215, 0, none⟩ = some (.int .i64 a0_0) := (zJ BK215.out 0).trans rfl
          have hcz49_1 : wr.cell? ⟨gb215, 1, none⟩ = some (.int .i64 a0_1) := (zJ BK215.out 1).trans rfl
          have hcz49_2 : wr.cell? ⟨gb215, 2, none⟩ = some (.int .i64 a0_2) := (zJ BK215.out 2).trans rfl
          have hcz49_3 : wr.cell? ⟨gb215, 3, none⟩ = some (.string a0_3) := (zJ BK215.out 3).trans rfl
          have hcz49_4 : wr.cell? ⟨gb215, 4, none⟩ = some (.slice A0_4 l0_4.length c0_4) := (zJ BK215.out 4).trans rfl
          have hcz49_5 : wr.cell? ⟨gb215, 5, none⟩ = some (.slice A0_5 l0_5.length c0_5) := (zJ BK215.out 5).trans rfl
          have hfz49_0 := zK BK215.out 0
          have hfz49_1 := zK BK215.out 1
          have hfz49_2 := zK BK215.out 2
          have hfz49_3 := zK BK215.out 3
          have hfz49_4 := zK BK215.out 4
          have hfz49_5 := zK BK215.out 5
          go_wp2
          go_ret
          exact ⟨apD, apT⟩
         ·rw [if_neg c48] at H
          exact absurd H (by simp)
        ·rw [if_neg c47] at H
         exact absurd H (by simp)
       ·rw [if_neg c46] at H
        exact absurd H (by simp)
      ·rw [if_neg c45] at H
       exact absurd H (by simp)


def spec_JsonWide.f (k : Nat) (a0_0 : Int) (a0_1 : Int) (a0_2 : Int) (a0_3 : ByteArray) (l0_4 : List (S33)) (l0_5 : List ByteArray) : Option (ByteArray) := (spec_ValueOk.f k a0_0 a0_1 a0_2 a0_3 l0_4 l0_5).bind fun t224 => (if t224 = true then ((spec_l12Wide.f k a0_0 a0_1 a0_2 a0_3 l0_4 l0_5 (⟨#[]⟩ : ByteArray)).bind fun t225 => (some t225)) else (some (⟨#[]⟩ : ByteArray)))
theorem spec_JsonWide.mono : ∀ a0 a1 a2 a3 a4 a5 k, LeO (spec_JsonWide.f k a0 a1 a2 a3 a4 a5) (spec_JsonWide.f (k + 1) a0 a1 a2 a3 a4 a5) := by
 intro a0 a1 a2 a3 a4 a5 k
 unfold spec_JsonWide.f
 repeat' first
   | (with_reducible exact spec_ValueOk.mono _ _ _ _ _ _ _)
   | (with_reducible exact spec_l12Wide.mono _ _ _ _ _ _ _ _)
   | (with_reducible exact LeO.refl _)
   | (with_reducible exact LeO.none _)
   | (with_reducible refine LeO.ite ?_ ?_)
   | (with_reducible refine LeO.bind ?_ (fun _ => ?_))
set_option maxHeartbeats 8000000 in
set_option maxRecDepth 100000 in
theorem spec_JsonWide.calls (k : Nat) (a0_0 : Int) (a0_1 : Int) (a0_2 : Int) (a0_3 : ByteArray) (A0_4 : Option Addr) (c0_4 : Nat) (l0_4 : List (S33)) (A0_5 : Option Addr) (c0_5 : Nat) (l0_5 : List ByteArray) (r : ByteArray) (w : World) (hr0_4 : Kd.C k33 w A0_4 l0_4.length l0_4) (hc0_4 : l0_4.length ≤ c0_4) (hr0_5 : Kd.C Kd.string w A0_5 l0_5.length l0_5) (hc0_5 : l0_5.length ≤ c0_5) (h : spec_JsonWide.f k a0_0 a0_1 a0_2 a0_3 l0_4 l0_5 = some r) :
  Calls Tryd.prog 5 #[.agg #[.int .i64 a0_0, .int .i64 a0_1, .int .i64 a0_2, .string a0_3, .slice A0_4 l0_4.length c0_4, .slice A0_5 l0_5.length c0_5]] w fun e w' => e = .returned (.string r) ∧ Below w.heap.size w w' := by
 have hu33 := Tryd.underlying33
 have HR0_4 := zA hr0_4
 have HC0_4 := zA hc0_4
 clear hr0_4 hc0_4
 have HR0_5 := zA hr0_5
 have HC0_5 := zA hc0_5
 clear hr0_5 hc0_5
 have HB := zA (yJ w.heap.size w)
 have H : ((spec_ValueOk.f k a0_0 a0_1 a0_2 a0_3 l0_4 l0_5).bind fun t224 => (if t224 = true then ((spec_l12Wide.f k a0_0 a0_1 a0_2 a0_3 l0_4 l0_5 (⟨#[]⟩ : ByteArray)).bind fun t225 => (some t225)) else (some (⟨#[]⟩ : ByteArray)))) = some r := h
 clear h
 replace H := Option.bind_eq_some_iff.mp H
 obtain ⟨t224, A20, H⟩ := H
 replace H : (if t224 = true then ((spec_l12Wide.f k a0_0 a0_1 a0_2 a0_3 l0_4 l0_5 (⟨#[]⟩ : ByteArray)).bind fun t225 => (some t225)) else (some (⟨#[]⟩ : ByteArray))) = some r := H
 have A2 := zA A20
 clear A20
 by_cases c3 : t224 = true
 ·subst c3
  have H1 : ((spec_l12Wide.f k a0_0 a0_1 a0_2 a0_3 l0_4 l0_5 (⟨#[]⟩ : ByteArray)).bind fun t225 => (some t225)) = some r := by rw [if_pos rfl] at H; exact H
  clear H
  have H := H1
  clear H1
  replace H := Option.bind_eq_some_iff.mp H
  obtain ⟨t225, A40, H⟩ := H
  replace H : (some t225) = some r := H
  have A4 := zA A40
  clear A40
  obtain rfl := yH H
  go_enter Tryd.func5, Tryd.ntmps5
  go_wp2_with (first | ((with_reducible refine zT (N := 1) rfl ?_); refine zX ?hg (N := 1) ?hd (cs := #[.int .i64 a0_0, .int .i64 a0_1, .int .i64 a0_2, .string a0_3, .slice A0_4 l0_4.length c0_4, .slice A0_5 l0_5.length c0_5]) (t := 33) ?hr ?_; (case hd => rfl); (case hg => rfl); (case hr => first | (go_simp; done) | (go_simp; rfl)); intro gb223 hg w5 hbox hb; have n0_ := zA (zQ apA hb); have n1_ := zA (hbox); have n2_ := zA ((by rw [hg]; exact (zR apA) : w.heap.size ≤ gb223)); have n3_ := zA ((by rw [hg]; exact (zR apA) : w.heap.size ≤ gb223)); clear HB; have HB := n0_; have BK223 := n1_; have GW223 := n2_; have GE223 := n3_; clear n0_ n1_ n2_ n3_; clear hb hbox hg; have hcz6_0 : w5.cell? ⟨gb223, 0, none⟩ = some (.int .i64 a0_0) := (zJ BK223.out 0).trans rfl; have hcz6_1 : w5.cell? ⟨gb223, 1, none⟩ = some (.int .i64 a0_1) := (zJ BK223.out 1).trans rfl; have hcz6_2 : w5.cell? ⟨gb223, 2, none⟩ = some (.int .i64 a0_2) := (zJ BK223.out 2).trans rfl; have hcz6_3 : w5.cell? ⟨gb223, 3, none⟩ = some (.string a0_3) := (zJ BK223.out 3).trans rfl; have hcz6_4 : w5.cell? ⟨gb223, 4, none⟩ = some (.slice A0_4 l0_4.length c0_4) := (zJ BK223.out 4).trans rfl; have hcz6_5 : w5.cell? ⟨gb223, 5, none⟩ = some (.slice A0_5 l0_5.length c0_5) := (zJ BK223.out 5).trans rfl; have hfz6_0 := zK BK223.out 0; have hfz6_1 := zK BK223.out 1; have hfz6_2 := zK BK223.out 2; have hfz6_3 := zK BK223.out 3; have hfz6_4 := zK BK223.out 4; have hfz6_5 := zK BK223.out 5) | ((with_reducible refine zV (f := 11) rfl ?_); refine goesL_ (some 4) rfl rfl Tryd.func11 (by kernel_rfl) rfl #[.agg #[.int .i64 a0_0, .int .i64 a0_1, .int .i64 a0_2, .string a0_3, .slice A0_4 l0_4.length c0_4, .slice A0_5 l0_5.length c0_5]] rfl apE ?_; (with_reducible refine (spec_ValueOk.calls k a0_0 a0_1 a0_2 a0_3 _ _ l0_4 _ _ l0_5 true _ ?side1 ?side2 ?side3 ?side4 A2.out).mono ?_); (case side1 => repeat (first | exact (Kd.C_below HR0_4.out HB.out) | (with_reducible refine Kd.C_alloc ?_ _) | (with_reducible refine Kd.C_drewN ?_ _) | (with_reducible refine Kd.C_drew ?_))); (case side2 => exact HC0_4.out); (case side3 => repeat (first | exact (Kd.C_below HR0_5.out HB.out) | (with_reducible refine Kd.C_alloc ?_ _) | (with_reducible refine Kd.C_drewN ?_ _) | (with_reducible refine Kd.C_drew ?_))); (case side4 => exact HC0_5.out); rintro e w7 ⟨rfl, hb⟩; refine ⟨_, rfl, ?_⟩; have n0_ := zA (zP (g := gb223) (o := .cells #[.int .i64 a0_0, .int .i64 a0_1, .int .i64 a0_2, .string a0_3, .slice A0_4 l0_4.length c0_4, .slice A0_5 l0_5.length c0_5] 33 (0, 0)) (by (with_reducible repeat (first | refine zB ?_ _ | refine zD ?_ | refine zC ?_ _)); exact BK223.out) hb); have n1_ := zA (zQ (by repeat (first | (with_reducible first | exact HB.out | apply zG | apply zE | apply zF | refine zH ?_ GE223.out) | exact HB.out)) hb); clear BK223; clear HB; have BK223 := n0_; have HB := n1_; clear n0_ n1_; (try clear hb); (try clear hb2); (try clear hk); (try clear hi); have hcz8_0 : w7.cell? ⟨gb223, 0, none⟩ = some (.int .i64 a0_0) := (zJ BK223.out 0).trans rfl; have hcz8_1 : w7.cell? ⟨gb223, 1, none⟩ = some (.int .i64 a0_1) := (zJ BK223.out 1).trans rfl; have hcz8_2 : w7.cell? ⟨gb223, 2, none⟩ = some (.int .i64 a0_2) := (zJ BK223.out 2).trans rfl; have hcz8_3 : w7.cell? ⟨gb223, 3, none⟩ = some (.string a0_3) := (zJ BK223.out 3).trans rfl; have hcz8_4 : w7.cell? ⟨gb223, 4, none⟩ = some (.slice A0_4 l0_4.length c0_4) := (zJ BK223.out 4).trans rfl; have hcz8_5 : w7.cell? ⟨gb223, 5, none⟩ = some (.slice A0_5 l0_5.length c0_5) := (zJ BK223.out 5).trans rfl; have hfz8_0 := zK BK223.out 0; have hfz8_1 := zK BK223.out 1; have hfz8_2 := zK BK223.out 2; have hfz8_3 := zK BK223.out 3; have hfz8_4 := zK BK223.out 4; have hfz8_5 := zK BK223.out 5) | ((with_reducible refine zV (f := 12) rfl ?_); refine goesL_ (some 7) rfl rfl Tryd.func12 (by kernel_rfl) rfl #[.agg #[.int .i64 a0_0, .int .i64 a0_1, .int .i64 a0_2, .string a0_3, .slice A0_4 l0_4.length c0_4, .slice A0_5 l0_5.length c0_5], .string (⟨#[]⟩ : ByteArray)] rfl apE ?_; (with_reducible refine (spec_l12Wide.calls k a0_0 a0_1 a0_2 a0_3 _ _ l0_4 _ _ l0_5 (⟨#[]⟩ : ByteArray) t225 _ ?side1 ?side2 ?side3 ?side4 A4.out).mono ?_); (case side1 => repeat (first | exact (Kd.C_below HR0_4.out HB.out) | (with_reducible refine Kd.C_alloc ?_ _) | (with_reducible refine Kd.C_drewN ?_ _) | (with_reducible refine Kd.C_drew ?_))); (case side2 => exact HC0_4.out); (case side3 => repeat (first | exact (Kd.C_below HR0_5.out HB.out) | (with_reducible refine Kd.C_alloc ?_ _) | (with_reducible refine Kd.C_drewN ?_ _) | (with_reducible refine Kd.C_drew ?_))); (case side4 => exact HC0_5.out); rintro e w9 ⟨rfl, hb⟩; refine ⟨_, rfl, ?_⟩; have n0_ := zA (zQ apA hb); clear HB; have HB := n0_; clear n0_; (try clear hb); (try clear hb2); (try clear hk); (try clear hi)))
  go_ret
  exact ⟨apD, apA⟩
 ·replace c3 := Bool.eq_false_iff.mpr c3
  subst c3
  have H1 : (some (⟨#[]⟩ : ByteArray)) = some r := by rw [if_neg (show ¬ (false = true) by decide)] at H; exact H
  clear H
  have H := H1
  clear H1
  obtain rfl := yH H
  go_enter Tryd.func5, Tryd.ntmps5
  go_wp2_with (first | ((with_reducible refine zT (N := 1) rfl ?_); refine zX ?hg (N := 1) ?hd (cs := #[.int .i64 a0_0, .int .i64 a0_1, .int .i64 a0_2, .string a0_3, .slice A0_4 l0_4.length c0_4, .slice A0_5 l0_5.length c0_5]) (t := 33) ?hr ?_; (case hd => rfl); (case hg => rfl); (case hr => first | (go_simp; done) | (go_simp; rfl)); intro gb223 hg w10 hbox hb; have n0_ := zA (zQ apA hb); have n1_ := zA (hbox); have n2_ := zA ((by rw [hg]; exact (zR apA) : w.heap.size ≤ gb223)); have n3_ := zA ((by rw [hg]; exact (zR apA) : w.heap.size ≤ gb223)); clear HB; have HB := n0_; have BK223 := n1_; have GW223 := n2_; have GE223 := n3_; clear n0_ n1_ n2_ n3_; clear hb hbox hg; have hcz11_0 : w10.cell? ⟨gb223, 0, none⟩ = some (.int .i64 a0_0) := (zJ BK223.out 0).trans rfl; have hcz11_1 : w10.cell? ⟨gb223, 1, none⟩ = some (.int .i64 a0_1) := (zJ BK223.out 1).trans rfl; have hcz11_2 : w10.cell? ⟨gb223, 2, none⟩ = some (.int .i64 a0_2) := (zJ BK223.out 2).trans rfl; have hcz11_3 : w10.cell? ⟨gb223, 3, none⟩ = some (.string a0_3) := (zJ BK223.out 3).trans rfl; have hcz11_4 : w10.cell? ⟨gb223, 4, none⟩ = some (.slice A0_4 l0_4.length c0_4) := (zJ BK223.out 4).trans rfl; have hcz11_5 : w10.cell? ⟨gb223, 5, none⟩ = some (.slice A0_5 l0_5.length c0_5) := (zJ BK223.out 5).trans rfl; have hfz11_0 := zK BK223.out 0; have hfz11_1 := zK BK223.out 1; have hfz11_2 := zK BK223.out 2; have hfz11_3 := zK BK223.out 3; have hfz11_4 := zK BK223.out 4; have hfz11_5 := zK BK223.out 5) | ((with_reducible refine zV (f := 11) rfl ?_); refine goesL_ (some 4) rfl rfl Tryd.func11 (by kernel_rfl) rfl #[.agg #[.int .i64 a0_0, .int .i64 a0_1, .int .i64 a0_2, .string a0_3, .slice A0_4 l0_4.length c0_4, .slice A0_5 l0_5.length c0_5]] rfl apE ?_; (with_reducible refine (spec_ValueOk.calls k a0_0 a0_1 a0_2 a0_3 _ _ l0_4 _ _ l0_5 false _ ?side1 ?side2 ?side3 ?side4 A2.out).mono ?_); (case side1 => repeat (first | exact (Kd.C_below HR0_4.out HB.out) | (with_reducible refine Kd.C_alloc ?_ _) | (with_reducible refine Kd.C_drewN ?_ _) | (with_reducible refine Kd.C_drew ?_))); (case side2 => exact HC0_4.out); (case side3 => repeat (first | exact (Kd.C_below HR0_5.out HB.out) | (with_reducible refine Kd.C_alloc ?_ _) | (with_reducible refine Kd.C_drewN ?_ _) | (with_reducible refine Kd.C_drew ?_))); (case side4 => exact HC0_5.out); rintro e w12 ⟨rfl, hb⟩; refine ⟨_, rfl, ?_⟩; have n0_ := zA (zQ apA hb); clear HB; have HB := n0_; clear n0_; (try clear hb); (try clear hb2); (try clear hk); (try clear hi)))
  go_ret
  exact ⟨apD, apA⟩


def impl_JsonWide.f (k : Nat) (a0_0 : Int) (a0_1 : Int) (a0_2 : Int) (a0_3 : ByteArray) (l0_4 : List (S33)) (l0_5 : List ByteArray) (l1 : List (List ByteArray)) (l2 : List Int) : Option (ByteArray) := (impl_ValueOk.f k a0_0 a0_1 a0_2 a0_3 l0_4 l0_5 l1).bind fun t309 => (if t309 = true then ((impl_layout.f k a0_0 a0_1 a0_2 a0_3 l0_4 l0_5 true (⟨#[]⟩ : ByteArray) l2).bind fun t310 => (some t310)) else (some (⟨#[]⟩ : ByteArray)))
theorem impl_JsonWide.mono : ∀ a0 a1 a2 a3 a4 a5 a6 a7 k, LeO (impl_JsonWide.f k a0 a1 a2 a3 a4 a5 a6 a7) (impl_JsonWide.f (k + 1) a0 a1 a2 a3 a4 a5 a6 a7) := by
 intro a0 a1 a2 a3 a4 a5 a6 a7 k
 unfold impl_JsonWide.f
 repeat' first
   | (with_reducible exact impl_ValueOk.mono _ _ _ _ _ _ _ _)
   | (with_reducible exact impl_layout.mono _ _ _ _ _ _ _ _ _ _)
   | (with_reducible exact LeO.refl _)
   | (with_reducible exact LeO.none _)
   | (with_reducible refine LeO.ite ?_ ?_)
   | (with_reducible refine LeO.bind ?_ (fun _ => ?_))
set_option maxHeartbeats 8000000 in
set_option maxRecDepth 100000 in
theorem impl_JsonWide.calls (k : Nat) (a0_0 : Int) (a0_1 : Int) (a0_2 : Int) (a0_3 : ByteArray) (A0_4 : Option Addr) (c0_4 : Nat) (l0_4 : List (S33)) (A0_5 : Option Addr) (c0_5 : Nat) (l0_5 : List ByteArray) (A1 : Option Addr) (c1 : Nat) (l1 : List (List ByteArray)) (A2 : Option Addr) (c2 : Nat) (l2 : List Int) (r : ByteArray) (w : World) (hr0_4 : Kd.C k33 w A0_4 l0_4.length l0_4) (hc0_4 : l0_4.length ≤ c0_4) (hr0_5 : Kd.C Kd.string w A0_5 l0_5.length l0_5) (hc0_5 : l0_5.length ≤ c0_5) (hr1 : Kd.C (Kd.slice 9 Kd.string) w A1 l1.length l1) (hc1 : l1.length ≤ c1) (hr2 : Kd.C kPow w A2 l2.length l2) (hc2 : l2.length ≤ c2) (hg1 : A1 = some ⟨0, 0, none⟩) (hg2 : A2 = some ⟨2, 0, none⟩ ∧ l2 = [1]) (h : impl_JsonWide.f k a0_0 a0_1 a0_2 a0_3 l0_4 l0_5 l1 l2 = some r) :
  Calls Tryd.prog 7 #[.agg #[.int .i64 a0_0, .int .i64 a0_1, .int .i64 a0_2, .string a0_3, .slice A0_4 l0_4.length c0_4, .slice A0_5 l0_5.length c0_5]] w fun e w' => e = .returned (.string r) ∧ Below w.heap.size w w' := by
 have hu33 := Tryd.underlying33
 have HR0_4 := zA hr0_4
 have HC0_4 := zA hc0_4
 clear hr0_4 hc0_4
 have HR0_5 := zA hr0_5
 have HC0_5 := zA hc0_5
 clear hr0_5 hc0_5
 have HG1 := zA hg1
 clear hg1
 have HR1 := zA hr1
 have HC1 := zA hc1
 clear hr1 hc1
 have HG2 := zA hg2
 clear hg2
 have HR2 := zA hr2
 have HC2 := zA hc2
 clear hr2 hc2
 have HB := zA (yJ w.heap.size w)
 have H : ((impl_ValueOk.f k a0_0 a0_1 a0_2 a0_3 l0_4 l0_5 l1).bind fun t309 => (if t309 = true then ((impl_layout.f k a0_0 a0_1 a0_2 a0_3 l0_4 l0_5 true (⟨#[]⟩ : ByteArray) l2).bind fun t310 => (some t310)) else (some (⟨#[]⟩ : ByteArray)))) = some r := h
 clear h
 replace H := Option.bind_eq_some_iff.mp H
 obtain ⟨t309, A40, H⟩ := H
 replace H : (if t309 = true then ((impl_layout.f k a0_0 a0_1 a0_2 a0_3 l0_4 l0_5 true (⟨#[]⟩ : ByteArray) l2).bind fun t310 => (some t310)) else (some (⟨#[]⟩ : ByteArray))) = some r := H
 have A4 := zA A40
 clear A40
 by_cases c5 : t309 = true
 ·subst c5
  have H1 : ((impl_layout.f k a0_0 a0_1 a0_2 a0_3 l0_4 l0_5 true (⟨#[]⟩ : ByteArray) l2).bind fun t310 => (some t310)) = some r := by rw [if_pos rfl] at H; exact H
  clear H
  have H := H1
  clear H1
  replace H := Option.bind_eq_some_iff.mp H
  obtain ⟨t310, A60, H⟩ := H
  replace H : (some t310) = some r := H
  have A6 := zA A60
  clear A60
  obtain rfl := yH H
  go_enter Tryd.func7, Tryd.ntmps7
  go_wp2_with (first | ((with_reducible refine zT (N := 1) rfl ?_); refine zX ?hg (N := 1) ?hd (cs := #[.int .i64 a0_0, .int .i64 a0_1, .int .i64 a0_2, .string a0_3, .slice A0_4 l0_4.length c0_4, .slice A0_5 l0_5.length c0_5]) (t := 33) ?hr ?_; (case hd => rfl); (case hg => rfl); (case hr => first | (go_simp; done) | (go_simp; rfl)); intro gb308 hg w7 hbox hb; have n0_ := zA (zQ apA hb); have n1_ := zA (hbox); have n2_ := zA ((by rw [hg]; exact (zR apA) : w.heap.size ≤ gb308)); have n3_ := zA ((by rw [hg]; exact (zR apA) : w.heap.size ≤ gb308)); clear HB; have HB := n0_; have BK308 := n1_; have GW308 := n2_; have GE308 := n3_; clear n0_ n1_ n2_ n3_; clear hb hbox hg; have hcz8_0 : w7.cell? ⟨gb308, 0, none⟩ = some (.int .i64 a0_0) := (zJ BK308.out 0).trans rfl; have hcz8_1 : w7.cell? ⟨gb308, 1, none⟩ = some (.int .i64 a0_1) := (zJ BK308.out 1).trans rfl; have hcz8_2 : w7.cell? ⟨gb308, 2, none⟩ = some (.int .i64 a0_2) := (zJ BK308.out 2).trans rfl; have hcz8_3 : w7.cell? ⟨gb308, 3, none⟩ = some (.string a0_3) := (zJ BK308.out 3).trans rfl; have hcz8_4 : w7.cell? ⟨gb308, 4, none⟩ = some (.slice A0_4 l0_4.length c0_4) := (zJ BK308.out 4).trans rfl; have hcz8_5 : w7.cell? ⟨gb308, 5, none⟩ = some (.slice A0_5 l0_5.length c0_5) := (zJ BK308.out 5).trans rfl; have hfz8_0 := zK BK308.out 0; have hfz8_1 := zK BK308.out 1; have hfz8_2 := zK BK308.out 2; have hfz8_3 := zK BK308.out 3; have hfz8_4 := zK BK308.out 4; have hfz8_5 := zK BK308.out 5) | ((with_reducible refine zV (f := 16) rfl ?_); refine goesL_ (some 4) rfl rfl Tryd.func16 (by kernel_rfl) rfl #[.agg #[.int .i64 a0_0, .int .i64 a0_1, .int .i64 a0_2, .string a0_3, .slice A0_4 l0_4.length c0_4, .slice A0_5 l0_5.length c0_5]] rfl apE ?_; (with_reducible refine (impl_ValueOk.calls k a0_0 a0_1 a0_2 a0_3 _ _ l0_4 _ _ l0_5 A1 c1 l1 true _ ?side1 ?side2 ?side3 ?side4 ?side5 ?side6 ?side7 A4.out).mono ?_); (case side1 => repeat (first | exact (Kd.C_below HR0_4.out HB.out) | (with_reducible refine Kd.C_alloc ?_ _) | (with_reducible refine Kd.C_drewN ?_ _) | (with_reducible refine Kd.C_drew ?_))); (case side2 => exact HC0_4.out); (case side3 => repeat (first | exact (Kd.C_below HR0_5.out HB.out) | (with_reducible refine Kd.C_alloc ?_ _) | (with_reducible refine Kd.C_drewN ?_ _) | (with_reducible refine Kd.C_drew ?_))); (case side4 => exact HC0_5.out); (case side5 => repeat (first | exact (Kd.C_below HR1.out HB.out) | (with_reducible refine Kd.C_alloc ?_ _) | (with_reducible refine Kd.C_drewN ?_ _) | (with_reducible refine Kd.C_drew ?_))); (case side6 => exact HC1.out); (case side7 => exact HG1.out); rintro e w9 ⟨rfl, hb⟩; refine ⟨_, rfl, ?_⟩; have n0_ := zA (zP (g := gb308) (o := .cells #[.int .i64 a0_0, .int .i64 a0_1, .int .i64 a0_2, .string a0_3, .slice A0_4 l0_4.length c0_4, .slice A0_5 l0_5.length c0_5] 33 (0, 0)) (by (with_reducible repeat (first | refine zB ?_ _ | refine zD ?_ | refine zC ?_ _)); exact BK308.out) hb); have n1_ := zA (zQ (by repeat (first | (with_reducible first | exact HB.out | apply zG | apply zE | apply zF | refine zH ?_ GE308.out) | exact HB.out)) hb); clear BK308; clear HB; have BK308 := n0_; have HB := n1_; clear n0_ n1_; (try clear hb); (try clear hb2); (try clear hk); (try clear hi); have hcz10_0 : w9.cell? ⟨gb308, 0, none⟩ = some (.int .i64 a0_0) := (zJ BK308.out 0).trans rfl; have hcz10_1 : w9.cell? ⟨gb308, 1, none⟩ = some (.int .i64 a0_1) := (zJ BK308.out 1).trans rfl; have hcz10_2 : w9.cell? ⟨gb308, 2, none⟩ = some (.int .i64 a0_2) := (zJ BK308.out 2).trans rfl; have hcz10_3 : w9.cell? ⟨gb308, 3, none⟩ = some (.string a0_3) := (zJ BK308.out 3).trans rfl; have hcz10_4 : w9.cell? ⟨gb308, 4, none⟩ = some (.slice A0_4 l0_4.length c0_4) := (zJ BK308.out 4).trans rfl; have hcz10_5 : w9.cell? ⟨gb308, 5, none⟩ = some (.slice A0_5 l0_5.length c0_5) := (zJ BK308.out 5).trans rfl; have hfz10_0 := zK BK308.out 0; have hfz10_1 := zK BK308.out 1; have hfz10_2 := zK BK308.out 2; have hfz10_3 := zK BK308.out 3; have hfz10_4 := zK BK308.out 4; have hfz10_5 := zK BK308.out 5) | ((with_reducible refine zV (f := 17) rfl ?_); refine goesL_ (some 7) rfl rfl Tryd.func17 (by kernel_rfl) rfl #[.agg #[.int .i64 a0_0, .int .i64 a0_1, .int .i64 a0_2, .string a0_3, .slice A0_4 l0_4.length c0_4, .slice A0_5 l0_5.length c0_5], .bool true, .string (⟨#[]⟩ : ByteArray)] rfl apE ?_; (with_reducible refine (impl_layout.calls k a0_0 a0_1 a0_2 a0_3 _ _ l0_4 _ _ l0_5 true (⟨#[]⟩ : ByteArray) A2 c2 l2 t310 _ ?side1 ?side2 ?side3 ?side4 ?side5 ?side6 ?side7 A6.out).mono ?_); (case side1 => repeat (first | exact (Kd.C_below HR0_4.out HB.out) | (with_reducible refine Kd.C_alloc ?_ _) | (with_reducible refine Kd.C_drewN ?_ _) | (with_reducible refine Kd.C_drew ?_))); (case side2 => exact HC0_4.out); (case side3 => repeat (first | exact (Kd.C_below HR0_5.out HB.out) | (with_reducible refine Kd.C_alloc ?_ _) | (with_reducible refine Kd.C_drewN ?_ _) | (with_reducible refine Kd.C_drew ?_))); (case side4 => exact HC0_5.out); (case side5 => repeat (first | exact (Kd.C_below HR2.out HB.out) | (with_reducible refine Kd.C_alloc ?_ _) | (with_reducible refine Kd.C_drewN ?_ _) | (with_reducible refine Kd.C_drew ?_))); (case side6 => exact HC2.out); (case side7 => exact HG2.out); rintro e w11 ⟨rfl, hb⟩; refine ⟨_, rfl, ?_⟩; have n0_ := zA (zQ apA hb); clear HB; have HB := n0_; clear n0_; (try clear hb); (try clear hb2); (try clear hk); (try clear hi)))
  go_ret
  exact ⟨apD, apA⟩
 ·replace c5 := Bool.eq_false_iff.mpr c5
  subst c5
  have H1 : (some (⟨#[]⟩ : ByteArray)) = some r := by rw [if_neg (show ¬ (false = true) by decide)] at H; exact H
  clear H
  have H := H1
  clear H1
  obtain rfl := yH H
  go_enter Tryd.func7, Tryd.ntmps7
  go_wp2_with (first | ((with_reducible refine zT (N := 1) rfl ?_); refine zX ?hg (N := 1) ?hd (cs := #[.int .i64 a0_0, .int .i64 a0_1, .int .i64 a0_2, .string a0_3, .slice A0_4 l0_4.length c0_4, .slice A0_5 l0_5.length c0_5]) (t := 33) ?hr ?_; (case hd => rfl); (case hg => rfl); (case hr => first | (go_simp; done) | (go_simp; rfl)); intro gb308 hg w12 hbox hb; have n0_ := zA (zQ apA hb); have n1_ := zA (hbox); have n2_ := zA ((by rw [hg]; exact (zR apA) : w.heap.size ≤ gb308)); have n3_ := zA ((by rw [hg]; exact (zR apA) : w.heap.size ≤ gb308)); clear HB; have HB := n0_; have BK308 := n1_; have GW308 := n2_; have GE308 := n3_; clear n0_ n1_ n2_ n3_; clear hb hbox hg; have hcz13_0 : w12.cell? ⟨gb308, 0, none⟩ = some (.int .i64 a0_0) := (zJ BK308.out 0).trans rfl; have hcz13_1 : w12.cell? ⟨gb308, 1, none⟩ = some (.int .i64 a0_1) := (zJ BK308.out 1).trans rfl; have hcz13_2 : w12.cell? ⟨gb308, 2, none⟩ = some (.int .i64 a0_2) := (zJ BK308.out 2).trans rfl; have hcz13_3 : w12.cell? ⟨gb308, 3, none⟩ = some (.string a0_3) := (zJ BK308.out 3).trans rfl; have hcz13_4 : w12.cell? ⟨gb308, 4, none⟩ = some (.slice A0_4 l0_4.length c0_4) := (zJ BK308.out 4).trans rfl; have hcz13_5 : w12.cell? ⟨gb308, 5, none⟩ = some (.slice A0_5 l0_5.length c0_5) := (zJ BK308.out 5).trans rfl; have hfz13_0 := zK BK308.out 0; have hfz13_1 := zK BK308.out 1; have hfz13_2 := zK BK308.out 2; have hfz13_3 := zK BK308.out 3; have hfz13_4 := zK BK308.out 4; have hfz13_5 := zK BK308.out 5) | ((with_reducible refine zV (f := 16) rfl ?_); refine goesL_ (some 4) rfl rfl Tryd.func16 (by kernel_rfl) rfl #[.agg #[.int .i64 a0_0, .int .i64 a0_1, .int .i64 a0_2, .string a0_3, .slice A0_4 l0_4.length c0_4, .slice A0_5 l0_5.length c0_5]] rfl apE ?_; (with_reducible refine (impl_ValueOk.calls k a0_0 a0_1 a0_2 a0_3 _ _ l0_4 _ _ l0_5 A1 c1 l1 false _ ?side1 ?side2 ?side3 ?side4 ?side5 ?side6 ?side7 A4.out).mono ?_); (case side1 => repeat (first | exact (Kd.C_below HR0_4.out HB.out) | (with_reducible refine Kd.C_alloc ?_ _) | (with_reducible refine Kd.C_drewN ?_ _) | (with_reducible refine Kd.C_drew ?_))); (case side2 => exact HC0_4.out); (case side3 => repeat (first | exact (Kd.C_below HR0_5.out HB.out) | (with_reducible refine Kd.C_alloc ?_ _) | (with_reducible refine Kd.C_drewN ?_ _) | (with_reducible refine Kd.C_drew ?_))); (case side4 => exact HC0_5.out); (case side5 => repeat (first | exact (Kd.C_below HR1.out HB.out) | (with_reducible refine Kd.C_alloc ?_ _) | (with_reducible refine Kd.C_drewN ?_ _) | (with_reducible refine Kd.C_drew ?_))); (case side6 => exact HC1.out); (case side7 => exact HG1.out); rintro e w14 ⟨rfl, hb⟩; refine ⟨_, rfl, ?_⟩; have n0_ := zA (zQ apA hb); clear HB; have HB := n0_; clear n0_; (try clear hb); (try clear hb2); (try clear hk); (try clear hi)))
  go_ret
  exact ⟨apD, apA⟩


def laws_FnExactJsonWide.f (k : Nat) (a0_0 : Int) (a0_1 : Int) (a0_2 : Int) (a0_3 : ByteArray) (l0_4 : List (S27)) (l0_5 : List ByteArray) (l1 : List (List ByteArray)) (l2 : List Int) : Option (Bool) := (laws_szValue.f k a0_0 a0_1 a0_2 a0_3 l0_4 l0_5 1048576).bind fun t324 => (if t324 < 0 then (some true) else ((laws_toValue.f k a0_0 a0_1 a0_2 a0_3 l0_4 l0_5).bind fun bt325 => ((spec_JsonWide.f k bt325.1 bt325.2.1 bt325.2.2.1 bt325.2.2.2.1 bt325.2.2.2.2.1 bt325.2.2.2.2.2).bind fun t335 => ((laws_toValue.f k a0_0 a0_1 a0_2 a0_3 l0_4 l0_5).bind fun bt336 => ((impl_JsonWide.f k bt336.1 bt336.2.1 bt336.2.2.1 bt336.2.2.2.1 bt336.2.2.2.2.1 bt336.2.2.2.2.2 l1 l2).bind fun t347 => (if t347.toList = t335.toList then ((laws_toValue.f k a0_0 a0_1 a0_2 a0_3 l0_4 l0_5).bind fun bt348 => ((laws_eqValue.f k bt336.1 bt336.2.1 bt336.2.2.1 bt336.2.2.2.1 bt336.2.2.2.2.1 bt336.2.2.2.2.2 bt348.1 bt348.2.1 bt348.2.2.1 bt348.2.2.2.1 bt348.2.2.2.2.1 bt348.2.2.2.2.2).bind fun t358 => (if t358 = true then (some true) else (none)))) else (none)))))))
theorem laws_FnExactJsonWide.mono : ∀ a0 a1 a2 a3 a4 a5 a6 a7 k, LeO (laws_FnExactJsonWide.f k a0 a1 a2 a3 a4 a5 a6 a7) (laws_FnExactJsonWide.f (k + 1) a0 a1 a2 a3 a4 a5 a6 a7) := by
 intro a0 a1 a2 a3 a4 a5 a6 a7 k
 unfold laws_FnExactJsonWide.f
 repeat' first
   | (with_reducible exact impl_JsonWide.mono _ _ _ _ _ _ _ _ _)
   | (with_reducible exact laws_eqValue.mono _ _ _ _ _ _ _ _ _ _ _ _ _)
   | (with_reducible exact laws_szValue.mono _ _ _ _ _ _ _ _)
   | (with_reducible exact laws_toValue.mono _ _ _ _ _ _ _)
   | (with_reducible exact spec_JsonWide.mono _ _ _ _ _ _ _)
   | (with_reducible exact LeO.refl _)
   | (with_reducible exact LeO.none _)
   | (with_reducible refine LeO.ite ?_ ?_)
   | (with_reducible refine LeO.bind ?_ (fun _ => ?_))
set_option maxHeartbeats 8000000 in
set_option maxRecDepth 100000 in
theorem laws_FnExactJsonWide.calls (k : Nat) (a0_0 : Int) (a0_1 : Int) (a0_2 : Int) (a0_3 : ByteArray) (A0_4 : Option Addr) (c0_4 : Nat) (l0_4 : List (S27)) (A0_5 : Option Addr) (c0_5 : Nat) (l0_5 : List ByteArray) (A1 : Option Addr) (c1 : Nat) (l1 : List (List ByteArray)) (A2 : Option Addr) (c2 : Nat) (l2 : List Int) (r : Bool) (w : World) (hr0_4 : Kd.C k27 w A0_4 l0_4.length l0_4) (hc0_4 : l0_4.length ≤ c0_4) (hr0_5 : Kd.C Kd.string w A0_5 l0_5.length l0_5) (hc0_5 : l0_5.length ≤ c0_5) (hr1 : Kd.C (Kd.slice 9 Kd.string) w A1 l1.length l1) (hc1 : l1.length ≤ c1) (hr2 : Kd.C kPow w A2 l2.length l2) (hc2 : l2.length ≤ c2) (hg1 : A1 = some ⟨0, 0, none⟩) (hg2 : A2 = some ⟨2, 0, none⟩ ∧ l2 = [1]) (h : laws_FnExactJsonWide.f k a0_0 a0_1 a0_2 a0_3 l0_4 l0_5 l1 l2 = some r) :
  Calls Tryd.prog 3 #[.agg #[.int .i64 a0_0, .int .i64 a0_1, .int .i64 a0_2, .string a0_3, .slice A0_4 l0_4.length c0_4, .slice A0_5 l0_5.length c0_5]] w fun e w' => e = .returned (.bool r) ∧ Below w.heap.size w w' := by
 have hu27 := Tryd.underlying27
 have hu33 := Tryd.underlying33
 have HR0_4 := zA hr0_4
 have HC0_4 := zA hc0_4
 clear hr0_4 hc0_4
 have HR0_5 := zA hr0_5
 have HC0_5 := zA hc0_5
 clear hr0_5 hc0_5
 have HG1 := zA hg1
 clear hg1
 have HR1 := zA hr1
 have HC1 := zA hc1
 clear hr1 hc1
 have HG2 := zA hg2
 clear hg2
 have HR2 := zA hr2
 have HC2 := zA hc2
 clear hr2 hc2
 have HB := zA (yJ w.heap.size w)
 have H : ((laws_szValue.f k a0_0 a0_1 a0_2 a0_3 l0_4 l0_5 1048576).bind fun t324 => (if t324 < 0 then (some true) else ((laws_toValue.f k a0_0 a0_1 a0_2 a0_3 l0_4 l0_5).bind fun bt325 => ((spec_JsonWide.f k bt325.1 bt325.2.1 bt325.2.2.1 bt325.2.2.2.1 bt325.2.2.2.2.1 bt325.2.2.2.2.2).bind fun t335 => ((laws_toValue.f k a0_0 a0_1 a0_2 a0_3 l0_4 l0_5).bind fun bt336 => ((impl_JsonWide.f k bt336.1 bt336.2.1 bt336.2.2.1 bt336.2.2.2.1 bt336.2.2.2.2.1 bt336.2.2.2.2.2 l1 l2).bind fun t347 => (if t347.toList = t335.toList then ((laws_toValue.f k a0_0 a0_1 a0_2 a0_3 l0_4 l0_5).bind fun bt348 => ((laws_eqValue.f k bt336.1 bt336.2.1 bt336.2.2.1 bt336.2.2.2.1 bt336.2.2.2.2.1 bt336.2.2.2.2.2 bt348.1 bt348.2.1 bt348.2.2.1 bt348.2.2.2.1 bt348.2.2.2.2.1 bt348.2.2.2.2.2).bind fun t358 => (if t358 = true then (some true) else (none)))) else (none)))))))) = some r := h
 clear h
 replace H := Option.bind_eq_some_iff.mp H
 obtain ⟨t324, A40, H⟩ := H
 replace H : (if t324 < 0 then (some true) else ((laws_toValue.f k a0_0 a0_1 a0_2 a0_3 l0_4 l0_5).bind fun bt325 => ((spec_JsonWide.f k bt325.1 bt325.2.1 bt325.2.2.1 bt325.2.2.2.1 bt325.2.2.2.2.1 bt325.2.2.2.2.2).bind fun t335 => ((laws_toValue.f k a0_0 a0_1 a0_2 a0_3 l0_4 l0_5).bind fun bt336 => ((impl_JsonWide.f k bt336.1 bt336.2.1 bt336.2.2.1 bt336.2.2.2.1 bt336.2.2.2.2.1 bt336.2.2.2.2.2 l1 l2).bind fun t347 => (if t347.toList = t335.toList then ((laws_toValue.f k a0_0 a0_1 a0_2 a0_3 l0_4 l0_5).bind fun bt348 => ((laws_eqValue.f k bt336.1 bt336.2.1 bt336.2.2.1 bt336.2.2.2.1 bt336.2.2.2.2.1 bt336.2.2.2.2.2 bt348.1 bt348.2.1 bt348.2.2.1 bt348.2.2.2.1 bt348.2.2.2.2.1 bt348.2.2.2.2.2).bind fun t358 => (if t358 = true then (some true) else (none)))) else (none))))))) = some r := H
 have A4 := zA A40
 clear A40
 by_cases c5 : t324 < 0
 ·rw [if_pos c5] at H
  have c5b0 : decide (t324 < 0) = true := yF c5
  clear c5
  obtain rfl := yH H
  go_enter Tryd.func3, Tryd.ntmps3
  go_wp2_with (first | ((with_reducible refine zT (N := 1) rfl ?_); refine zX ?hg (N := 1) ?hd (cs := #[.int .i64 a0_0, .int .i64 a0_1, .int .i64 a0_2, .string a0_3, .slice A0_4 l0_4.length c0_4, .slice A0_5 l0_5.length c0_5]) (t := 27) ?hr ?_; (case hd => rfl); (case hg => rfl); (case hr => first | (go_simp; done) | (go_simp; rfl)); intro gb323 hg w6 hbox hb; have n0_ := zA (zQ apA hb); have n1_ := zA (hbox); have n2_ := zA ((by rw [hg]; exact (zR apA) : w.heap.size ≤ gb323)); have n3_ := zA ((by rw [hg]; exact (zR apA) : w.heap.size ≤ gb323)); clear HB; have HB := n0_; have BK323 := n1_; have GW323 := n2_; have GE323 := n3_; clear n0_ n1_ n2_ n3_; clear hb hbox hg; have hcz7_0 : w6.cell? ⟨gb323, 0, none⟩ = some (.int .i64 a0_0) := (zJ BK323.out 0).trans rfl; have hcz7_1 : w6.cell? ⟨gb323, 1, none⟩ = some (.int .i64 a0_1) := (zJ BK323.out 1).trans rfl; have hcz7_2 : w6.cell? ⟨gb323, 2, none⟩ = some (.int .i64 a0_2) := (zJ BK323.out 2).trans rfl; have hcz7_3 : w6.cell? ⟨gb323, 3, none⟩ = some (.string a0_3) := (zJ BK323.out 3).trans rfl; have hcz7_4 : w6.cell? ⟨gb323, 4, none⟩ = some (.slice A0_4 l0_4.length c0_4) := (zJ BK323.out 4).trans rfl; have hcz7_5 : w6.cell? ⟨gb323, 5, none⟩ = some (.slice A0_5 l0_5.length c0_5) := (zJ BK323.out 5).trans rfl; have hfz7_0 := zK BK323.out 0; have hfz7_1 := zK BK323.out 1; have hfz7_2 := zK BK323.out 2; have hfz7_3 := zK BK323.out 3; have hfz7_4 := zK BK323.out 4; have hfz7_5 := zK BK323.out 5) | ((with_reducible refine zV (f := 4) rfl ?_); refine goesL_ (some 9) rfl rfl Tryd.func4 (by kernel_rfl) rfl #[.agg #[.int .i64 a0_0, .int .i64 a0_1, .int .i64 a0_2, .string a0_3, .slice A0_4 l0_4.length c0_4, .slice A0_5 l0_5.length c0_5], .int .i64 1048576] rfl apE ?_; (with_reducible refine (laws_szValue.calls k a0_0 a0_1 a0_2 a0_3 _ _ l0_4 _ _ l0_5 1048576 t324 _ ?side1 ?side2 ?side3 ?side4 A4.out).mono ?_); (case side1 => repeat (first | exact (Kd.C_below HR0_4.out HB.out) | (with_reducible refine Kd.C_alloc ?_ _) | (with_reducible refine Kd.C_drewN ?_ _) | (with_reducible refine Kd.C_drew ?_))); (case side2 => exact HC0_4.out); (case side3 => repeat (first | exact (Kd.C_below HR0_5.out HB.out) | (with_reducible refine Kd.C_alloc ?_ _) | (with_reducible refine Kd.C_drewN ?_ _) | (with_reducible refine Kd.C_drew ?_))); (case side4 => exact HC0_5.out); rintro e w8 ⟨rfl, hb⟩; refine ⟨_, rfl, ?_⟩; have n0_ := zA (zQ apA hb); clear HB; have HB := n0_; clear n0_; (try clear hb); (try clear hb2); (try clear hk); (try clear hi)))
  go_ret
  exact ⟨apD, apA⟩
 ·rw [if_neg c5] at H
  have c5b0 : decide (t324 < 0) = false := decide_eq_false c5
  clear c5
  replace H := Option.bind_eq_some_iff.mp H
  obtain ⟨⟨t325, t326, t327, t328, t329, t332⟩, A90, H⟩ := H
  replace H : ((spec_JsonWide.f k t325 t326 t327 t328 t329 t332).bind fun t335 => ((laws_toValue.f k a0_0 a0_1 a0_2 a0_3 l0_4 l0_5).bind fun bt336 => ((impl_JsonWide.f k bt336.1 bt336.2.1 bt336.2.2.1 bt336.2.2.2.1 bt336.2.2.2.2.1 bt336.2.2.2.2.2 l1 l2).bind fun t347 => (if t347.toList = t335.toList then ((laws_toValue.f k a0_0 a0_1 a0_2 a0_3 l0_4 l0_5).bind fun bt348 => ((laws_eqValue.f k bt336.1 bt336.2.1 bt336.2.2.1 bt336.2.2.2.1 bt336.2.2.2.2.1 bt336.2.2.2.2.2 bt348.1 bt348.2.1 bt348.2.2.1 bt348.2.2.2.1 bt348.2.2.2.2.1 bt348.2.2.2.2.2).bind fun t358 => (if t358 = true then (some true) else (none)))) else (none))))) = some r := H
  have A9 := zA A90
  clear A90
  replace H := Option.bind_eq_some_iff.mp H
  obtain ⟨t335, A100, H⟩ := H
  replace H : ((laws_toValue.f k a0_0 a0_1 a0_2 a0_3 l0_4 l0_5).bind fun bt336 => ((impl_JsonWide.f k bt336.1 bt336.2.1 bt336.2.2.1 bt336.2.2.2.1 bt336.2.2.2.2.1 bt336.2.2.2.2.2 l1 l2).bind fun t347 => (if t347.toList = t335.toList then ((laws_toValue.f k a0_0 a0_1 a0_2 a0_3 l0_4 l0_5).bind fun bt348 => ((laws_eqValue.f k bt336.1 bt336.2.1 bt336.2.2.1 bt336.2.2.2.1 bt336.2.2.2.2.1 bt336.2.2.2.2.2 bt348.1 bt348.2.1 bt348.2.2.1 bt348.2.2.2.1 bt348.2.2.2.2.1 bt348.2.2.2.2.2).bind fun t358 => (if t358 = true then (some true) else (none)))) else (none)))) = some r := H
  have A10 := zA A100
  clear A100
  replace H := Option.bind_eq_some_iff.mp H
  obtain ⟨⟨t336, t337, t338, t339, t340, t343⟩, A110, H⟩ := H
  replace H : ((impl_JsonWide.f k t336 t337 t338 t339 t340 t343 l1 l2).bind fun t347 => (if t347.toList = t335.toList then ((laws_toValue.f k a0_0 a0_1 a0_2 a0_3 l0_4 l0_5).bind fun bt348 => ((laws_eqValue.f k t336 t337 t338 t339 t340 t343 bt348.1 bt348.2.1 bt348.2.2.1 bt348.2.2.2.1 bt348.2.2.2.2.1 bt348.2.2.2.2.2).bind fun t358 => (if t358 = true then (some true) else (none)))) else (none))) = some r := H
  have A11 := zA A110
  clear A110
  replace H := Option.bind_eq_some_iff.mp H
  obtain ⟨t347, A120, H⟩ := H
  replace H : (if t347.toList = t335.toList then ((laws_toValue.f k a0_0 a0_1 a0_2 a0_3 l0_4 l0_5).bind fun bt348 => ((laws_eqValue.f k t336 t337 t338 t339 t340 t343 bt348.1 bt348.2.1 bt348.2.2.1 bt348.2.2.2.1 bt348.2.2.2.2.1 bt348.2.2.2.2.2).bind fun t358 => (if t358 = true then (some true) else (none)))) else (none)) = some r := H
  have A12 := zA A120
  clear A120
  by_cases c13 : t347.toList = t335.toList
  ·rw [if_pos c13] at H
   have c13b0 : (t347.toList == t335.toList) = true := beq_iff_eq.mpr c13
   have c13b1 : (t347.toList != t335.toList) = false := bne_eq_false_iff_eq.mpr c13
   clear c13
   replace H := Option.bind_eq_some_iff.mp H
   obtain ⟨⟨t348, t349, t350, t351, t352, t355⟩, A140, H⟩ := H
   replace H : ((laws_eqValue.f k t336 t337 t338 t339 t340 t343 t348 t349 t350 t351 t352 t355).bind fun t358 => (if t358 = true then (some true) else (none))) = some r := H
   have A14 := zA A140
   clear A140
   replace H := Option.bind_eq_some_iff.mp H
   obtain ⟨t358, A150, H⟩ := H
   replace H : (if t358 = true then (some true) else (none)) = some r := H
   have A15 := zA A150
   clear A150
   by_cases c16 : t358 = true
   ·subst c16
    have H1 : (some true) = some r := by rw [if_pos rfl] at H; exact H
    clear H
    have H := H1
    clear H1
    obtain rfl := yH H
    go_enter Tryd.func3, Tryd.ntmps3
    try go_wp2_with (first | ((with_reducible refine zT (N := 1) rfl ?_); refine zX ?hg (N := 1) ?hd (cs := #[.int .i64 a0_0, .int .i64 a0_1, .int .i64 a0_2, .string a0_3, .slice A0_4 l0_4.length c0_4, .slice A0_5 l0_5.length c0_5]) (t := 27) ?hr ?_; (case hd => rfl); (case hg => rfl); (case hr => first | (go_simp; done) | (go_simp; rfl)); intro gb323 hg w17 hbox hb; have n0_ := zA (zQ apA hb); have n1_ := zA (hbox); have n2_ := zA ((by rw [hg]; exact (zR apA) : w.heap.size ≤ gb323)); have n3_ := zA ((by rw [hg]; exact (zR apA) : w.heap.size ≤ gb323)); clear HB; have HB := n0_; have BK323 := n1_; have GW323 := n2_; have GE323 := n3_; clear n0_ n1_ n2_ n3_; clear hb hbox hg; have hcz18_0 : w17.cell? ⟨gb323, 0, none⟩ = some (.int .i64 a0_0) := (zJ BK323.out 0).trans rfl; have hcz18_1 : w17.cell? ⟨gb323, 1, none⟩ = some (.int .i64 a0_1) := (zJ BK323.out 1).trans rfl; have hcz18_2 : w17.cell? ⟨gb323, 2, none⟩ = some (.int .i64 a0_2) := (zJ BK323.out 2).trans rfl; have hcz18_3 : w17.cell? ⟨gb323, 3, none⟩ = some (.string a0_3) := (zJ BK323.out 3).trans rfl; have hcz18_4 : w17.cell? ⟨gb323, 4, none⟩ = some (.slice A0_4 l0_4.length c0_4) := (zJ BK323.out 4).trans rfl; have hcz18_5 : w17.cell? ⟨gb323, 5, none⟩ = some (.slice A0_5 l0_5.length c0_5) := (zJ BK323.out 5).trans rfl; have hfz18_0 := zK BK323.out 0; have hfz18_1 := zK BK323.out 1; have hfz18_2 := zK BK323.out 2; have hfz18_3 := zK BK323.out 3; have hfz18_4 := zK BK323.out 4; have hfz18_5 := zK BK323.out 5) | ((with_reducible refine zV (f := 4) rfl ?_); refine goesL_ (some 9) rfl rfl Tryd.func4 (by kernel_rfl) rfl #[.agg #[.int .i64 a0_0, .int .i64 a0_1, .int .i64 a0_2, .string a0_3, .slice A0_4 l0_4.length c0_4, .slice A0_5 l0_5.length c0_5], .int .i64 1048576] rfl apE ?_; (with_reducible refine (laws_szValue.calls k a0_0 a0_1 a0_2 a0_3 _ _ l0_4 _ _ l0_5 1048576 t324 _ ?side1 ?side2 ?side3 ?side4 A4.out).mono ?_); (case side1 => repeat (first | exact (Kd.C_below HR0_4.out HB.out) | (with_reducible refine Kd.C_alloc ?_ _) | (with_reducible refine Kd.C_drewN ?_ _) | (with_reducible refine Kd.C_drew ?_))); (case side2 => exact HC0_4.out); (case side3 => repeat (first | exact (Kd.C_below HR0_5.out HB.out) | (with_reducible refine Kd.C_alloc ?_ _) | (with_reducible refine Kd.C_drewN ?_ _) | (with_reducible refine Kd.C_drew ?_))); (case side4 => exact HC0_5.out); rintro e w19 ⟨rfl, hb⟩; refine ⟨_, rfl, ?_⟩; have n0_ := zA (zP (g := gb323) (o := .cells #[.int .i64 a0_0, .int .i64 a0_1, .int .i64 a0_2, .string a0_3, .slice A0_4 l0_4.length c0_4, .slice A0_5 l0_5.length c0_5] 27 (0, 0)) (by (with_reducible repeat (first | refine zB ?_ _ | refine zD ?_ | refine zC ?_ _)); exact BK323.out) hb); have n1_ := zA (zQ apS hb); clear BK323; clear HB; have BK323 := n0_; have HB := n1_; clear n0_ n1_; (try clear hb); (try clear hb2); (try clear hk); (try clear hi); have hcz20_0 : w19.cell? ⟨gb323, 0, none⟩ = some (.int .i64 a0_0) := (zJ BK323.out 0).trans rfl; have hcz20_1 : w19.cell? ⟨gb323, 1, none⟩ = some (.int .i64 a0_1) := (zJ BK323.out 1).trans rfl; have hcz20_2 : w19.cell? ⟨gb323, 2, none⟩ = some (.int .i64 a0_2) := (zJ BK323.out 2).trans rfl; have hcz20_3 : w19.cell? ⟨gb323, 3, none⟩ = some (.string a0_3) := (zJ BK323.out 3).trans rfl; have hcz20_4 : w19.cell? ⟨gb323, 4, none⟩ = some (.slice A0_4 l0_4.length c0_4) := (zJ BK323.out 4).trans rfl; have hcz20_5 : w19.cell? ⟨gb323, 5, none⟩ = some (.slice A0_5 l0_5.length c0_5) := (zJ BK323.out 5).trans rfl; have hfz20_0 := zK BK323.out 0; have hfz20_1 := zK BK323.out 1; have hfz20_2 := zK BK323.out 2; have hfz20_3 := zK BK323.out 3; have hfz20_4 := zK BK323.out 4; have hfz20_5 := zK BK323.out 5) | ((with_reducible refine zV (f := 6) rfl ?_); refine goesL_ (some 13) rfl rfl Tryd.func6 (by kernel_rfl) rfl #[.agg #[.int .i64 a0_0, .int .i64 a0_1, .int .i64 a0_2, .string a0_3, .slice A0_4 l0_4.length c0_4, .slice A0_5 l0_5.length c0_5]] rfl apE ?_; (with_reducible refine (laws_toValue.calls k a0_0 a0_1 a0_2 a0_3 _ _ l0_4 _ _ l0_5 t325 t326 t327 t328 t329 t332 _ ?side1 ?side2 ?side3 ?side4 A9.out).mono ?_); (case side1 => repeat (first | exact (Kd.C_below HR0_4.out HB.out) | (with_reducible refine Kd.C_alloc ?_ _) | (with_reducible refine Kd.C_drewN ?_ _) | (with_reducible refine Kd.C_drew ?_))); (case side2 => exact HC0_4.out); (case side3 => repeat (first | exact (Kd.C_below HR0_5.out HB.out) | (with_reducible refine Kd.C_alloc ?_ _) | (with_reducible refine Kd.C_drewN ?_ _) | (with_reducible refine Kd.C_drew ?_))); (case side4 => exact HC0_5.out); rintro e w21 ⟨v330, v333, rfl, ho0, ho1, hb⟩; refine ⟨_, rfl, ?_⟩; have n0_ := zA (Kd.R_lower ho0 (zR apS)); have n1_ := zA (Kd.R_lower ho1 (zR apS)); have n2_ := zA (zP (g := gb323) (o := .cells #[.int .i64 a0_0, .int .i64 a0_1, .int .i64 a0_2, .string a0_3, .slice A0_4 l0_4.length c0_4, .slice A0_5 l0_5.length c0_5] 27 (0, 0)) (by (with_reducible repeat (first | refine zB ?_ _ | refine zD ?_ | refine zC ?_ _)); exact BK323.out) hb); have n3_ := zA (zQ apS hb); clear BK323; clear HB; have HO331 := n0_; have HO334 := n1_; have BK323 := n2_; have HB := n3_; clear n0_ n1_ n2_ n3_; (try clear hb); (try clear hb2); (try clear hk); (try clear hi); (try clear ho0); (try clear ho1); obtain ⟨Ao22, co22, eo22⟩ := Kd.R_slice HO331.out; subst eo22; obtain ⟨Ao23, co23, eo23⟩ := Kd.R_slice HO334.out; subst eo23) | ((with_reducible refine zV (f := 5) rfl ?_); refine goesL_ (some 14) rfl rfl Tryd.func5 (by kernel_rfl) rfl #[.agg #[.int .i64 t325, .int .i64 t326, .int .i64 t327, .string t328, .slice Ao22 t329.length co22, .slice Ao23 t332.length co23]] rfl apE ?_; (with_reducible refine (spec_JsonWide.calls k t325 t326 t327 t328 _ _ t329 _ _ t332 t335 _ ?side1 ?side2 ?side3 ?side4 A10.out).mono ?_); (case side1 => repeat (first | exact (Kd.R_reads' HO331.out).2.2 | (with_reducible refine Kd.C_alloc ?_ _) | (with_reducible refine Kd.C_drewN ?_ _) | (with_reducible refine Kd.C_drew ?_))); (case side2 => exact (Kd.R_reads' HO331.out).2.1); (case side3 => repeat (first | exact (Kd.R_reads' HO334.out).2.2 | (with_reducible refine Kd.C_alloc ?_ _) | (with_reducible refine Kd.C_drewN ?_ _) | (with_reducible refine Kd.C_drew ?_))); (case side4 => exact (Kd.R_reads' HO334.out).2.1); rintro e w24 ⟨rfl, hb⟩; refine ⟨_, rfl, ?_⟩; have n0_ := zA (Kd.R_below (by (with_reducible repeat (first | apply Kd.R_alloc | apply Kd.R_drewN | apply Kd.R_drew)); exact HO331.out) hb); have n1_ := zA (Kd.R_below (by (with_reducible repeat (first | apply Kd.R_alloc | apply Kd.R_drewN | apply Kd.R_drew)); exact HO334.out) hb); have n2_ := zA (zP (g := gb323) (o := .cells #[.int .i64 a0_0, .int .i64 a0_1, .int .i64 a0_2, .string a0_3, .slice A0_4 l0_4.length c0_4, .slice A0_5 l0_5.length c0_5] 27 (0, 0)) (by (with_reducible repeat (first | refine zB ?_ _ | refine zD ?_ | refine zC ?_ _)); exact BK323.out) hb); have n3_ := zA (zQ apS hb); clear HO331; clear HO334; clear BK323; clear HB; have HO331 := n0_; have HO334 := n1_; have BK323 := n2_; have HB := n3_; clear n0_ n1_ n2_ n3_; (try clear hb); (try clear hb2); (try clear hk); (try clear hi); have hcz25_0 : w24.cell? ⟨gb323, 0, none⟩ = some (.int .i64 a0_0) := (zJ BK323.out 0).trans rfl; have hcz25_1 : w24.cell? ⟨gb323, 1, none⟩ = some (.int .i64 a0_1) := (zJ BK323.out 1).trans rfl; have hcz25_2 : w24.cell? ⟨gb323, 2, none⟩ = some (.int .i64 a0_2) := (zJ BK323.out 2).trans rfl; have hcz25_3 : w24.cell? ⟨gb323, 3, none⟩ = some (.string a0_3) := (zJ BK323.out 3).trans rfl; have hcz25_4 : w24.cell? ⟨gb323, 4, none⟩ = some (.slice A0_4 l0_4.length c0_4) := (zJ BK323.out 4).trans rfl; have hcz25_5 : w24.cell? ⟨gb323, 5, none⟩ = some (.slice A0_5 l0_5.length c0_5) := (zJ BK323.out 5).trans rfl; have hfz25_0 := zK BK323.out 0; have hfz25_1 := zK BK323.out 1; have hfz25_2 := zK BK323.out 2; have hfz25_3 := zK BK323.out 3; have hfz25_4 := zK BK323.out 4; have hfz25_5 := zK BK323.out 5) | ((with_reducible refine zV (f := 6) rfl ?_); refine goesL_ (some 16) rfl rfl Tryd.func6 (by kernel_rfl) rfl #[.agg #[.int .i64 a0_0, .int .i64 a0_1, .int .i64 a0_2, .string a0_3, .slice A0_4 l0_4.length c0_4, .slice A0_5 l0_5.length c0_5]] rfl apE ?_; (with_reducible refine (laws_toValue.calls k a0_0 a0_1 a0_2 a0_3 _ _ l0_4 _ _ l0_5 t336 t337 t338 t339 t340 t343 _ ?side1 ?side2 ?side3 ?side4 A11.out).mono ?_); (case side1 => repeat (first | exact (Kd.C_below HR0_4.out HB.out) | (with_reducible refine Kd.C_alloc ?_ _) | (with_reducible refine Kd.C_drewN ?_ _) | (with_reducible refine Kd.C_drew ?_))); (case side2 => exact HC0_4.out); (case side3 => repeat (first | exact (Kd.C_below HR0_5.out HB.out) | (with_reducible refine Kd.C_alloc ?_ _) | (with_reducible refine Kd.C_drewN ?_ _) | (with_reducible refine Kd.C_drew ?_))); (case side4 => exact HC0_5.out); rintro e w26 ⟨v341, v344, rfl, ho0, ho1, hb⟩; refine ⟨_, rfl, ?_⟩; have n0_ := zA (Kd.R_mono (Kd.R_told (Kd.R_told (Kd.R_old (by (with_reducible repeat (first | apply Kd.R_alloc | apply Kd.R_drewN | apply Kd.R_drew)); exact HO331.out) hb) (Kd.R_base ho0)) (Kd.R_base ho1)) (fun _ h_ => h_.1)); have n1_ := zA (Kd.R_elder' (by (with_reducible repeat (first | apply Kd.R_alloc | apply Kd.R_drewN | apply Kd.R_drew)); exact HO334.out) (Kd.R_base ho1) hb); have n2_ := zA (Kd.R_lower (Kd.R_new' (Kd.R_new' ho0 (Kd.R_lt (by (with_reducible repeat (first | apply Kd.R_alloc | apply Kd.R_drewN | apply Kd.R_drew)); exact HO331.out))) (Kd.R_lt (by (with_reducible repeat (first | apply Kd.R_alloc | apply Kd.R_drewN | apply Kd.R_drew)); exact HO334.out))) (zR apS)); have n3_ := zA (Kd.R_lower (Kd.R_new' ho1 (Kd.R_lt (by (with_reducible repeat (first | apply Kd.R_alloc | apply Kd.R_drewN | apply Kd.R_drew)); exact HO334.out))) (zR apS)); have n4_ := zA (zP (g := gb323) (o := .cells #[.int .i64 a0_0, .int .i64 a0_1, .int .i64 a0_2, .string a0_3, .slice A0_4 l0_4.length c0_4, .slice A0_5 l0_5.length c0_5] 27 (0, 0)) (by (with_reducible repeat (first | refine zB ?_ _ | refine zD ?_ | refine zC ?_ _)); exact BK323.out) hb); have n5_ := zA (zQ apS hb); clear HO331; clear HO334; clear BK323; clear HB; have HO331 := n0_; have HO334 := n1_; have HO342 := n2_; have HO345 := n3_; have BK323 := n4_; have HB := n5_; clear n0_ n1_ n2_ n3_ n4_ n5_; (try clear hb); (try clear hb2); (try clear hk); (try clear hi); (try clear ho0); (try clear ho1)) | ((with_reducible refine zT (N := 5) rfl ?_); refine zX ?hg (N := 5) ?hd (cs := #[.int .i64 0, .int .i64 0, .int .i64 0, .string (⟨#[]⟩ : ByteArray), .slice none 0 0, .slice none 0 0]) (t := 33) ?hr ?_; (case hd => rfl); (case hg => rfl); (case hr => first | (go_simp; done) | (go_simp; rfl)); intro gb346 hg w27 hbox hb; have n0_ := zA (Kd.R_below (Kd.R_elderB (by (with_reducible repeat (first | apply Kd.R_alloc | apply Kd.R_drewN | apply Kd.R_drew)); exact HO331.out) gb346 (Nat.le_of_eq hg.symm)) hb); have n1_ := zA (Kd.R_below (by (with_reducible repeat (first | apply Kd.R_alloc | apply Kd.R_drewN | apply Kd.R_drew)); exact HO334.out) hb); have n2_ := zA (Kd.R_below (Kd.R_elderB (by (with_reducible repeat (first | apply Kd.R_alloc | apply Kd.R_drewN | apply Kd.R_drew)); exact HO342.out) gb346 (Nat.le_of_eq hg.symm)) hb); have n3_ := zA (Kd.R_below (by (with_reducible repeat (first | apply Kd.R_alloc | apply Kd.R_drewN | apply Kd.R_drew)); exact HO345.out) hb); have n4_ := zA (zP (g := gb323) (o := .cells #[.int .i64 a0_0, .int .i64 a0_1, .int .i64 a0_2, .string a0_3, .slice A0_4 l0_4.length c0_4, .slice A0_5 l0_5.length c0_5] 27 (0, 0)) (by (with_reducible repeat (first | refine zB ?_ _ | refine zD ?_ | refine zC ?_ _)); exact BK323.out) hb); have n5_ := zA (zQ apS hb); have n6_ := zA (hbox); have n7_ := zA ((by rw [hg]; exact (zR apS) : w.heap.size ≤ gb346)); have n8_ := zA ((by rw [hg]; exact (zR apS) : w.heap.size ≤ gb346)); have n9_ := zA ((by rw [hg]; exact Nat.ne_of_lt (blk_lt (g := gb323) (o := .cells #[.int .i64 a0_0, .int .i64 a0_1, .int .i64 a0_2, .string a0_3, .slice A0_4 l0_4.length c0_4, .slice A0_5 l0_5.length c0_5] 27 (0, 0)) (by (with_reducible repeat (first | refine zB ?_ _ | refine zD ?_ | refine zC ?_ _)); exact BK323.out)) : gb323 ≠ gb346)); have n10_ := zA ((by rw [hg]; exact Nat.ne_of_gt (blk_lt (g := gb323) (o := .cells #[.int .i64 a0_0, .int .i64 a0_1, .int .i64 a0_2, .string a0_3, .slice A0_4 l0_4.length c0_4, .slice A0_5 l0_5.length c0_5] 27 (0, 0)) (by (with_reducible repeat (first | refine zB ?_ _ | refine zD ?_ | refine zC ?_ _)); exact BK323.out)) : gb346 ≠ gb323)); clear HO331; clear HO334; clear HO342; clear HO345; clear BK323; clear HB; have HO331 := n0_; have HO334 := n1_; have HO342 := n2_; have HO345 := n3_; have BK323 := n4_; have HB := n5_; have BK346 := n6_; have GW346 := n7_; have GE346 := n8_; have NB323_346 := n9_; have NB346_323 := n10_; clear n0_ n1_ n2_ n3_ n4_ n5_ n6_ n7_ n8_ n9_ n10_; clear hb hbox hg; have hnb28 := NB346_323.out; have hnc28 := NB323_346.out; have hcz29_0 : w27.cell? ⟨gb346, 0, none⟩ = some (.int .i64 0) := (zJ BK346.out 0).trans rfl; have hcz29_1 : w27.cell? ⟨gb346, 1, none⟩ = some (.int .i64 0) := (zJ BK346.out 1).trans rfl; have hcz29_2 : w27.cell? ⟨gb346, 2, none⟩ = some (.int .i64 0) := (zJ BK346.out 2).trans rfl; have hcz29_3 : w27.cell? ⟨gb346, 3, none⟩ = some (.string (⟨#[]⟩ : ByteArray)) := (zJ BK346.out 3).trans rfl; have hcz29_4 : w27.cell? ⟨gb346, 4, none⟩ = some (.slice none 0 0) := (zJ BK346.out 4).trans rfl; have hcz29_5 : w27.cell? ⟨gb346, 5, none⟩ = some (.slice none 0 0) := (zJ BK346.out 5).trans rfl; have hfz29_0 := zK BK346.out 0; have hfz29_1 := zK BK346.out 1; have hfz29_2 := zK BK346.out 2; have hfz29_3 := zK BK346.out 3; have hfz29_4 := zK BK346.out 4; have hfz29_5 := zK BK346.out 5; obtain ⟨Ao30, co30, eo30⟩ := Kd.R_slice HO342.out; subst eo30; obtain ⟨Ao31, co31, eo31⟩ := Kd.R_slice HO345.out; subst eo31) | ((with_reducible refine zV (f := 7) rfl ?_); refine goesL_ (some 18) rfl rfl Tryd.func7 (by kernel_rfl) rfl #[.agg #[.int .i64 t336, .int .i64 t337, .int .i64 t338, .string t339, .slice Ao30 t340.length co30, .slice Ao31 t343.length co31]] rfl apE ?_; (with_reducible refine (impl_JsonWide.calls k t336 t337 t338 t339 _ _ t340 _ _ t343 A1 c1 l1 A2 c2 l2 t347 _ ?side1 ?side2 ?side3 ?side4 ?side5 ?side6 ?side7 ?side8 ?side9 ?side10 A12.out).mono ?_); (case side1 => refine (Kd.R_reads' (e := 33) (base := w.heap.size) (ok := fun k_ => (((some k_ ≠ (.slice Ao31 t343.length co31 : Value).ownBlock ∧ some k_ ≠ (.slice Ao22 t329.length co22 : Value).ownBlock) ∧ some k_ ≠ (.slice Ao23 t332.length co23 : Value).ownBlock) ∧ k_ ≠ gb346)) (n := t340.length) (c := co30) ?_).2.2; exact (by (with_reducible repeat (first | apply Kd.R_alloc | apply Kd.R_drewN | apply Kd.R_drew)); exact (Kd.R_mono (Kd.R_far (p := ⟨gb346, 5, none⟩) (Kd.R_far (p := ⟨gb346, 4, none⟩) (Kd.R_far (p := ⟨gb346, 3, none⟩) (Kd.R_far (p := ⟨gb346, 2, none⟩) (Kd.R_far (p := ⟨gb346, 1, none⟩) (Kd.R_far (p := ⟨gb346, 0, none⟩) (Kd.R_mono HO342.out (fun k_ hk => (⟨hk, hk.2⟩ : _ ∧ k_ ≠ gb346))) (fun _ hk => hk.2) (.int .i64 t336)) (fun _ hk => hk.2) (.int .i64 t337)) (fun _ hk => hk.2) (.int .i64 t338)) (fun _ hk => hk.2) (.string t339)) (fun _ hk => hk.2) (.slice Ao30 t340.length co30)) (fun _ hk => hk.2) (.slice Ao31 t343.length co31)) (fun _ h_ => h_.1)))); (case side2 => exact (Kd.R_reads' HO342.out).2.1); (case side3 => refine (Kd.R_reads' (e := 9) (base := w.heap.size) (ok := fun k_ => (True ∧ some k_ ≠ (.slice Ao23 t332.length co23 : Value).ownBlock)) (n := t343.length) (c := co31) ?_).2.2; exact (by (with_reducible repeat (first | apply Kd.R_alloc | apply Kd.R_drewN | apply Kd.R_drew)); exact (Kd.R_mono (Kd.R_far (p := ⟨gb346, 5, none⟩) (Kd.R_far (p := ⟨gb346, 4, none⟩) (Kd.R_far (p := ⟨gb346, 3, none⟩) (Kd.R_far (p := ⟨gb346, 2, none⟩) (Kd.R_far (p := ⟨gb346, 1, none⟩) (Kd.R_far (p := ⟨gb346, 0, none⟩) (Kd.R_types HO345.out BK346.out (by decide)) (fun _ hk => hk.2) (.int .i64 t336)) (fun _ hk => hk.2) (.int .i64 t337)) (fun _ hk => hk.2) (.int .i64 t338)) (fun _ hk => hk.2) (.string t339)) (fun _ hk => hk.2) (.slice Ao30 t340.length co30)) (fun _ hk => hk.2) (.slice Ao31 t343.length co31)) (fun _ h_ => h_.1)))); (case side4 => exact (Kd.R_reads' HO345.out).2.1); (case side5 => exact Kd.C_below HR1.out apV); (case side6 => exact HC1.out); (case side7 => exact Kd.C_below HR2.out apV); (case side8 => exact HC2.out); (case side9 => exact HG1.out); (case side10 => exact HG2.out); rintro e w32 ⟨rfl, hb⟩; refine ⟨_, rfl, ?_⟩; have n0_ := zA (Kd.R_below (by (with_reducible repeat (first | apply Kd.R_alloc | apply Kd.R_drewN | apply Kd.R_drew)); exact (Kd.R_mono (Kd.R_far (p := ⟨gb346, 5, none⟩) (Kd.R_far (p := ⟨gb346, 4, none⟩) (Kd.R_far (p := ⟨gb346, 3, none⟩) (Kd.R_far (p := ⟨gb346, 2, none⟩) (Kd.R_far (p := ⟨gb346, 1, none⟩) (Kd.R_far (p := ⟨gb346, 0, none⟩) (Kd.R_mono HO331.out (fun k_ hk => (⟨hk, hk.2⟩ : _ ∧ k_ ≠ gb346))) (fun _ hk => hk.2) (.int .i64 t336)) (fun _ hk => hk.2) (.int .i64 t337)) (fun _ hk => hk.2) (.int .i64 t338)) (fun _ hk => hk.2) (.string t339)) (fun _ hk => hk.2) (.slice Ao30 t340.length co30)) (fun _ hk => hk.2) (.slice Ao31 t343.length co31)) (fun _ h_ => h_.1))) hb); have n1_ := zA (Kd.R_below (by (with_reducible repeat (first | apply Kd.R_alloc | apply Kd.R_drewN | apply Kd.R_drew)); exact (Kd.R_mono (Kd.R_far (p := ⟨gb346, 5, none⟩) (Kd.R_far (p := ⟨gb346, 4, none⟩) (Kd.R_far (p := ⟨gb346, 3, none⟩) (Kd.R_far (p := ⟨gb346, 2, none⟩) (Kd.R_far (p := ⟨gb346, 1, none⟩) (Kd.R_far (p := ⟨gb346, 0, none⟩) (Kd.R_types HO334.out BK346.out (by decide)) (fun _ hk => hk.2) (.int .i64 t336)) (fun _ hk => hk.2) (.int .i64 t337)) (fun _ hk => hk.2) (.int .i64 t338)) (fun _ hk => hk.2) (.string t339)) (fun _ hk => hk.2) (.slice Ao30 t340.length co30)) (fun _ hk => hk.2) (.slice Ao31 t343.length co31)) (fun _ h_ => h_.1))) hb); have n2_ := zA (Kd.R_below (by (with_reducible repeat (first | apply Kd.R_alloc | apply Kd.R_drewN | apply Kd.R_drew)); exact (Kd.R_mono (Kd.R_far (p := ⟨gb346, 5, none⟩) (Kd.R_far (p := ⟨gb346, 4, none⟩) (Kd.R_far (p := ⟨gb346, 3, none⟩) (Kd.R_far (p := ⟨gb346, 2, none⟩) (Kd.R_far (p := ⟨gb346, 1, none⟩) (Kd.R_far (p := ⟨gb346, 0, none⟩) (Kd.R_mono HO342.out (fun k_ hk => (⟨hk, hk.2⟩ : _ ∧ k_ ≠ gb346))) (fun _ hk => hk.2) (.int .i64 t336)) (fun _ hk => hk.2) (.int .i64 t337)) (fun _ hk => hk.2) (.int .i64 t338)) (fun _ hk => hk.2) (.string t339)) (fun _ hk => hk.2) (.slice Ao30 t340.length co30)) (fun _ hk => hk.2) (.slice Ao31 t343.length co31)) (fun _ h_ => h_.1))) hb); have n3_ := zA (Kd.R_below (by (with_reducible repeat (first | apply Kd.R_alloc | apply Kd.R_drewN | apply Kd.R_drew)); exact (Kd.R_mono (Kd.R_far (p := ⟨gb346, 5, none⟩) (Kd.R_far (p := ⟨gb346, 4, none⟩) (Kd.R_far (p := ⟨gb346, 3, none⟩) (Kd.R_far (p := ⟨gb346, 2, none⟩) (Kd.R_far (p := ⟨gb346, 1, none⟩) (Kd.R_far (p := ⟨gb346, 0, none⟩) (Kd.R_types HO345.out BK346.out (by decide)) (fun _ hk => hk.2) (.int .i64 t336)) (fun _ hk => hk.2) (.int .i64 t337)) (fun _ hk => hk.2) (.int .i64 t338)) (fun _ hk => hk.2) (.string t339)) (fun _ hk => hk.2) (.slice Ao30 t340.length co30)) (fun _ hk => hk.2) (.slice Ao31 t343.length co31)) (fun _ h_ => h_.1))) hb); have n4_ := zA (zP (g := gb323) (o := .cells #[.int .i64 a0_0, .int .i64 a0_1, .int .i64 a0_2, .string a0_3, .slice A0_4 l0_4.length c0_4, .slice A0_5 l0_5.length c0_5] 27 (0, 0)) (by (with_reducible repeat (first | refine zB ?_ _ | refine zD ?_ | refine zC ?_ _)); refine blk_far ?_ NB323_346.out _; (with_reducible repeat (first | refine zB ?_ _ | refine zD ?_ | refine zC ?_ _)); refine blk_far ?_ NB323_346.out _; (with_reducible repeat (first | refine zB ?_ _ | refine zD ?_ | refine zC ?_ _)); refine blk_far ?_ NB323_346.out _; (with_reducible repeat (first | refine zB ?_ _ | refine zD ?_ | refine zC ?_ _)); refine blk_far ?_ NB323_346.out _; (with_reducible repeat (first | refine zB ?_ _ | refine zD ?_ | refine zC ?_ _)); refine blk_far ?_ NB323_346.out _; (with_reducible repeat (first | refine zB ?_ _ | refine zD ?_ | refine zC ?_ _)); refine blk_far ?_ NB323_346.out _; (with_reducible repeat (first | refine zB ?_ _ | refine zD ?_ | refine zC ?_ _)); exact BK323.out) hb); have n5_ := zA (zP (g := gb346) (o := .cells #[.int .i64 t336, .int .i64 t337, .int .i64 t338, .string t339, .slice Ao30 t340.length co30, .slice Ao31 t343.length co31] 33 (0, 0)) (by (with_reducible repeat (first | refine zB ?_ _ | refine zD ?_ | refine zC ?_ _)); refine blk_put (cs := #[.int .i64 t336, .int .i64 t337, .int .i64 t338, .string t339, .slice Ao30 t340.length co30, .slice none 0 0]) ?_ 5 _ rfl; (with_reducible repeat (first | refine zB ?_ _ | refine zD ?_ | refine zC ?_ _)); refine blk_put (cs := #[.int .i64 t336, .int .i64 t337, .int .i64 t338, .string t339, .slice none 0 0, .slice none 0 0]) ?_ 4 _ rfl; (with_reducible repeat (first | refine zB ?_ _ | refine zD ?_ | refine zC ?_ _)); refine blk_put (cs := #[.int .i64 t336, .int .i64 t337, .int .i64 t338, .string (⟨#[]⟩ : ByteArray), .slice none 0 0, .slice none 0 0]) ?_ 3 _ rfl; (with_reducible repeat (first | refine zB ?_ _ | refine zD ?_ | refine zC ?_ _)); refine blk_put (cs := #[.int .i64 t336, .int .i64 t337, .int .i64 0, .string (⟨#[]⟩ : ByteArray), .slice none 0 0, .slice none 0 0]) ?_ 2 _ rfl; (with_reducible repeat (first | refine zB ?_ _ | refine zD ?_ | refine zC ?_ _)); refine blk_put (cs := #[.int .i64 t336, .int .i64 0, .int .i64 0, .string (⟨#[]⟩ : ByteArray), .slice none 0 0, .slice none 0 0]) ?_ 1 _ rfl; (with_reducible repeat (first | refine zB ?_ _ | refine zD ?_ | refine zC ?_ _)); refine blk_put (cs := #[.int .i64 0, .int .i64 0, .int .i64 0, .string (⟨#[]⟩ : ByteArray), .slice none 0 0, .slice none 0 0]) ?_ 0 _ rfl; (with_reducible repeat (first | refine zB ?_ _ | refine zD ?_ | refine zC ?_ _)); exact BK346.out) hb); have n6_ := zA (zQ apV hb); clear HO331; clear HO334; clear HO342; clear HO345; clear BK323; clear BK346; clear HB; have HO331 := n0_; have HO334 := n1_; have HO342 := n2_; have HO345 := n3_; have BK323 := n4_; have BK346 := n5_; have HB := n6_; clear n0_ n1_ n2_ n3_ n4_ n5_ n6_; (try clear hb); (try clear hb2); (try clear hk); (try clear hi)))
    have n0_ := zA (Kd.R_drew HO331.out)
    have n1_ := zA (Kd.R_drew HO334.out)
    have n2_ := zA (Kd.R_drew HO342.out)
    have n3_ := zA (Kd.R_drew HO345.out)
    have n4_ := zA (zD BK323.out)
    have n5_ := zA (zD BK346.out)
    have n6_ := zA (zF HB.out)
    clear HO331
    clear HO334
    clear HO342
    clear HO345
    clear BK323
    clear BK346
    clear HB
    have HO331 := n0_
    have HO334 := n1_
    have HO342 := n2_
    have HO345 := n3_
    have BK323 := n4_
    have BK346 := n5_
    have HB := n6_
    clear n0_ n1_ n2_ n3_ n4_ n5_ n6_
    refine start_ (n := 5) (S := fun w' => w'.cell? ⟨gb346, 0, none⟩ = some (.int .i64 t336) ∧ w'.cell? ⟨gb346, 1, none⟩ = some (.int .i64 t337) ∧ w'.cell? ⟨gb346, 2, none⟩ = some (.int .i64 t338) ∧ w'.cell? ⟨gb346, 3, none⟩ = some (.string t339) ∧ w'.cell? ⟨gb346, 4, none⟩ = some (.slice Ao30 t340.length co30) ∧ w'.cell? ⟨gb346, 5, none⟩ = some (.slice Ao31 t343.length co31) ∧ w'.cell? ⟨gb323, 0, none⟩ = some (.int .i64 a0_0) ∧ w'.cell? ⟨gb323, 1, none⟩ = some (.int .i64 a0_1) ∧ w'.cell? ⟨gb323, 2, none⟩ = some (.int .i64 a0_2) ∧ w'.cell? ⟨gb323, 3, none⟩ = some (.string a0_3) ∧ w'.cell? ⟨gb323, 4, none⟩ = some (.slice A0_4 l0_4.length c0_4) ∧ w'.cell? ⟨gb323, 5, none⟩ = some (.slice A0_5 l0_5.length c0_5)) (ds := []) #[false, false, false, false, false] (by kernel_rfl) rfl rfl ⟨(zJ BK346.out 0).trans rfl, (zJ BK346.out 1).trans rfl, (zJ BK346.out 2).trans rfl, (zJ BK346.out 3).trans rfl, (zJ BK346.out 4).trans rfl, (zJ BK346.out 5).trans rfl, (zJ BK323.out 0).trans rfl, (zJ BK323.out 1).trans rfl, (zJ BK323.out 2).trans rfl, (zJ BK323.out 3).trans rfl, (zJ BK323.out 4).trans rfl, (zJ BK323.out 5).trans rfl⟩ (fun hHeld => ?_)
    generalize w32.drew = w33 at HO331 HO334 HO342 HO345 BK323 BK346 HB hHeld ⊢
    refine take_ (i := 0) (N := some 22) (v := ?_) (a' := ?_) #[true, false, false, false, false] rfl rfl (by kernel_rfl) (fun _ _ _ h => h) (Or.inl ⟨by rfl, ?_⟩) hHeld ?_ ?_
    rotate_left
    ·rintro w' ⟨s0, s1, s2, s3, s4, s5, s6, s7, s8, s9, s10, s11⟩
     go_simp
     with_reducible rfl
    rotate_left
    ·simp only [Act.put, zL, zM, zN, i64_w, i32_w]
     rfl
    refine take_ (i := 1) (N := some 23) (v := ?_) (a' := ?_) #[true, true, false, false, false] rfl rfl (by kernel_rfl) (fun _ _ _ h => h) (Or.inl ⟨by rfl, ?_⟩) hHeld ?_ ?_
    rotate_left
    ·rintro w' ⟨s0, s1, s2, s3, s4, s5, s6, s7, s8, s9, s10, s11⟩
     go_simp
     with_reducible rfl
    rotate_left
    ·simp only [Act.put, zL, zM, zN, i64_w, i32_w]
     rfl
    refine one_ (i := 2) (N := some 24) #[true, true, true, false, false] rfl rfl (by kernel_rfl) (by decide) (fun K hK => ?_)
    refine goes_ Tryd.func6 (by kernel_rfl) rfl #[.agg #[.int .i64 a0_0, .int .i64 a0_1, .int .i64 a0_2, .string a0_3, .slice A0_4 l0_4.length c0_4, .slice A0_5 l0_5.length c0_5]] (by rfl) rfl rfl apE ?_
    with_reducible refine (laws_toValue.calls k a0_0 a0_1 a0_2 a0_3 _ _ l0_4 _ _ l0_5 t348 t349 t350 t351 t352 t355 _ ?side1 ?side2 ?side3 ?side4 A14.out).mono ?_
    (case side1 => repeat (first | exact (Kd.C_below HR0_4.out HB.out) | (with_reducible refine Kd.C_alloc ?_ _) | (with_reducible refine Kd.C_drewN ?_ _) | (with_reducible refine Kd.C_drew ?_)))
    (case side2 => exact HC0_4.out)
    (case side3 => repeat (first | exact (Kd.C_below HR0_5.out HB.out) | (with_reducible refine Kd.C_alloc ?_ _) | (with_reducible refine Kd.C_drewN ?_ _) | (with_reducible refine Kd.C_drew ?_)))
    (case side4 => exact HC0_5.out)
    rintro e w34 ⟨v353, v356, rfl, ho0, ho1, hb⟩
    refine ⟨_, rfl, ?_⟩
    have n0_ := zA (Kd.R_mono (Kd.R_told (Kd.R_told (Kd.R_old (by (with_reducible repeat (first | apply Kd.R_alloc | apply Kd.R_drewN | apply Kd.R_drew)); exact HO331.out) hb) (Kd.R_base ho0)) (Kd.R_base ho1)) (fun _ h_ => h_.1))
    have n1_ := zA (Kd.R_elder' (by (with_reducible repeat (first | apply Kd.R_alloc | apply Kd.R_drewN | apply Kd.R_drew)); exact HO334.out) (Kd.R_base ho1) hb)
    have n2_ := zA (Kd.R_mono (Kd.R_told (Kd.R_told (Kd.R_old (by (with_reducible repeat (first | apply Kd.R_alloc | apply Kd.R_drewN | apply Kd.R_drew)); exact HO342.out) hb) (Kd.R_base ho0)) (Kd.R_base ho1)) (fun _ h_ => h_.1))
    have n3_ := zA (Kd.R_elder' (by (with_reducible repeat (first | apply Kd.R_alloc | apply Kd.R_drewN | apply Kd.R_drew)); exact HO345.out) (Kd.R_base ho1) hb)
    have n4_ := zA (Kd.R_lower (Kd.R_newB (Kd.R_new' (Kd.R_new' (Kd.R_new' (Kd.R_new' ho0 (Kd.R_lt (by (with_reducible repeat (first | apply Kd.R_alloc | apply Kd.R_drewN | apply Kd.R_drew)); exact HO331.out))) (Kd.R_lt (by (with_reducible repeat (first | apply Kd.R_alloc | apply Kd.R_drewN | apply Kd.R_drew)); exact HO334.out))) (Kd.R_lt (by (with_reducible repeat (first | apply Kd.R_alloc | apply Kd.R_drewN | apply Kd.R_drew)); exact HO342.out))) (Kd.R_lt (by (with_reducible repeat (first | apply Kd.R_alloc | apply Kd.R_drewN | apply Kd.R_drew)); exact HO345.out))) (g := gb346) (o := .cells #[.int .i64 t336, .int .i64 t337, .int .i64 t338, .string t339, .slice Ao30 t340.length co30, .slice Ao31 t343.length co31] 33 (0, 0)) (by (with_reducible repeat (first | refine zB ?_ _ | refine zD ?_ | refine zC ?_ _)); exact BK346.out)) (zR apV))
    have n5_ := zA (Kd.R_lower (Kd.R_new' (Kd.R_new' ho1 (Kd.R_lt (by (with_reducible repeat (first | apply Kd.R_alloc | apply Kd.R_drewN | apply Kd.R_drew)); exact HO334.out))) (Kd.R_lt (by (with_reducible repeat (first | apply Kd.R_alloc | apply Kd.R_drewN | apply Kd.R_drew)); exact HO345.out))) (zR apV))
    have n6_ := zA (zP (g := gb323) (o := .cells #[.int .i64 a0_0, .int .i64 a0_1, .int .i64 a0_2, .string a0_3, .slice A0_4 l0_4.length c0_4, .slice A0_5 l0_5.length c0_5] 27 (0, 0)) (by (with_reducible repeat (first | refine zB ?_ _ | refine zD ?_ | refine zC ?_ _)); exact BK323.out) hb)
    have n7_ := zA (zP (g := gb346) (o := .cells #[.int .i64 t336, .int .i64 t337, .int .i64 t338, .string t339, .slice Ao30 t340.length co30, .slice Ao31 t343.length co31] 33 (0, 0)) (by (with_reducible repeat (first | refine zB ?_ _ | refine zD ?_ | refine zC ?_ _)); exact BK346.out) hb)
    have n8_ := zA (zQ apV hb)
    clear HO331
    clear HO334
    clear HO342
    clear HO345
    clear BK323
    clear BK346
    clear HB
    have HO331 := n0_
    have HO334 := n1_
    have HO342 := n2_
    have HO345 := n3_
    have HO354 := n4_
    have HO357 := n5_
    have BK323 := n6_
    have BK346 := n7_
    have HB := n8_
    clear n0_ n1_ n2_ n3_ n4_ n5_ n6_ n7_ n8_
    (try clear hb)
    (try clear hb2)
    (try clear hk)
    (try clear hi)
    (try clear ho0)
    (try clear ho1)
    obtain ⟨Ao35, co35, eo35⟩ := Kd.R_slice HO354.out
    (first | subst eo35 | (injection eo35 with f1_ f2_ f3_; have f4_ := f1_.symm; have f5_ := f3_.symm; clear f1_ f2_ f3_; subst f4_; subst f5_))
    obtain ⟨Ao36, co36, eo36⟩ := Kd.R_slice HO357.out
    (first | subst eo36 | (injection eo36 with f1_ f2_ f3_; have f4_ := f1_.symm; have f5_ := f3_.symm; clear f1_ f2_ f3_; subst f4_; subst f5_))
    refine hK.out _ _ ⟨(zJ BK346.out 0).trans rfl, (zJ BK346.out 1).trans rfl, (zJ BK346.out 2).trans rfl, (zJ BK346.out 3).trans rfl, (zJ BK346.out 4).trans rfl, (zJ BK346.out 5).trans rfl, (zJ BK323.out 0).trans rfl, (zJ BK323.out 1).trans rfl, (zJ BK323.out 2).trans rfl, (zJ BK323.out 3).trans rfl, (zJ BK323.out 4).trans rfl, (zJ BK323.out 5).trans rfl⟩ (fun hHeld => ?_)
    clear hK K
    refine norm_ (a' := ?_) ?_ ?_
    rotate_left
    ·show Act.put _ (some 24) _ = _
     simp only [Act.put, zL, zM, zN, i64_w, i32_w]
     rfl
    refine one_ (i := 3) (N := some 25) #[true, true, true, true, false] rfl rfl (by kernel_rfl) (by decide) (fun K hK => ?_)
    refine goes_ Tryd.func8 (by kernel_rfl) rfl #[.agg #[.int .i64 t336, .int .i64 t337, .int .i64 t338, .string t339, .slice Ao30 t340.length co30, .slice Ao31 t343.length co31], .agg #[.int .i64 t348, .int .i64 t349, .int .i64 t350, .string t351, .slice Ao35 t352.length co35, .slice Ao36 t355.length co36]] (by rfl) rfl rfl apE ?_
    with_reducible refine (laws_eqValue.calls k t336 t337 t338 t339 _ _ t340 _ _ t343 t348 t349 t350 t351 _ _ t352 _ _ t355 true _ ?side1 ?side2 ?side3 ?side4 ?side5 ?side6 ?side7 ?side8 A15.out).mono ?_
    (case side1 => repeat (first | exact (Kd.R_reads' HO342.out).2.2 | (with_reducible refine Kd.C_alloc ?_ _) | (with_reducible refine Kd.C_drewN ?_ _) | (with_reducible refine Kd.C_drew ?_)))
    (case side2 => exact (Kd.R_reads' HO342.out).2.1)
    (case side3 => repeat (first | exact (Kd.R_reads' HO345.out).2.2 | (with_reducible refine Kd.C_alloc ?_ _) | (with_reducible refine Kd.C_drewN ?_ _) | (with_reducible refine Kd.C_drew ?_)))
    (case side4 => exact (Kd.R_reads' HO345.out).2.1)
    (case side5 => repeat (first | exact (Kd.R_reads' HO354.out).2.2 | (with_reducible refine Kd.C_alloc ?_ _) | (with_reducible refine Kd.C_drewN ?_ _) | (with_reducible refine Kd.C_drew ?_)))
    (case side6 => exact (Kd.R_reads' HO354.out).2.1)
    (case side7 => repeat (first | exact (Kd.R_reads' HO357.out).2.2 | (with_reducible refine Kd.C_alloc ?_ _) | (with_reducible refine Kd.C_drewN ?_ _) | (with_reducible refine Kd.C_drew ?_)))
    (case side8 => exact (Kd.R_reads' HO357.out).2.1)
    rintro e w37 ⟨rfl, hb⟩
    refine ⟨_, rfl, ?_⟩
    have n0_ := zA (Kd.R_below (by (with_reducible repeat (first | apply Kd.R_alloc | apply Kd.R_drewN | apply Kd.R_drew)); exact HO331.out) hb)
    have n1_ := zA (Kd.R_below (by (with_reducible repeat (first | apply Kd.R_alloc | apply Kd.R_drewN | apply Kd.R_drew)); exact HO334.out) hb)
    have n2_ := zA (Kd.R_below (by (with_reducible repeat (first | apply Kd.R_alloc | apply Kd.R_drewN | apply Kd.R_drew)); exact HO342.out) hb)
    have n3_ := zA (Kd.R_below (by (with_reducible repeat (first | apply Kd.R_alloc | apply Kd.R_drewN | apply Kd.R_drew)); exact HO345.out) hb)
    have n4_ := zA (Kd.R_below (by (with_reducible repeat (first | apply Kd.R_alloc | apply Kd.R_drewN | apply Kd.R_drew)); exact HO354.out) hb)
    have n5_ := zA (Kd.R_below (by (with_reducible repeat (first | apply Kd.R_alloc | apply Kd.R_drewN | apply Kd.R_drew)); exact HO357.out) hb)
    have n6_ := zA (zP (g := gb323) (o := .cells #[.int .i64 a0_0, .int .i64 a0_1, .int .i64 a0_2, .string a0_3, .slice A0_4 l0_4.length c0_4, .slice A0_5 l0_5.length c0_5] 27 (0, 0)) (by (with_reducible repeat (first | refine zB ?_ _ | refine zD ?_ | refine zC ?_ _)); exact BK323.out) hb)
    have n7_ := zA (zP (g := gb346) (o := .cells #[.int .i64 t336, .int .i64 t337, .int .i64 t338, .string t339, .slice Ao30 t340.length co30, .slice Ao31 t343.length co31] 33 (0, 0)) (by (with_reducible repeat (first | refine zB ?_ _ | refine zD ?_ | refine zC ?_ _)); exact BK346.out) hb)
    have n8_ := zA (zQ apV hb)
    clear HO331
    clear HO334
    clear HO342
    clear HO345
    clear HO354
    clear HO357
    clear BK323
    clear BK346
    clear HB
    have HO331 := n0_
    have HO334 := n1_
    have HO342 := n2_
    have HO345 := n3_
    have HO354 := n4_
    have HO357 := n5_
    have BK323 := n6_
    have BK346 := n7_
    have HB := n8_
    clear n0_ n1_ n2_ n3_ n4_ n5_ n6_ n7_ n8_
    (try clear hb)
    (try clear hb2)
    (try clear hk)
    (try clear hi)
    refine hK.out _ _ ⟨(zJ BK346.out 0).trans rfl, (zJ BK346.out 1).trans rfl, (zJ BK346.out 2).trans rfl, (zJ BK346.out 3).trans rfl, (zJ BK346.out 4).trans rfl, (zJ BK346.out 5).trans rfl, (zJ BK323.out 0).trans rfl, (zJ BK323.out 1).trans rfl, (zJ BK323.out 2).trans rfl, (zJ BK323.out 3).trans rfl, (zJ BK323.out 4).trans rfl, (zJ BK323.out 5).trans rfl⟩ (fun hHeld => ?_)
    clear hK K
    refine norm_ (a' := ?_) ?_ ?_
    rotate_left
    ·show Act.put _ (some 25) _ = _
     simp only [Act.put, zL, zM, zN, i64_w, i32_w]
     rfl
    refine pure_ (i := 4) (N := some 26) (v := ?_) (a' := ?_) #[true, true, true, true, true] rfl rfl (by kernel_rfl) (fun _ _ _ h => h) (Or.inl ⟨by rfl, ?_⟩) ?_ ?_
    rotate_left
    ·intro w'
     go_simp
     with_reducible rfl
    rotate_left
    ·simp only [Act.put, zL, zM, zN, i64_w, i32_w]
     rfl
    refine done_ (by kernel_rfl) ?_
    try go_wp2
    go_ret
    exact ⟨apD, apV⟩
   ·replace c16 := Bool.eq_false_iff.mpr c16
    subst c16
    have H1 : (none) = some r := by rw [if_neg (show ¬ (false = true) by decide)] at H; exact H
    clear H
    have H := H1
    clear H1
    exact absurd H (by simp)
  ·rw [if_neg c13] at H
   exact absurd H (by simp)

end Go.Proofs.YtihepjjjdjemfaaDoor.Q
