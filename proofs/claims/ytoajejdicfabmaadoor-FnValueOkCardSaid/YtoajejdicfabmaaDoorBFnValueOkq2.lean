-- laid by a program of this session (wip/tools) out of the translation; Lean checks it
import Derived.Test.YtoajejdicfabmaaDoorBFnValueOkq1
namespace Go.Proofs.YtoajejdicfabmaaDoor.Q
open Go.RowKit Go.Proofs.YtoajejdicfabmaaDoorW.PrintWords Go.Proofs.YtoajejdicfabmaaDoorW.PrintLast Go.Proofs.YtoajejdicfabmaaDoorW.PrintMore Go.Proofs.YtoajejdicfabmaaDoorX
attribute [local go_sem] max2_int min2_int max_two min_two max_three min_three max_four min_four   -- for this text's walks alone
set_option linter.unusedVariables false
set_option linter.unusedSimpArgs false

mutual
def spec_l7Into.j1 : Nat → ByteArray → Bool → Int → Int → Int → Int → ByteArray → List (S33) → List ByteArray → Int → Int → Int → ByteArray → List (S33) → List ByteArray → Option (Int × Int × Int × ByteArray × (List (S33)) × List ByteArray × Bool)
 | 0, _, _, _, _, _, _, _, _, _, _, _, _, _, _, _ => none
 | k + 1, x1, x3, x10, x157000, x157001, x157002, x157003, x157004, x157005, x158000, x158001, x158002, x158003, x158004, x158005 => (some (([] : List ByteArray) : List ByteArray)).bind fun y162 => (if 0 ≤ x10 then (if x10 ≤ (x157005.length : Int) then ((some (x157005.take (x10 : Int).toNat : List ByteArray)).bind fun y165 => (if y162.length + y165.length < 8796093022208 then ((some (y162 ++ y165 : List ByteArray)).bind fun y170 => ((some (([x1] : List ByteArray) : List ByteArray)).bind fun y173 => (if y170.length + y173.length < 8796093022208 then ((some (y170 ++ y173 : List ByteArray)).bind fun y176 => ((some (x157005.drop (x10 : Int).toNat : List ByteArray)).bind fun y179 => (if y176.length + y179.length < 8796093022208 then ((some (([] : List (S33)) : List (S33))).bind fun y187 => (if x10 ≤ (x157004.length : Int) then ((some (x157004.take (x10 : Int).toNat : List (S33))).bind fun y190 => (if y187.length + y190.length < 1599289640401 then ((some (y187 ++ y190 : List (S33))).bind fun y195 => ((some (([(⟨x158000, (⟨x158001, x158002⟩ : S30), x158003, x158004, x158005⟩ : S33)] : List (S33)) : List (S33))).bind fun y198 => (if y195.length + y198.length < 1599289640401 then ((some (y195 ++ y198 : List (S33))).bind fun y201 => ((some (x157004.drop (x10 : Int).toNat : List (S33))).bind fun y204 => (if y201.length + y204.length < 1599289640401 then (some (6, 0, 0, (⟨#[]⟩ : ByteArray), (y201 ++ y204), (y176 ++ y179), x3)) else (none)))) else (none)))) else (none))) else (none))) else (none)))) else (none)))) else (none))) else (none)) else (none))
def spec_l7Into.l0 : Nat → ByteArray → Bool → Int → Int → Int → Int → ByteArray → List (S33) → List ByteArray → Int → Int → Int → ByteArray → List (S33) → List ByteArray → Option (Int × Int × Int × ByteArray × (List (S33)) × List ByteArray × Bool)
 | 0, _, _, _, _, _, _, _, _, _, _, _, _, _, _, _ => none
 | k + 1, x1, x3, x10, x157000, x157001, x157002, x157003, x157004, x157005, x158000, x158001, x158002, x158003, x158004, x158005 => if x10 < (x157005.length : Int) then (if 0 ≤ x10 then (if (Op.bytesLess ((rdOf ByteArray.empty x157005 x10).toList) x1.toList) = true then (spec_l7Into.l0 k x1 x3 (wrap64 (x10 + 1)) x157000 x157001 x157002 x157003 x157004 x157005 x158000 x158001 x158002 x158003 x158004 x158005) else (spec_l7Into.j1 k x1 x3 x10 x157000 x157001 x157002 x157003 x157004 x157005 x158000 x158001 x158002 x158003 x158004 x158005)) else (none)) else (spec_l7Into.j1 k x1 x3 x10 x157000 x157001 x157002 x157003 x157004 x157005 x158000 x158001 x158002 x158003 x158004 x158005)
end
def spec_l7Into.f (k : Nat) (a0_0 : Int) (a0_1 : Int) (a0_2 : Int) (a0_3 : ByteArray) (l0_4 : List (S33)) (l0_5 : List ByteArray) (a1 : ByteArray) (a2_0 : Int) (a2_1 : Int) (a2_2 : Int) (a2_3 : ByteArray) (l2_4 : List (S33)) (l2_5 : List ByteArray) (a3 : Bool) : Option (Int × Int × Int × ByteArray × (List (S33)) × List ByteArray × Bool) := (spec_l2Has.f k l0_5 a1).bind fun t159 => (if t159 = true then (some (a0_0, a0_1, a0_2, a0_3, l0_4, l0_5, false)) else (spec_l7Into.l0 k a1 a3 0 a0_0 a0_1 a0_2 a0_3 l0_4 l0_5 a2_0 a2_1 a2_2 a2_3 l2_4 l2_5))
theorem spec_l7Into.mono_l : ∀ k, (∀ y0 y1 y2 y3 y4 y5 y6 y7 y8 y9 y10 y11 y12 y13 y14, LeO (spec_l7Into.j1 k y0 y1 y2 y3 y4 y5 y6 y7 y8 y9 y10 y11 y12 y13 y14) (spec_l7Into.j1 (k + 1) y0 y1 y2 y3 y4 y5 y6 y7 y8 y9 y10 y11 y12 y13 y14)) ∧ (∀ y0 y1 y2 y3 y4 y5 y6 y7 y8 y9 y10 y11 y12 y13 y14, LeO (spec_l7Into.l0 k y0 y1 y2 y3 y4 y5 y6 y7 y8 y9 y10 y11 y12 y13 y14) (spec_l7Into.l0 (k + 1) y0 y1 y2 y3 y4 y5 y6 y7 y8 y9 y10 y11 y12 y13 y14))
 | 0 => ⟨fun _ _ _ _ _ _ _ _ _ _ _ _ _ _ _ r h => by simp [spec_l7Into.j1] at h, fun _ _ _ _ _ _ _ _ _ _ _ _ _ _ _ r h => by simp [spec_l7Into.l0] at h⟩
 | k + 1 => by
  obtain ⟨ih0, ih1⟩ := spec_l7Into.mono_l k
  refine ⟨?_, ?_⟩
  ·intro y0 y1 y2 y3 y4 y5 y6 y7 y8 y9 y10 y11 y12 y13 y14
   unfold spec_l7Into.j1
   repeat' first
   | (with_reducible exact ih0 _ _ _ _ _ _ _ _ _ _ _ _ _ _ _)
   | (with_reducible exact ih1 _ _ _ _ _ _ _ _ _ _ _ _ _ _ _)
   | (with_reducible exact spec_l2Has.mono _ _ _)
   | (with_reducible exact LeO.refl _)
   | (with_reducible exact LeO.none _)
   | (with_reducible refine LeO.ite ?_ ?_)
   | (with_reducible refine LeO.bind ?_ (fun _ => ?_))
   | exact ih0 _ _ _ _ _ _ _ _ _ _ _ _ _ _ _
   | exact ih1 _ _ _ _ _ _ _ _ _ _ _ _ _ _ _
  ·intro y0 y1 y2 y3 y4 y5 y6 y7 y8 y9 y10 y11 y12 y13 y14
   unfold spec_l7Into.l0
   repeat' first
   | (with_reducible exact ih0 _ _ _ _ _ _ _ _ _ _ _ _ _ _ _)
   | (with_reducible exact ih1 _ _ _ _ _ _ _ _ _ _ _ _ _ _ _)
   | (with_reducible exact spec_l2Has.mono _ _ _)
   | (with_reducible exact LeO.refl _)
   | (with_reducible exact LeO.none _)
   | (with_reducible refine LeO.ite ?_ ?_)
   | (with_reducible refine LeO.bind ?_ (fun _ => ?_))
   | exact ih0 _ _ _ _ _ _ _ _ _ _ _ _ _ _ _
   | exact ih1 _ _ _ _ _ _ _ _ _ _ _ _ _ _ _
theorem spec_l7Into.mono : ∀ a0 a1 a2 a3 a4 a5 a6 a7 a8 a9 a10 a11 a12 a13 k, LeO (spec_l7Into.f k a0 a1 a2 a3 a4 a5 a6 a7 a8 a9 a10 a11 a12 a13) (spec_l7Into.f (k + 1) a0 a1 a2 a3 a4 a5 a6 a7 a8 a9 a10 a11 a12 a13) := by
 intro a0 a1 a2 a3 a4 a5 a6 a7 a8 a9 a10 a11 a12 a13 k
 obtain ⟨ih0, ih1⟩ := spec_l7Into.mono_l k
 unfold spec_l7Into.f
 repeat' first
   | (with_reducible exact ih0 _ _ _ _ _ _ _ _ _ _ _ _ _ _ _)
   | (with_reducible exact ih1 _ _ _ _ _ _ _ _ _ _ _ _ _ _ _)
   | (with_reducible exact spec_l2Has.mono _ _ _)
   | (with_reducible exact LeO.refl _)
   | (with_reducible exact LeO.none _)
   | (with_reducible refine LeO.ite ?_ ?_)
   | (with_reducible refine LeO.bind ?_ (fun _ => ?_))
   | exact ih0 _ _ _ _ _ _ _ _ _ _ _ _ _ _ _
   | exact ih1 _ _ _ _ _ _ _ _ _ _ _ _ _ _ _
def spec_l7Into.T7 : Bool × List (List Nat × List Nat) := (true, [([], []), ([], []), ([1], [1]), ([], []), ([2, 3], [2, 3]), ([0, 4], [0, 4]), ([], []), ([6], [6]), ([5, 7, 5], [5, 7]), ([], []), ([9], [9]), ([], []), ([10, 11], [10, 11]), ([8, 12, 8], [8, 12]), ([0, 1, 2, 3, 4, 5, 6, 7, 8, 9, 10, 11, 12, 13], []), ([14, 13, 13, 0, 1, 2, 3, 4, 5, 6, 7, 8, 9, 10, 11, 12, 13], [13, 14])])
def spec_l7Into.B7 : List Nat := [0, 0, 2, 0, 14, 31, 0, 64, 255, 0, 512, 0, 3584, 8191, 16383, 32767]
theorem spec_l7Into.tab7 : rtab .any (opsOf Tryd.f58 7) = spec_l7Into.T7 := by kernel_rfl
theorem spec_l7Into.bits7 : waitsOk spec_l7Into.T7.2 spec_l7Into.B7 = true := by kernel_rfl
def spec_l7Into.T8 : Bool × List (List Nat × List Nat) := (true, [([], []), ([], []), ([1], [1]), ([], []), ([2, 3], [2, 3]), ([0, 4], [0, 4]), ([], []), ([6], [6]), ([5, 7, 5], [5, 7]), ([], []), ([9], [9]), ([], []), ([10, 11], [10, 11]), ([8, 12, 8], [8, 12]), ([0, 1, 2, 3, 4, 5, 6, 7, 8, 9, 10, 11, 12, 13], []), ([14, 13, 13, 0, 1, 2, 3, 4, 5, 6, 7, 8, 9, 10, 11, 12, 13], [13, 14])])
def spec_l7Into.B8 : List Nat := [0, 0, 2, 0, 14, 31, 0, 64, 255, 0, 512, 0, 3584, 8191, 16383, 32767]
theorem spec_l7Into.tab8 : rtab .any (opsOf Tryd.f58 8) = spec_l7Into.T8 := by kernel_rfl
theorem spec_l7Into.bits8 : waitsOk spec_l7Into.T8.2 spec_l7Into.B8 = true := by kernel_rfl
set_option maxHeartbeats 8000000 in
set_option maxRecDepth 100000 in
theorem spec_l7Into.calls (k : Nat) (a0_0 : Int) (a0_1 : Int) (a0_2 : Int) (a0_3 : ByteArray) (P0_4_ : Nat → Prop) (A0_4 : Option Addr) (c0_4 : Nat) (l0_4 : List (S33)) (P0_5_ : Nat → Prop) (u9000_ : Value) (l0_5 : List ByteArray) (a1 : ByteArray) (a2_0 : Int) (a2_1 : Int) (a2_2 : Int) (a2_3 : ByteArray) (P2_4_ : Nat → Prop) (A2_4 : Option Addr) (c2_4 : Nat) (l2_4 : List (S33)) (P2_5_ : Nat → Prop) (A2_5 : Option Addr) (c2_5 : Nat) (l2_5 : List ByteArray) (a3 : Bool) (r1 : Int) (r2 : Int) (r3 : Int) (r4 : ByteArray) (r5 : List (S33)) (r6 : List ByteArray) (r7 : Bool) (w0 w : World) (hB : Below w0.heap.size w0 w) (hs0_4 : Kd.V k33 33 w w0.heap.size (fun k_ => P0_4_ k_ ∧ some k_ ≠ (u9000_ : Value).ownBlock) (.slice A0_4 l0_4.length c0_4) l0_4) (ho0_5 : Kd.R Kd.string 9 w w0.heap.size P0_5_ u9000_ l0_5) (hs2_4 : Kd.V k33 33 w w0.heap.size (fun k_ => P2_4_ k_ ∧ some k_ ≠ (u9000_ : Value).ownBlock) (.slice A2_4 l2_4.length c2_4) l2_4) (hs2_5 : Kd.V Kd.string 9 w w0.heap.size (fun k_ => P2_5_ k_ ∧ some k_ ≠ (u9000_ : Value).ownBlock) (.slice A2_5 l2_5.length c2_5) l2_5) (h : spec_l7Into.f k a0_0 a0_1 a0_2 a0_3 l0_4 l0_5 a1 a2_0 a2_1 a2_2 a2_3 l2_4 l2_5 a3 = some (r1, r2, r3, r4, r5, r6, r7)) :
  Calls Tryd.prog 58 #[.agg #[.int .i64 a0_0, .int .i64 a0_1, .int .i64 a0_2, .string a0_3, .slice A0_4 l0_4.length c0_4, u9000_], .string a1, .agg #[.int .i64 a2_0, .int .i64 a2_1, .int .i64 a2_2, .string a2_3, .slice A2_4 l2_4.length c2_4, .slice A2_5 l2_5.length c2_5], .bool a3] w fun e w' => ∃ v4_ v5_ : Value, e = .returned (.tuple #[.agg #[.int .i64 r1, .int .i64 r2, .int .i64 r3, .string r4, v4_, v5_], .bool r7]) ∧ Kd.V k33 33 w' w0.heap.size (fun k_ => ((P0_5_ k_ ∨ P0_4_ k_ ∨ P2_4_ k_ ∨ P2_5_ k_) ∨ w.heap.size ≤ k_) ∧ some k_ ≠ (v5_ : Value).ownBlock) v4_ r5 ∧ Kd.R Kd.string 9 w' w0.heap.size (fun k_ => (P0_5_ k_ ∨ w.heap.size ≤ k_)) v5_ r6 ∧ Below w0.heap.size w0 w' ∧ Kept w w' (fun k_ => P0_5_ k_) := by
 have hu33 := Tryd.underlying33
 have HO0_4 := zA (show Kd.V k33 33 w w0.heap.size (fun k_ => ((P0_5_ k_ ∨ P0_4_ k_ ∨ P2_4_ k_ ∨ P2_5_ k_) ∨ w.heap.size ≤ k_) ∧ some k_ ≠ (u9000_ : Value).ownBlock) (.slice A0_4 l0_4.length c0_4) l0_4 from Kd.V_mono hs0_4 (fun k_ hk => ⟨.inl (.inr (.inl hk.1)), hk.2⟩))
 have HO0_5 := zA (show Kd.R Kd.string 9 w w0.heap.size (fun k_ => (P0_5_ k_ ∨ w.heap.size ≤ k_)) u9000_ l0_5 from Kd.R_mono ho0_5 (fun k_ hk => (.inl hk)))
 have HO2_4 := zA (show Kd.V k33 33 w w0.heap.size (fun k_ => ((P0_5_ k_ ∨ P0_4_ k_ ∨ P2_4_ k_ ∨ P2_5_ k_) ∨ w.heap.size ≤ k_) ∧ some k_ ≠ (u9000_ : Value).ownBlock) (.slice A2_4 l2_4.length c2_4) l2_4 from Kd.V_mono hs2_4 (fun k_ hk => ⟨.inl (.inr (.inr (.inl hk.1))), hk.2⟩))
 have HO2_5 := zA (show Kd.V Kd.string 9 w w0.heap.size (fun k_ => ((P0_5_ k_ ∨ P0_4_ k_ ∨ P2_4_ k_ ∨ P2_5_ k_) ∨ w.heap.size ≤ k_) ∧ some k_ ≠ (u9000_ : Value).ownBlock) (.slice A2_5 l2_5.length c2_5) l2_5 from Kd.V_mono hs2_5 (fun k_ hk => ⟨.inl (.inr (.inr (.inr hk.1))), hk.2⟩))
 have HK := zA (Kept.refl w (fun k_ => P0_5_ k_))
 have HW0 := zA hB.size
 have HB := zA hB
 clear hB
 have H : ((spec_l2Has.f k l0_5 a1).bind fun t159 => (if t159 = true then (some (a0_0, a0_1, a0_2, a0_3, l0_4, l0_5, false)) else (spec_l7Into.l0 k a1 a3 0 a0_0 a0_1 a0_2 a0_3 l0_4 l0_5 a2_0 a2_1 a2_2 a2_3 l2_4 l2_5))) = some (r1, r2, r3, r4, r5, r6, r7) := h
 clear h
 replace H := Option.bind_eq_some_iff.mp H
 obtain ⟨t159, A50, H⟩ := H
 replace H : (if t159 = true then (some (a0_0, a0_1, a0_2, a0_3, l0_4, l0_5, false)) else (spec_l7Into.l0 k a1 a3 0 a0_0 a0_1 a0_2 a0_3 l0_4 l0_5 a2_0 a2_1 a2_2 a2_3 l2_4 l2_5)) = some (r1, r2, r3, r4, r5, r6, r7) := H
 have A5 := zA A50
 clear A50
 by_cases c6 : t159 = true
 ·subst c6
  have H1 : (some (a0_0, a0_1, a0_2, a0_3, l0_4, l0_5, false)) = some (r1, r2, r3, r4, r5, r6, r7) := by rw [if_pos rfl] at H; exact H
  clear H
  have H := H1
  clear H1
  simp only [Option.some.injEq, Prod.mk.injEq] at H
  obtain ⟨rfl, rfl, rfl, rfl, rfl, rfl, rfl⟩ := H
  obtain ⟨Ao7, co7, eo7⟩ := Kd.R_slice HO0_5.out
  subst eo7
  go_enter Tryd.func58, Tryd.ntmps58
  go_wp2_with (first | ((with_reducible refine zT (N := 4) rfl ?_); refine zW ?hg (N := 4) ?hd (cs := #[.int .i64 a0_0, .int .i64 a0_1, .int .i64 a0_2, .string a0_3, .slice A0_4 l0_4.length c0_4, .slice Ao7 l0_5.length co7]) (t := 33) ?hr ?_; (case hd => rfl); (case hg => rfl); (case hr => first | (go_simp; done) | (go_simp; rfl)); intro gb156 hg w8 hbox hb; replace HO0_5 := zA (Kd.R_below (vwR HO0_5.out) hb); replace HO0_4 := zA (Kd.V_below (Kd.V_elderB (vwV HO0_4.out) gb156 (Nat.le_of_eq hg.symm)) hb); replace HO2_4 := zA (Kd.V_below (Kd.V_elderB (vwV HO2_4.out) gb156 (Nat.le_of_eq hg.symm)) hb); replace HO2_5 := zA (Kd.V_below (Kd.V_elderB (vwV HO2_5.out) gb156 (Nat.le_of_eq hg.symm)) hb); have BK156 := zA (hbox); have GW156 := zA ((by rw [hg]; exact (by first | exact HK.out.1 | exact (show Kept w _ (fun k_ => P0_5_ k_) from by repeat (first | (with_reducible first | exact HK.out | apply Kept.alloc | apply Kept.drewN | apply Kept.drew) | exact HK.out)).1) : w.heap.size ≤ gb156)); replace HK := zA (Kept.below (S := (fun k_ => P0_5_ k_)) (by repeat (first | (with_reducible first | exact HK.out | apply Kept.alloc | apply Kept.drewN | apply Kept.drew) | exact HK.out)) hb); have GE156 := zA ((by rw [hg]; exact (zR apA) : w0.heap.size ≤ gb156)); replace HB := zA (zQ apA hb); clear hb hbox hg) | ((with_reducible refine zT (N := 6) rfl ?_); refine zW ?hg (N := 6) ?hd (cs := #[.int .i64 a2_0, .int .i64 a2_1, .int .i64 a2_2, .string a2_3, .slice A2_4 l2_4.length c2_4, .slice A2_5 l2_5.length c2_5]) (t := 33) ?hr ?_; (case hd => rfl); (case hg => rfl); (case hr => first | (go_simp; done) | (go_simp; rfl)); intro gb157 hg w9 hbox hb; replace HO0_5 := zA (Kd.R_below (vwR HO0_5.out) hb); replace HO0_4 := zA (Kd.V_below (Kd.V_elderB (vwV HO0_4.out) gb157 (Nat.le_of_eq hg.symm)) hb); replace HO2_4 := zA (Kd.V_below (Kd.V_elderB (vwV HO2_4.out) gb157 (Nat.le_of_eq hg.symm)) hb); replace HO2_5 := zA (Kd.V_below (Kd.V_elderB (vwV HO2_5.out) gb157 (Nat.le_of_eq hg.symm)) hb); have BK157 := zA (hbox); have GW157 := zA ((by rw [hg]; exact (by first | exact HK.out.1 | exact (show Kept w _ (fun k_ => P0_5_ k_) from by repeat (first | (with_reducible first | exact HK.out | apply Kept.alloc | apply Kept.drewN | apply Kept.drew | refine Kept.setCell ?_ (.inr GW156.out) _) | exact HK.out)).1) : w.heap.size ≤ gb157)); replace HK := zA (Kept.below (S := (fun k_ => P0_5_ k_)) (by repeat (first | (with_reducible first | exact HK.out | apply Kept.alloc | apply Kept.drewN | apply Kept.drew | refine Kept.setCell ?_ (.inr GW156.out) _) | exact HK.out)) hb); have GE157 := zA ((by rw [hg]; exact (zR (by repeat (first | (with_reducible first | exact HB.out | apply zG | apply zE | apply zF | refine zH ?_ GE156.out) | exact HB.out))) : w0.heap.size ≤ gb157)); replace HB := zA (zQ (by repeat (first | (with_reducible first | exact HB.out | apply zG | apply zE | apply zF | refine zH ?_ GE156.out) | exact HB.out)) hb); have NB156_157 := zA ((by rw [hg]; exact Nat.ne_of_lt (blk_lt (g := gb156) (o := .cells #[.int .i64 a0_0, .int .i64 a0_1, .int .i64 a0_2, .string a0_3, .slice A0_4 l0_4.length c0_4, .slice Ao7 l0_5.length co7] 33 (0, 0)) apG) : gb156 ≠ gb157)); have NB157_156 := zA ((by rw [hg]; exact Nat.ne_of_gt (blk_lt (g := gb156) (o := .cells #[.int .i64 a0_0, .int .i64 a0_1, .int .i64 a0_2, .string a0_3, .slice A0_4 l0_4.length c0_4, .slice Ao7 l0_5.length co7] 33 (0, 0)) apG) : gb157 ≠ gb156)); replace BK156 := zA (zP (g := gb156) (o := .cells #[.int .i64 a0_0, .int .i64 a0_1, .int .i64 a0_2, .string a0_3, .slice A0_4 l0_4.length c0_4, .slice Ao7 l0_5.length co7] 33 (0, 0)) apG hb); clear hb hbox hg) | ((with_reducible refine zT (N := 8) rfl ?_); refine zW ?hg (N := 8) ?hd (cs := #[.int .i64 0, .int .i64 0, .int .i64 0, .string (⟨#[]⟩ : ByteArray), .slice none 0 0, .slice none 0 0]) (t := 33) ?hr ?_; (case hd => rfl); (case hg => rfl); (case hr => first | (go_simp; done) | (go_simp; rfl)); intro gb158 hg w10 hbox hb; replace HO0_5 := zA (Kd.R_below (vwR HO0_5.out) hb); replace HO0_4 := zA (Kd.V_below (Kd.V_elderB (vwV HO0_4.out) gb158 (Nat.le_of_eq hg.symm)) hb); replace HO2_4 := zA (Kd.V_below (Kd.V_elderB (vwV HO2_4.out) gb158 (Nat.le_of_eq hg.symm)) hb); replace HO2_5 := zA (Kd.V_below (Kd.V_elderB (vwV HO2_5.out) gb158 (Nat.le_of_eq hg.symm)) hb); have BK158 := zA (hbox); have GW158 := zA ((by rw [hg]; exact (by first | exact HK.out.1 | exact (show Kept w _ (fun k_ => P0_5_ k_) from by repeat (first | (with_reducible first | exact HK.out | apply Kept.alloc | apply Kept.drewN | apply Kept.drew | refine Kept.setCell ?_ (.inr GW156.out) _ | refine Kept.setCell ?_ (.inr GW157.out) _) | exact HK.out)).1) : w.heap.size ≤ gb158)); replace HK := zA (Kept.below (S := (fun k_ => P0_5_ k_)) (by repeat (first | (with_reducible first | exact HK.out | apply Kept.alloc | apply Kept.drewN | apply Kept.drew | refine Kept.setCell ?_ (.inr GW156.out) _ | refine Kept.setCell ?_ (.inr GW157.out) _) | exact HK.out)) hb); have GE158 := zA ((by rw [hg]; exact (zR (by repeat (first | (with_reducible first | exact HB.out | apply zG | apply zE | apply zF | refine zH ?_ GE156.out | refine zH ?_ GE157.out) | exact HB.out))) : w0.heap.size ≤ gb158)); replace HB := zA (zQ (by repeat (first | (with_reducible first | exact HB.out | apply zG | apply zE | apply zF | refine zH ?_ GE156.out | refine zH ?_ GE157.out) | exact HB.out)) hb); have NB156_158 := zA ((by rw [hg]; exact Nat.ne_of_lt (blk_lt (g := gb156) (o := .cells #[.int .i64 a0_0, .int .i64 a0_1, .int .i64 a0_2, .string a0_3, .slice A0_4 l0_4.length c0_4, .slice Ao7 l0_5.length co7] 33 (0, 0)) apG) : gb156 ≠ gb158)); have NB158_156 := zA ((by rw [hg]; exact Nat.ne_of_gt (blk_lt (g := gb156) (o := .cells #[.int .i64 a0_0, .int .i64 a0_1, .int .i64 a0_2, .string a0_3, .slice A0_4 l0_4.length c0_4, .slice Ao7 l0_5.length co7] 33 (0, 0)) apG) : gb158 ≠ gb156)); replace BK156 := zA (zP (g := gb156) (o := .cells #[.int .i64 a0_0, .int .i64 a0_1, .int .i64 a0_2, .string a0_3, .slice A0_4 l0_4.length c0_4, .slice Ao7 l0_5.length co7] 33 (0, 0)) apG hb); have NB157_158 := zA ((by rw [hg]; exact Nat.ne_of_lt (blk_lt (g := gb157) (o := .cells #[.int .i64 a2_0, .int .i64 a2_1, .int .i64 a2_2, .string a2_3, .slice A2_4 l2_4.length c2_4, .slice A2_5 l2_5.length c2_5] 33 (0, 0)) apI) : gb157 ≠ gb158)); have NB158_157 := zA ((by rw [hg]; exact Nat.ne_of_gt (blk_lt (g := gb157) (o := .cells #[.int .i64 a2_0, .int .i64 a2_1, .int .i64 a2_2, .string a2_3, .slice A2_4 l2_4.length c2_4, .slice A2_5 l2_5.length c2_5] 33 (0, 0)) apI) : gb158 ≠ gb157)); replace BK157 := zA (zP (g := gb157) (o := .cells #[.int .i64 a2_0, .int .i64 a2_1, .int .i64 a2_2, .string a2_3, .slice A2_4 l2_4.length c2_4, .slice A2_5 l2_5.length c2_5] 33 (0, 0)) apI hb); clear hb hbox hg; have hnb11 := NB156_157.out; have hnc11 := NB157_156.out; have hnb12 := NB156_158.out; have hnc12 := NB158_156.out; obtain ⟨hcz13_0, hcz13_1, hcz13_2, hcz13_3, hcz13_4, hcz13_5, hfz13_0, hfz13_1, hfz13_2, hfz13_3, hfz13_4, hfz13_5⟩ := zb6 BK156.out) | ((with_reducible refine zV (f := 71) rfl ?_); refine goesL_ (some 15) rfl rfl Tryd.func71 (by kernel_rfl) rfl #[.slice Ao7 l0_5.length co7, .string a1] rfl apD ?_; (with_reducible refine (spec_l2Has.calls k _ _ l0_5 a1 true _ ?side1 ?side2 A5.out).mono ?_); (case side1 => exact vc (Kd.R_reads' HO0_5.out).2.2); (case side2 => exact (Kd.R_reads' HO0_5.out).2.1); rintro e w' ⟨rfl, ⟨nd, rfl⟩⟩; refine ⟨_, rfl, ?_⟩; (try ((repeat rw [World.drewN_drewN]); rw [drewN_self w10]; generalize hq_ : World.drewN w10 _ = w10; have n0_ : Aside0 (Kd.V k33 33 w10 w0.heap.size (fun k_ => (((((((P0_5_ k_ ∨ P0_4_ k_ ∨ P2_4_ k_ ∨ P2_5_ k_) ∨ w.heap.size ≤ k_)) ∧ zn (.slice Ao7 l0_5.length co7) k_) ∧ k_ ≠ gb156) ∧ k_ ≠ gb157) ∧ k_ ≠ gb158)) (.slice A0_4 l0_4.length c0_4) l0_4) := ⟨by rw [← hq_]; exact (vwV HO0_4.out)⟩; have n1_ : Aside0 (Kd.R Kd.string 9 w10 w0.heap.size (fun k_ => (P0_5_ k_ ∨ w.heap.size ≤ k_)) (.slice Ao7 l0_5.length co7) l0_5) := ⟨by rw [← hq_]; exact (vwR HO0_5.out)⟩; have n2_ : Aside0 (Kd.V k33 33 w10 w0.heap.size (fun k_ => (((((((P0_5_ k_ ∨ P0_4_ k_ ∨ P2_4_ k_ ∨ P2_5_ k_) ∨ w.heap.size ≤ k_)) ∧ zn (.slice Ao7 l0_5.length co7) k_) ∧ k_ ≠ gb156) ∧ k_ ≠ gb157) ∧ k_ ≠ gb158)) (.slice A2_4 l2_4.length c2_4) l2_4) := ⟨by rw [← hq_]; exact (vwV HO2_4.out)⟩; have n3_ : Aside0 (Kd.V Kd.string 9 w10 w0.heap.size (fun k_ => (((((((P0_5_ k_ ∨ P0_4_ k_ ∨ P2_4_ k_ ∨ P2_5_ k_) ∨ w.heap.size ≤ k_)) ∧ zn (.slice Ao7 l0_5.length co7) k_) ∧ k_ ≠ gb156) ∧ k_ ≠ gb157) ∧ k_ ≠ gb158)) (.slice A2_5 l2_5.length c2_5) l2_5) := ⟨by rw [← hq_]; exact (vwV HO2_5.out)⟩; have n4_ : Aside0 (w10.heap[gb156]? = some (.cells #[.int .i64 a0_0, .int .i64 a0_1, .int .i64 a0_2, .string a0_3, .slice A0_4 l0_4.length c0_4, .slice Ao7 l0_5.length co7] 33 (0, 0))) := ⟨by rw [← hq_]; exact apG⟩; have n5_ : Aside0 (w10.heap[gb157]? = some (.cells #[.int .i64 a2_0, .int .i64 a2_1, .int .i64 a2_2, .string a2_3, .slice A2_4 l2_4.length c2_4, .slice A2_5 l2_5.length c2_5] 33 (0, 0))) := ⟨by rw [← hq_]; exact apI⟩; have n6_ : Aside0 (w10.heap[gb158]? = some (.cells #[.int .i64 0, .int .i64 0, .int .i64 0, .string (⟨#[]⟩ : ByteArray), .slice none 0 0, .slice none 0 0] 33 (0, 0))) := ⟨by rw [← hq_]; exact apK⟩; have n7_ : Aside0 (Kept w w10 (fun k_ => P0_5_ k_)) := ⟨by rw [← hq_]; exact apn⟩; have n8_ : Aside0 (Below w0.heap.size w0 w10) := ⟨by rw [← hq_]; exact apo⟩; clear HO0_4 HO0_5 HO2_4 HO2_5 BK156 BK157 BK158 HK HB hq_; have HO0_4 := n0_; have HO0_5 := n1_; have HO2_4 := n2_; have HO2_5 := n3_; have BK156 := n4_; have BK157 := n5_; have BK158 := n6_; have HK := n7_; have HB := n8_; clear n0_ n1_ n2_ n3_ n4_ n5_ n6_ n7_ n8_)); (try (have hcu14_0 : w10.cell? ⟨gb156, 0, none⟩ = some (.int .i64 a0_0) := (zJ BK156.out 0).trans rfl; have hfu14_0 := zK BK156.out 0)); (try (have hcu14_1 : w10.cell? ⟨gb156, 1, none⟩ = some (.int .i64 a0_1) := (zJ BK156.out 1).trans rfl; have hfu14_1 := zK BK156.out 1)); (try (have hcu14_2 : w10.cell? ⟨gb156, 2, none⟩ = some (.int .i64 a0_2) := (zJ BK156.out 2).trans rfl; have hfu14_2 := zK BK156.out 2)); (try (have hcu14_3 : w10.cell? ⟨gb156, 3, none⟩ = some (.string a0_3) := (zJ BK156.out 3).trans rfl; have hfu14_3 := zK BK156.out 3)); (try (have hcu14_4 : w10.cell? ⟨gb156, 4, none⟩ = some (.slice A0_4 l0_4.length c0_4) := (zJ BK156.out 4).trans rfl; have hfu14_4 := zK BK156.out 4)); (try (have hcu14_5 : w10.cell? ⟨gb156, 5, none⟩ = some (.slice Ao7 l0_5.length co7) := (zJ BK156.out 5).trans rfl; have hfu14_5 := zK BK156.out 5)); (try (have hcu15_0 : w10.cell? ⟨gb157, 0, none⟩ = some (.int .i64 a2_0) := (zJ BK157.out 0).trans rfl; have hfu15_0 := zK BK157.out 0)); (try (have hcu15_1 : w10.cell? ⟨gb157, 1, none⟩ = some (.int .i64 a2_1) := (zJ BK157.out 1).trans rfl; have hfu15_1 := zK BK157.out 1)); (try (have hcu15_2 : w10.cell? ⟨gb157, 2, none⟩ = some (.int .i64 a2_2) := (zJ BK157.out 2).trans rfl; have hfu15_2 := zK BK157.out 2)); (try (have hcu15_3 : w10.cell? ⟨gb157, 3, none⟩ = some (.string a2_3) := (zJ BK157.out 3).trans rfl; have hfu15_3 := zK BK157.out 3)); (try (have hcu15_4 : w10.cell? ⟨gb157, 4, none⟩ = some (.slice A2_4 l2_4.length c2_4) := (zJ BK157.out 4).trans rfl; have hfu15_4 := zK BK157.out 4)); (try (have hcu15_5 : w10.cell? ⟨gb157, 5, none⟩ = some (.slice A2_5 l2_5.length c2_5) := (zJ BK157.out 5).trans rfl; have hfu15_5 := zK BK157.out 5)); (try (have hcu16_0 : w10.cell? ⟨gb158, 0, none⟩ = some (.int .i64 0) := (zJ BK158.out 0).trans rfl; have hfu16_0 := zK BK158.out 0)); (try (have hcu16_1 : w10.cell? ⟨gb158, 1, none⟩ = some (.int .i64 0) := (zJ BK158.out 1).trans rfl; have hfu16_1 := zK BK158.out 1)); (try (have hcu16_2 : w10.cell? ⟨gb158, 2, none⟩ = some (.int .i64 0) := (zJ BK158.out 2).trans rfl; have hfu16_2 := zK BK158.out 2)); (try (have hcu16_3 : w10.cell? ⟨gb158, 3, none⟩ = some (.string (⟨#[]⟩ : ByteArray)) := (zJ BK158.out 3).trans rfl; have hfu16_3 := zK BK158.out 3)); (try (have hcu16_4 : w10.cell? ⟨gb158, 4, none⟩ = some (.slice none 0 0) := (zJ BK158.out 4).trans rfl; have hfu16_4 := zK BK158.out 4)); (try (have hcu16_5 : w10.cell? ⟨gb158, 5, none⟩ = some (.slice none 0 0) := (zJ BK158.out 5).trans rfl; have hfu16_5 := zK BK158.out 5)); have hnb17 := NB158_157.out; have hnc17 := NB157_158.out; obtain ⟨hcz18_0, hcz18_1, hcz18_2, hcz18_3, hcz18_4, hcz18_5, hfz18_0, hfz18_1, hfz18_2, hfz18_3, hfz18_4, hfz18_5⟩ := zb6 BK158.out))
  refine bodyPost_ret (results_ct rfl _ _ gb158 33 #[.int .i64 a0_0, .int .i64 a0_1, .int .i64 a0_2, .string a0_3, .slice A0_4 l0_4.length c0_4, .slice Ao7 l0_5.length co7] (0, 0) _ rfl (by (with_reducible repeat (first | refine zB ?_ _ | refine zD ?_ | refine zC ?_ _)); refine blk_put (cs := #[.int .i64 a0_0, .int .i64 a0_1, .int .i64 a0_2, .string a0_3, .slice A0_4 l0_4.length c0_4, .slice none 0 0]) ?_ 5 _ rfl; (with_reducible repeat (first | refine zB ?_ _ | refine zD ?_ | refine zC ?_ _)); refine blk_put (cs := #[.int .i64 a0_0, .int .i64 a0_1, .int .i64 a0_2, .string a0_3, .slice none 0 0, .slice none 0 0]) ?_ 4 _ rfl; (with_reducible repeat (first | refine zB ?_ _ | refine zD ?_ | refine zC ?_ _)); refine blk_put (cs := #[.int .i64 a0_0, .int .i64 a0_1, .int .i64 a0_2, .string (⟨#[]⟩ : ByteArray), .slice none 0 0, .slice none 0 0]) ?_ 3 _ rfl; (with_reducible repeat (first | refine zB ?_ _ | refine zD ?_ | refine zC ?_ _)); refine blk_put (cs := #[.int .i64 a0_0, .int .i64 a0_1, .int .i64 0, .string (⟨#[]⟩ : ByteArray), .slice none 0 0, .slice none 0 0]) ?_ 2 _ rfl; (with_reducible repeat (first | refine zB ?_ _ | refine zD ?_ | refine zC ?_ _)); refine blk_put (cs := #[.int .i64 a0_0, .int .i64 0, .int .i64 0, .string (⟨#[]⟩ : ByteArray), .slice none 0 0, .slice none 0 0]) ?_ 1 _ rfl; (with_reducible repeat (first | refine zB ?_ _ | refine zD ?_ | refine zC ?_ _)); refine blk_put (cs := #[.int .i64 0, .int .i64 0, .int .i64 0, .string (⟨#[]⟩ : ByteArray), .slice none 0 0, .slice none 0 0]) ?_ 0 _ rfl; (with_reducible repeat (first | refine zB ?_ _ | refine zD ?_ | refine zC ?_ _)); exact BK158.out) Tryd.underlying33 rfl (by kernel_rfl)) rfl ?_
  exact ⟨_, _, apE, by (with_reducible repeat (first | apply Kd.V_alloc | apply Kd.V_drewN | apply Kd.V_drew)); exact Kd.V_mono (Kd.V_far (p := ⟨gb158, 5, none⟩) (Kd.V_far (p := ⟨gb158, 4, none⟩) (Kd.V_far (p := ⟨gb158, 3, none⟩) (Kd.V_far (p := ⟨gb158, 2, none⟩) (Kd.V_far (p := ⟨gb158, 1, none⟩) (Kd.V_far (p := ⟨gb158, 0, none⟩) (Kd.V_mono HO0_4.out (fun k_ hk => (⟨hk, hk.2⟩ : _ ∧ k_ ≠ gb158))) (fun _ hk => hk.2) (.int .i64 a0_0)) (fun _ hk => hk.2) (.int .i64 a0_1)) (fun _ hk => hk.2) (.int .i64 a0_2)) (fun _ hk => hk.2) (.string a0_3)) (fun _ hk => hk.2) (.slice A0_4 l0_4.length c0_4)) (fun _ hk => hk.2) (.slice Ao7 l0_5.length co7)) (fun _ hk => ⟨hk.1.1.1.1.1, hk.1.1.1.1.2⟩), by (with_reducible repeat (first | apply Kd.R_alloc | apply Kd.R_drewN | apply Kd.R_drew)); exact Kd.R_mono (Kd.R_far (p := ⟨gb158, 5, none⟩) (Kd.R_far (p := ⟨gb158, 4, none⟩) (Kd.R_far (p := ⟨gb158, 3, none⟩) (Kd.R_far (p := ⟨gb158, 2, none⟩) (Kd.R_far (p := ⟨gb158, 1, none⟩) (Kd.R_far (p := ⟨gb158, 0, none⟩) (Kd.R_types HO0_5.out BK158.out (by decide)) (fun _ hk => hk.2) (.int .i64 a0_0)) (fun _ hk => hk.2) (.int .i64 a0_1)) (fun _ hk => hk.2) (.int .i64 a0_2)) (fun _ hk => hk.2) (.string a0_3)) (fun _ hk => hk.2) (.slice A0_4 l0_4.length c0_4)) (fun _ hk => hk.2) (.slice Ao7 l0_5.length co7)) (fun _ hk => hk.1), apo, apn⟩
 ·replace c6 := Bool.eq_false_iff.mpr c6
  subst c6
  have H1 : (spec_l7Into.l0 k a1 a3 0 a0_0 a0_1 a0_2 a0_3 l0_4 l0_5 a2_0 a2_1 a2_2 a2_3 l2_4 l2_5) = some (r1, r2, r3, r4, r5, r6, r7) := by rw [if_neg (show ¬ (false = true) by decide)] at H; exact H
  clear H
  have H := H1
  clear H1
  have HC19 := zA H
  clear H
  obtain ⟨Ao20, co20, eo20⟩ := Kd.R_slice HO0_5.out
  subst eo20
  go_enter Tryd.func58, Tryd.ntmps58
  go_upto_block 0 with (first | ((with_reducible refine zT (N := 4) rfl ?_); refine zW ?hg (N := 4) ?hd (cs := #[.int .i64 a0_0, .int .i64 a0_1, .int .i64 a0_2, .string a0_3, .slice A0_4 l0_4.length c0_4, .slice Ao20 l0_5.length co20]) (t := 33) ?hr ?_; (case hd => rfl); (case hg => rfl); (case hr => first | (go_simp; done) | (go_simp; rfl)); intro gb156 hg w21 hbox hb; replace HO0_5 := zA (Kd.R_below (vwR HO0_5.out) hb); replace HO0_4 := zA (Kd.V_below (Kd.V_elderB (vwV HO0_4.out) gb156 (Nat.le_of_eq hg.symm)) hb); replace HO2_4 := zA (Kd.V_below (Kd.V_elderB (vwV HO2_4.out) gb156 (Nat.le_of_eq hg.symm)) hb); replace HO2_5 := zA (Kd.V_below (Kd.V_elderB (vwV HO2_5.out) gb156 (Nat.le_of_eq hg.symm)) hb); have BK156 := zA (hbox); have GW156 := zA ((by rw [hg]; exact (by first | exact HK.out.1 | exact (show Kept w _ (fun k_ => P0_5_ k_) from by repeat (first | (with_reducible first | exact HK.out | apply Kept.alloc | apply Kept.drewN | apply Kept.drew) | exact HK.out)).1) : w.heap.size ≤ gb156)); replace HK := zA (Kept.below (S := (fun k_ => P0_5_ k_)) (by repeat (first | (with_reducible first | exact HK.out | apply Kept.alloc | apply Kept.drewN | apply Kept.drew) | exact HK.out)) hb); have GE156 := zA ((by rw [hg]; exact (zR apA) : w0.heap.size ≤ gb156)); replace HB := zA (zQ apA hb); clear hb hbox hg) | ((with_reducible refine zT (N := 6) rfl ?_); refine zW ?hg (N := 6) ?hd (cs := #[.int .i64 a2_0, .int .i64 a2_1, .int .i64 a2_2, .string a2_3, .slice A2_4 l2_4.length c2_4, .slice A2_5 l2_5.length c2_5]) (t := 33) ?hr ?_; (case hd => rfl); (case hg => rfl); (case hr => first | (go_simp; done) | (go_simp; rfl)); intro gb157 hg w22 hbox hb; replace HO0_5 := zA (Kd.R_below (vwR HO0_5.out) hb); replace HO0_4 := zA (Kd.V_below (Kd.V_elderB (vwV HO0_4.out) gb157 (Nat.le_of_eq hg.symm)) hb); replace HO2_4 := zA (Kd.V_below (Kd.V_elderB (vwV HO2_4.out) gb157 (Nat.le_of_eq hg.symm)) hb); replace HO2_5 := zA (Kd.V_below (Kd.V_elderB (vwV HO2_5.out) gb157 (Nat.le_of_eq hg.symm)) hb); have BK157 := zA (hbox); have GW157 := zA ((by rw [hg]; exact (by first | exact HK.out.1 | exact (show Kept w _ (fun k_ => P0_5_ k_) from by repeat (first | (with_reducible first | exact HK.out | apply Kept.alloc | apply Kept.drewN | apply Kept.drew | refine Kept.setCell ?_ (.inr GW156.out) _) | exact HK.out)).1) : w.heap.size ≤ gb157)); replace HK := zA (Kept.below (S := (fun k_ => P0_5_ k_)) (by repeat (first | (with_reducible first | exact HK.out | apply Kept.alloc | apply Kept.drewN | apply Kept.drew | refine Kept.setCell ?_ (.inr GW156.out) _) | exact HK.out)) hb); have GE157 := zA ((by rw [hg]; exact (zR (by repeat (first | (with_reducible first | exact HB.out | apply zG | apply zE | apply zF | refine zH ?_ GE156.out) | exact HB.out))) : w0.heap.size ≤ gb157)); replace HB := zA (zQ (by repeat (first | (with_reducible first | exact HB.out | apply zG | apply zE | apply zF | refine zH ?_ GE156.out) | exact HB.out)) hb); have NB156_157 := zA ((by rw [hg]; exact Nat.ne_of_lt (blk_lt (g := gb156) (o := .cells #[.int .i64 a0_0, .int .i64 a0_1, .int .i64 a0_2, .string a0_3, .slice A0_4 l0_4.length c0_4, .slice Ao20 l0_5.length co20] 33 (0, 0)) apG) : gb156 ≠ gb157)); have NB157_156 := zA ((by rw [hg]; exact Nat.ne_of_gt (blk_lt (g := gb156) (o := .cells #[.int .i64 a0_0, .int .i64 a0_1, .int .i64 a0_2, .string a0_3, .slice A0_4 l0_4.length c0_4, .slice Ao20 l0_5.length co20] 33 (0, 0)) apG) : gb157 ≠ gb156)); replace BK156 := zA (zP (g := gb156) (o := .cells #[.int .i64 a0_0, .int .i64 a0_1, .int .i64 a0_2, .string a0_3, .slice A0_4 l0_4.length c0_4, .slice Ao20 l0_5.length co20] 33 (0, 0)) apG hb); clear hb hbox hg) | ((with_reducible refine zT (N := 8) rfl ?_); refine zW ?hg (N := 8) ?hd (cs := #[.int .i64 0, .int .i64 0, .int .i64 0, .string (⟨#[]⟩ : ByteArray), .slice none 0 0, .slice none 0 0]) (t := 33) ?hr ?_; (case hd => rfl); (case hg => rfl); (case hr => first | (go_simp; done) | (go_simp; rfl)); intro gb158 hg w23 hbox hb; replace HO0_5 := zA (Kd.R_below (vwR HO0_5.out) hb); replace HO0_4 := zA (Kd.V_below (Kd.V_elderB (vwV HO0_4.out) gb158 (Nat.le_of_eq hg.symm)) hb); replace HO2_4 := zA (Kd.V_below (Kd.V_elderB (vwV HO2_4.out) gb158 (Nat.le_of_eq hg.symm)) hb); replace HO2_5 := zA (Kd.V_below (Kd.V_elderB (vwV HO2_5.out) gb158 (Nat.le_of_eq hg.symm)) hb); have BK158 := zA (hbox); have GW158 := zA ((by rw [hg]; exact (by first | exact HK.out.1 | exact (show Kept w _ (fun k_ => P0_5_ k_) from by repeat (first | (with_reducible first | exact HK.out | apply Kept.alloc | apply Kept.drewN | apply Kept.drew | refine Kept.setCell ?_ (.inr GW156.out) _ | refine Kept.setCell ?_ (.inr GW157.out) _) | exact HK.out)).1) : w.heap.size ≤ gb158)); replace HK := zA (Kept.below (S := (fun k_ => P0_5_ k_)) (by repeat (first | (with_reducible first | exact HK.out | apply Kept.alloc | apply Kept.drewN | apply Kept.drew | refine Kept.setCell ?_ (.inr GW156.out) _ | refine Kept.setCell ?_ (.inr GW157.out) _) | exact HK.out)) hb); have GE158 := zA ((by rw [hg]; exact (zR (by repeat (first | (with_reducible first | exact HB.out | apply zG | apply zE | apply zF | refine zH ?_ GE156.out | refine zH ?_ GE157.out) | exact HB.out))) : w0.heap.size ≤ gb158)); replace HB := zA (zQ (by repeat (first | (with_reducible first | exact HB.out | apply zG | apply zE | apply zF | refine zH ?_ GE156.out | refine zH ?_ GE157.out) | exact HB.out)) hb); have NB156_158 := zA ((by rw [hg]; exact Nat.ne_of_lt (blk_lt (g := gb156) (o := .cells #[.int .i64 a0_0, .int .i64 a0_1, .int .i64 a0_2, .string a0_3, .slice A0_4 l0_4.length c0_4, .slice Ao20 l0_5.length co20] 33 (0, 0)) apG) : gb156 ≠ gb158)); have NB158_156 := zA ((by rw [hg]; exact Nat.ne_of_gt (blk_lt (g := gb156) (o := .cells #[.int .i64 a0_0, .int .i64 a0_1, .int .i64 a0_2, .string a0_3, .slice A0_4 l0_4.length c0_4, .slice Ao20 l0_5.length co20] 33 (0, 0)) apG) : gb158 ≠ gb156)); replace BK156 := zA (zP (g := gb156) (o := .cells #[.int .i64 a0_0, .int .i64 a0_1, .int .i64 a0_2, .string a0_3, .slice A0_4 l0_4.length c0_4, .slice Ao20 l0_5.length co20] 33 (0, 0)) apG hb); have NB157_158 := zA ((by rw [hg]; exact Nat.ne_of_lt (blk_lt (g := gb157) (o := .cells #[.int .i64 a2_0, .int .i64 a2_1, .int .i64 a2_2, .string a2_3, .slice A2_4 l2_4.length c2_4, .slice A2_5 l2_5.length c2_5] 33 (0, 0)) apI) : gb157 ≠ gb158)); have NB158_157 := zA ((by rw [hg]; exact Nat.ne_of_gt (blk_lt (g := gb157) (o := .cells #[.int .i64 a2_0, .int .i64 a2_1, .int .i64 a2_2, .string a2_3, .slice A2_4 l2_4.length c2_4, .slice A2_5 l2_5.length c2_5] 33 (0, 0)) apI) : gb158 ≠ gb157)); replace BK157 := zA (zP (g := gb157) (o := .cells #[.int .i64 a2_0, .int .i64 a2_1, .int .i64 a2_2, .string a2_3, .slice A2_4 l2_4.length c2_4, .slice A2_5 l2_5.length c2_5] 33 (0, 0)) apI hb); clear hb hbox hg; have hnb24 := NB156_157.out; have hnc24 := NB157_156.out; have hnb25 := NB156_158.out; have hnc25 := NB158_156.out; obtain ⟨hcz26_0, hcz26_1, hcz26_2, hcz26_3, hcz26_4, hcz26_5, hfz26_0, hfz26_1, hfz26_2, hfz26_3, hfz26_4, hfz26_5⟩ := zb6 BK156.out) | ((with_reducible refine zV (f := 71) rfl ?_); refine goesL_ (some 15) rfl rfl Tryd.func71 (by kernel_rfl) rfl #[.slice Ao20 l0_5.length co20, .string a1] rfl apD ?_; (with_reducible refine (spec_l2Has.calls k _ _ l0_5 a1 false _ ?side1 ?side2 A5.out).mono ?_); (case side1 => exact vc (Kd.R_reads' HO0_5.out).2.2); (case side2 => exact (Kd.R_reads' HO0_5.out).2.1); rintro e w' ⟨rfl, ⟨nd, rfl⟩⟩; refine ⟨_, rfl, ?_⟩))
  (try simp only [Act.put, zL, zM, zN])
  go_cut [10] (fun v10 wc => ∃ (kq : Nat) (x10_18 : Int), v10 = .int .i64 x10_18 ∧ Aside0 (spec_l7Into.j1 kq a1 a3 x10_18 a0_0 a0_1 a0_2 a0_3 l0_4 l0_5 a2_0 a2_1 a2_2 a2_3 l2_4 l2_5 = some (r1, r2, r3, r4, r5, r6, r7)) ∧ Aside0 (kq ≤ k) ∧ Aside0 (Kd.V k33 33 wc w0.heap.size (fun k_ => ((P0_5_ k_ ∨ P0_4_ k_ ∨ P2_4_ k_ ∨ P2_5_ k_) ∨ w.heap.size ≤ k_) ∧ some k_ ≠ ((.slice Ao20 l0_5.length co20) : Value).ownBlock ∧ k_ ≠ gb156 ∧ k_ ≠ gb157 ∧ k_ ≠ gb158) (.slice A0_4 l0_4.length c0_4) l0_4) ∧ Aside0 (Kd.R Kd.string 9 wc w0.heap.size (fun k_ => (P0_5_ k_ ∨ w.heap.size ≤ k_)) (.slice Ao20 l0_5.length co20) l0_5) ∧ Aside0 (Kd.V k33 33 wc w0.heap.size (fun k_ => ((P0_5_ k_ ∨ P0_4_ k_ ∨ P2_4_ k_ ∨ P2_5_ k_) ∨ w.heap.size ≤ k_) ∧ some k_ ≠ ((.slice Ao20 l0_5.length co20) : Value).ownBlock ∧ k_ ≠ gb156 ∧ k_ ≠ gb157 ∧ k_ ≠ gb158) (.slice A2_4 l2_4.length c2_4) l2_4) ∧ Aside0 (Kd.V Kd.string 9 wc w0.heap.size (fun k_ => ((P0_5_ k_ ∨ P0_4_ k_ ∨ P2_4_ k_ ∨ P2_5_ k_) ∨ w.heap.size ≤ k_) ∧ some k_ ≠ ((.slice Ao20 l0_5.length co20) : Value).ownBlock ∧ k_ ≠ gb156 ∧ k_ ≠ gb157 ∧ k_ ≠ gb158) (.slice A2_5 l2_5.length c2_5) l2_5) ∧ Aside0 (wc.heap[gb156]? = some (.cells #[.int .i64 a0_0, .int .i64 a0_1, .int .i64 a0_2, .string a0_3, (.slice A0_4 l0_4.length c0_4), (.slice Ao20 l0_5.length co20)] 33 (0, 0))) ∧ Aside0 (wc.heap[gb157]? = some (.cells #[.int .i64 a2_0, .int .i64 a2_1, .int .i64 a2_2, .string a2_3, (.slice A2_4 l2_4.length c2_4), (.slice A2_5 l2_5.length c2_5)] 33 (0, 0))) ∧ Aside0 (wc.heap[gb158]? = some (.cells #[.int .i64 0, .int .i64 0, .int .i64 0, .string (⟨#[]⟩ : ByteArray), (.slice none 0 0), (.slice none 0 0)] 33 (0, 0))) ∧ Aside0 (Kept w wc (fun k_ => P0_5_ k_)) ∧ Aside0 (Below w0.heap.size w0 wc))
  case first =>
   have H := HC19.out
   clear HC19
   have H' := zA H
   clear H
   go_wp2
   go_loopg [10] k (fun kq v10 w' => ∃ (x10_1 : Int), v10 = .int .i64 x10_1 ∧ Aside0 (spec_l7Into.l0 kq a1 a3 x10_1 a0_0 a0_1 a0_2 a0_3 l0_4 l0_5 a2_0 a2_1 a2_2 a2_3 l2_4 l2_5 = some (r1, r2, r3, r4, r5, r6, r7)) ∧ Aside0 (kq ≤ k) ∧ Aside0 (Kd.V k33 33 w' w0.heap.size (fun k_ => ((P0_5_ k_ ∨ P0_4_ k_ ∨ P2_4_ k_ ∨ P2_5_ k_) ∨ w.heap.size ≤ k_) ∧ some k_ ≠ ((.slice Ao20 l0_5.length co20) : Value).ownBlock ∧ k_ ≠ gb156 ∧ k_ ≠ gb157 ∧ k_ ≠ gb158) (.slice A0_4 l0_4.length c0_4) l0_4) ∧ Aside0 (Kd.R Kd.string 9 w' w0.heap.size (fun k_ => (P0_5_ k_ ∨ w.heap.size ≤ k_)) (.slice Ao20 l0_5.length co20) l0_5) ∧ Aside0 (Kd.V k33 33 w' w0.heap.size (fun k_ => ((P0_5_ k_ ∨ P0_4_ k_ ∨ P2_4_ k_ ∨ P2_5_ k_) ∨ w.heap.size ≤ k_) ∧ some k_ ≠ ((.slice Ao20 l0_5.length co20) : Value).ownBlock ∧ k_ ≠ gb156 ∧ k_ ≠ gb157 ∧ k_ ≠ gb158) (.slice A2_4 l2_4.length c2_4) l2_4) ∧ Aside0 (Kd.V Kd.string 9 w' w0.heap.size (fun k_ => ((P0_5_ k_ ∨ P0_4_ k_ ∨ P2_4_ k_ ∨ P2_5_ k_) ∨ w.heap.size ≤ k_) ∧ some k_ ≠ ((.slice Ao20 l0_5.length co20) : Value).ownBlock ∧ k_ ≠ gb156 ∧ k_ ≠ gb157 ∧ k_ ≠ gb158) (.slice A2_5 l2_5.length c2_5) l2_5) ∧ Aside0 (w'.heap[gb156]? = some (.cells #[.int .i64 a0_0, .int .i64 a0_1, .int .i64 a0_2, .string a0_3, (.slice A0_4 l0_4.length c0_4), (.slice Ao20 l0_5.length co20)] 33 (0, 0))) ∧ Aside0 (w'.heap[gb157]? = some (.cells #[.int .i64 a2_0, .int .i64 a2_1, .int .i64 a2_2, .string a2_3, (.slice A2_4 l2_4.length c2_4), (.slice A2_5 l2_5.length c2_5)] 33 (0, 0))) ∧ Aside0 (w'.heap[gb158]? = some (.cells #[.int .i64 0, .int .i64 0, .int .i64 0, .string (⟨#[]⟩ : ByteArray), (.slice none 0 0), (.slice none 0 0)] 33 (0, 0))) ∧ Aside0 (Kept w w' (fun k_ => P0_5_ k_)) ∧ Aside0 (Below w0.heap.size w0 w'))
   case atStart => exact ⟨(0), apB, H', ⟨yH _⟩, ⟨by (with_reducible repeat (first | apply Kd.V_alloc | apply Kd.V_drewN | apply Kd.V_drew)); exact Kd.V_mono HO0_4.out (fun _ hk => ⟨hk.1.1.1.1, ⟨hk.1.1.1.2, ⟨hk.1.1.2, ⟨hk.1.2, hk.2⟩⟩⟩⟩)⟩, ⟨vwR HO0_5.out⟩, ⟨by (with_reducible repeat (first | apply Kd.V_alloc | apply Kd.V_drewN | apply Kd.V_drew)); exact Kd.V_mono HO2_4.out (fun _ hk => ⟨hk.1.1.1.1, ⟨hk.1.1.1.2, ⟨hk.1.1.2, ⟨hk.1.2, hk.2⟩⟩⟩⟩)⟩, ⟨by (with_reducible repeat (first | apply Kd.V_alloc | apply Kd.V_drewN | apply Kd.V_drew)); exact Kd.V_mono HO2_5.out (fun _ hk => ⟨hk.1.1.1.1, ⟨hk.1.1.1.2, ⟨hk.1.1.2, ⟨hk.1.2, hk.2⟩⟩⟩⟩)⟩, ⟨apG⟩, ⟨apI⟩, ⟨apK⟩, ⟨apn⟩, ⟨apo⟩⟩
   case round =>
    clear H'
    try clear c1 c2 p2 c5 c6 c7 c11 c12 c17 c24 c25 hcz13_0 hcz13_1 hcz13_2 hcz13_3 hcz13_4 hcz13_5 hcz18_0 hcz18_1 hcz18_2 hcz18_3 hcz18_4 hcz18_5 hcz26_0 hcz26_1 hcz26_2 hcz26_3 hcz26_4 hcz26_5 hfz13_0 hfz13_1 hfz13_2 hfz13_3 hfz13_4 hfz13_5 hfz18_0 hfz18_1 hfz18_2 hfz18_3 hfz18_4 hfz18_5 hfz26_0 hfz26_1 hfz26_2 hfz26_3 hfz26_4 hfz26_5
    obtain ⟨x10_1, rfl, HA, HK1, HO_157004, HO_157005, HO_158004, HO_158005, BK156, BK157, BK158, HK, HB⟩ := hrel
    cases gk with
    | zero => exact absurd HA.out (by simp [spec_l7Into.l0])
    | succ k1 =>
     have H := HA.out
     clear HA
     simp only [spec_l7Into.l0] at H
     by_cases c27 : x10_1 < (l0_5.length : Int)
     ·rw [if_pos c27] at H
      have c27b0 : decide (x10_1 < (l0_5.length : Int)) = true := yD c27
      clear c27
      (first | rw [c27b0] | (simp only [i64_w, i32_w]; rw [c27b0]) | skip)
      by_cases c28 : 0 ≤ x10_1
      ·rw [if_pos c28] at H
       have c28b0 : decide (0 ≤ x10_1) = true := yD c28
       clear c28
       by_cases c29 : (Op.bytesLess ((rdOf ByteArray.empty l0_5 x10_1).toList) a1.toList) = true
       ·rw [if_pos c29] at H
        have c29b0 : (Op.bytesLess ((rdOf ByteArray.empty l0_5 x10_1).toList) a1.toList) = true := c29
        clear c29
        have H' := zA H
        clear H
        have hnb30 := NB156_157.out
        have hnc30 := NB157_156.out
        have hnb31 := NB156_158.out
        have hnc31 := NB158_156.out
        obtain ⟨hcz32_0, hcz32_1, hcz32_2, hcz32_3, hcz32_4, hcz32_5, hfz32_0, hfz32_1, hfz32_2, hfz32_3, hfz32_4, hfz32_5⟩ := zb6 BK156.out
        have p160 : 0 ≤ (x10_1 : Int) := yE apC
        have q160 : x10_1 < (l0_5.length : Int) := yE apC
        obtain ⟨ad160, e160, hx160_0⟩ := Kd.at_string (Kd.R_reads' HO_157005.out).2.2 x10_1 p160 q160
        cases e160
        replace p160 := eq_true p160
        replace q160 := eq_true q160
        go_wp2
        go_roundg k1
        case measure => have := HK1.out; omega
        case rel => exact ⟨(wrap64 (x10_1 + 1)), apB, H', ⟨by have := HK1.out; omega⟩, ⟨vwV HO_157004.out⟩, ⟨vwR HO_157005.out⟩, ⟨vwV HO_158004.out⟩, ⟨vwV HO_158005.out⟩, ⟨apG⟩, ⟨apI⟩, ⟨apK⟩, ⟨apn⟩, ⟨apo⟩⟩
       ·rw [if_neg c29] at H
        have c29b0 : (Op.bytesLess ((rdOf ByteArray.empty l0_5 x10_1).toList) a1.toList) = false := by simpa using c29
        clear c29
        have H' := zA H
        clear H
        have hnb33 := NB156_157.out
        have hnc33 := NB157_156.out
        have hnb34 := NB156_158.out
        have hnc34 := NB158_156.out
        obtain ⟨hcz35_0, hcz35_1, hcz35_2, hcz35_3, hcz35_4, hcz35_5, hfz35_0, hfz35_1, hfz35_2, hfz35_3, hfz35_4, hfz35_5⟩ := zb6 BK156.out
        have p160 : 0 ≤ (x10_1 : Int) := yE apC
        have q160 : x10_1 < (l0_5.length : Int) := yE apC
        obtain ⟨ad160, e160, hx160_0⟩ := Kd.at_string (Kd.R_reads' HO_157005.out).2.2 x10_1 p160 q160
        cases e160
        replace p160 := eq_true p160
        replace q160 := eq_true q160
        go_wp2
        go_meet
        case rel => exact ⟨_, (x10_1), apB, H', ⟨by have := HK1.out; first | omega | exact yH _⟩, ⟨vwV HO_157004.out⟩, ⟨vwR HO_157005.out⟩, ⟨vwV HO_158004.out⟩, ⟨vwV HO_158005.out⟩, ⟨apG⟩, ⟨apI⟩, ⟨apK⟩, ⟨apn⟩, ⟨apo⟩⟩
      ·rw [if_neg c28] at H
       exact absurd H (by simp)
     ·rw [if_neg c27] at H
      have c27b0 : decide (x10_1 < (l0_5.length : Int)) = false := decide_eq_false c27
      clear c27
      (first | rw [c27b0] | (simp only [i64_w, i32_w]; rw [c27b0]) | skip)
      have H' := zA H
      clear H
      have hnb36 := NB156_157.out
      have hnc36 := NB157_156.out
      have hnb37 := NB156_158.out
      have hnc37 := NB158_156.out
      obtain ⟨hcz38_0, hcz38_1, hcz38_2, hcz38_3, hcz38_4, hcz38_5, hfz38_0, hfz38_1, hfz38_2, hfz38_3, hfz38_4, hfz38_5⟩ := zb6 BK156.out
      go_wp2
      go_meet
      case rel => exact ⟨_, (x10_1), apB, H', ⟨by have := HK1.out; first | omega | exact yH _⟩, ⟨vwV HO_157004.out⟩, ⟨vwR HO_157005.out⟩, ⟨vwV HO_158004.out⟩, ⟨vwV HO_158005.out⟩, ⟨apG⟩, ⟨apI⟩, ⟨apK⟩, ⟨apn⟩, ⟨apo⟩⟩
  case rest =>
   clear HC19
   try clear c1 p1 q1 hx1 c2 p2 c3 c5 c6 p6 c7 c11 c12 p16 q16 hx16 c17 c24 c25 c27 c27b0 c28 c28b0 c29 c29b0 c30 c31 c33 c34 c36 c37 hcz13_0 hcz13_1 hcz13_2 hcz13_3 hcz13_4 hcz13_5 hcz18_0 hcz18_1 hcz18_2 hcz18_3 hcz18_4 hcz18_5 hcz26_0 hcz26_1 hcz26_2 hcz26_3 hcz26_4 hcz26_5 hcz32_0 hcz32_1 hcz32_2 hcz32_3 hcz32_4 hcz32_5 hcz35_0 hcz35_1 hcz35_2 hcz35_3 hcz35_4 hcz35_5 hcz38_0 hcz38_1 hcz38_2 hcz38_3 hcz38_4 hcz38_5 hfz13_0 hfz13_1 hfz13_2 hfz13_3 hfz13_4 hfz13_5 hfz18_0 hfz18_1 hfz18_2 hfz18_3 hfz18_4 hfz18_5 hfz26_0 hfz26_1 hfz26_2 hfz26_3 hfz26_4 hfz26_5 hfz32_0 hfz32_1 hfz32_2 hfz32_3 hfz32_4 hfz32_5 hfz35_0 hfz35_1 hfz35_2 hfz35_3 hfz35_4 hfz35_5 hfz38_0 hfz38_1 hfz38_2 hfz38_3 hfz38_4 hfz38_5 hx160_0 p160 p2 q160
   obtain ⟨kq, x10_18, rfl, HA, HJ18, HO_157004, HO_157005, HO_158004, HO_158005, BK156, BK157, BK158, HK, HB⟩ := hcut
   cases kq with
   | zero => exact absurd HA.out (by simp [spec_l7Into.j1])
   | succ kj18 =>
    have H := HA.out
    clear HA
    simp only [spec_l7Into.j1] at H
    first | (replace H := Option.bind_eq_some_iff.mp H; obtain ⟨y162, hy162, H⟩ := H; replace hy162 : y162 = (([] : List ByteArray)) := (yF hy162).symm) | (obtain ⟨y162, hy162⟩ : ∃ y_ : List ByteArray, y_ = (([] : List ByteArray)) := ⟨_, rfl⟩; rw [← hy162] at H)
    have Ny162 := zA hy162
    clear hy162
    by_cases c39 : 0 ≤ x10_18
    ·rw [if_pos c39] at H
     have c39b0 := eq_true c39
     have c39b1 : decide (0 ≤ x10_18) = true := yD c39
     clear c39
     by_cases c40 : x10_18 ≤ (l0_5.length : Int)
     ·rw [if_pos c40] at H
      have c40b0 := eq_true c40
      have c40b1 : decide (x10_18 ≤ (l0_5.length : Int)) = true := yD c40
      clear c40
      first | (replace H := Option.bind_eq_some_iff.mp H; obtain ⟨y165, hy165, H⟩ := H; replace hy165 : y165 = (l0_5.take (x10_18 : Int).toNat) := (yF hy165).symm) | (obtain ⟨y165, hy165⟩ : ∃ y_ : List ByteArray, y_ = (l0_5.take (x10_18 : Int).toNat) := ⟨_, rfl⟩; rw [← hy165] at H)
      have Ny165 := zA hy165
      clear hy165
      by_cases c41 : y162.length + y165.length < 8796093022208
      ·rw [if_pos c41] at H
       have LMc41 := zA c41
       clear c41
       first | (replace H := Option.bind_eq_some_iff.mp H; obtain ⟨y170, hy170, H⟩ := H; replace hy170 : y170 = (y162 ++ y165) := (yF hy170).symm) | (obtain ⟨y170, hy170⟩ : ∃ y_ : List ByteArray, y_ = (y162 ++ y165) := ⟨_, rfl⟩; rw [← hy170] at H)
       have Ny170 := zA hy170
       clear hy170
       first | (replace H := Option.bind_eq_some_iff.mp H; obtain ⟨y173, hy173, H⟩ := H; replace hy173 : y173 = (([a1] : List ByteArray)) := (yF hy173).symm) | (obtain ⟨y173, hy173⟩ : ∃ y_ : List ByteArray, y_ = (([a1] : List ByteArray)) := ⟨_, rfl⟩; rw [← hy173] at H)
       have Ny173 := zA hy173
       clear hy173
       by_cases c42 : y170.length + y173.length < 8796093022208
       ·rw [if_pos c42] at H
        have LMc42 := zA c42
        clear c42
        first | (replace H := Option.bind_eq_some_iff.mp H; obtain ⟨y176, hy176, H⟩ := H; replace hy176 : y176 = (y170 ++ y173) := (yF hy176).symm) | (obtain ⟨y176, hy176⟩ : ∃ y_ : List ByteArray, y_ = (y170 ++ y173) := ⟨_, rfl⟩; rw [← hy176] at H)
        have Ny176 := zA hy176
        clear hy176
        have c43b0 := eq_true (yE apC : 0 ≤ x10_18)
        have c44b0 := eq_true (yE apC : x10_18 ≤ (l0_5.length : Int))
        first | (replace H := Option.bind_eq_some_iff.mp H; obtain ⟨y179, hy179, H⟩ := H; replace hy179 : y179 = (l0_5.drop (x10_18 : Int).toNat) := (yF hy179).symm) | (obtain ⟨y179, hy179⟩ : ∃ y_ : List ByteArray, y_ = (l0_5.drop (x10_18 : Int).toNat) := ⟨_, rfl⟩; rw [← hy179] at H)
        have Ny179 := zA hy179
        clear hy179
        by_cases c45 : y176.length + y179.length < 8796093022208
        ·rw [if_pos c45] at H
         have LMc45 := zA c45
         clear c45
         first | (replace H := Option.bind_eq_some_iff.mp H; obtain ⟨y184, hy184, H⟩ := H; replace hy184 : y184 = (y176 ++ y179) := (yF hy184).symm) | (obtain ⟨y184, hy184⟩ : ∃ y_ : List ByteArray, y_ = (y176 ++ y179) := ⟨_, rfl⟩; rw [← hy184] at H)
         have Ny184 := zA hy184
         clear hy184
         first | (replace H := Option.bind_eq_some_iff.mp H; obtain ⟨y187, hy187, H⟩ := H; replace hy187 : y187 = (([] : List (S33))) := (yF hy187).symm) | (obtain ⟨y187, hy187⟩ : ∃ y_ : List (S33), y_ = (([] : List (S33))) := ⟨_, rfl⟩; rw [← hy187] at H)
         have Ny187 := zA hy187
         clear hy187
         have c46b0 := eq_true (yE apC : 0 ≤ x10_18)
         by_cases c47 : x10_18 ≤ (l0_4.length : Int)
         ·rw [if_pos c47] at H
          have c47b0 := eq_true c47
          have c47b1 : decide (x10_18 ≤ (l0_4.length : Int)) = true := yD c47
          clear c47
          first | (replace H := Option.bind_eq_some_iff.mp H; obtain ⟨y190, hy190, H⟩ := H; replace hy190 : y190 = (l0_4.take (x10_18 : Int).toNat) := (yF hy190).symm) | (obtain ⟨y190, hy190⟩ : ∃ y_ : List (S33), y_ = (l0_4.take (x10_18 : Int).toNat) := ⟨_, rfl⟩; rw [← hy190] at H)
          have Ny190 := zA hy190
          clear hy190
          by_cases c48 : y187.length + y190.length < 1599289640401
          ·rw [if_pos c48] at H
           have LMc48 := zA c48
           clear c48
           first | (replace H := Option.bind_eq_some_iff.mp H; obtain ⟨y195, hy195, H⟩ := H; replace hy195 : y195 = (y187 ++ y190) := (yF hy195).symm) | (obtain ⟨y195, hy195⟩ : ∃ y_ : List (S33), y_ = (y187 ++ y190) := ⟨_, rfl⟩; rw [← hy195] at H)
           have Ny195 := zA hy195
           clear hy195
           first | (replace H := Option.bind_eq_some_iff.mp H; obtain ⟨y198, hy198, H⟩ := H; replace hy198 : y198 = (([(⟨a2_0, (⟨a2_1, a2_2⟩ : S30), a2_3, l2_4, l2_5⟩ : S33)] : List (S33))) := (yF hy198).symm) | (obtain ⟨y198, hy198⟩ : ∃ y_ : List (S33), y_ = (([(⟨a2_0, (⟨a2_1, a2_2⟩ : S30), a2_3, l2_4, l2_5⟩ : S33)] : List (S33))) := ⟨_, rfl⟩; rw [← hy198] at H)
           have Ny198 := zA hy198
           clear hy198
           by_cases c49 : y195.length + y198.length < 1599289640401
           ·rw [if_pos c49] at H
            have LMc49 := zA c49
            clear c49
            obtain ⟨y201, hy201⟩ : ∃ y_ : List (S33), y_ = (y195 ++ y198) := ⟨_, rfl⟩
            replace H : ((some (l0_4.drop (x10_18 : Int).toNat : List (S33))).bind fun y204 => (if y201.length + y204.length < 1599289640401 then (some (6, 0, 0, (⟨#[]⟩ : ByteArray), (y201 ++ y204), y184, a3)) else (none))) = some (r1, r2, r3, r4, r5, r6, r7) := by first | (rw [hy201]; with_reducible exact H) | (have H2_ := (Option.bind_some _ _).symm.trans H; rw [hy201]; with_reducible exact H2_) | (have H2_ := (Option.bind_some _ _).symm.trans H; with_reducible exact H2_) | with_reducible exact H | (rw [hy201]; exact H) | exact H
            have Ny201 := zA hy201
            clear hy201
            have c50b0 := eq_true (yE apC : 0 ≤ x10_18)
            have c51b0 := eq_true (yE apC : x10_18 ≤ (l0_4.length : Int))
            obtain ⟨y204, hy204⟩ : ∃ y_ : List (S33), y_ = (l0_4.drop (x10_18 : Int).toNat) := ⟨_, rfl⟩
            replace H : (if y201.length + y204.length < 1599289640401 then (some (6, 0, 0, (⟨#[]⟩ : ByteArray), (y201 ++ y204), y184, a3)) else (none)) = some (r1, r2, r3, r4, r5, r6, r7) := by first | (rw [hy204]; with_reducible exact H) | (have H2_ := (Option.bind_some _ _).symm.trans H; rw [hy204]; with_reducible exact H2_) | (have H2_ := (Option.bind_some _ _).symm.trans H; with_reducible exact H2_) | with_reducible exact H | (rw [hy204]; exact H) | exact H
            have Ny204 := zA hy204
            clear hy204
            by_cases c52 : y201.length + y204.length < 1599289640401
            ·rw [if_pos c52] at H
             have LMc52 := zA c52
             clear c52
             obtain ⟨y209, hy209⟩ : ∃ y_ : List (S33), y_ = (y201 ++ y204) := ⟨_, rfl⟩
             replace H : (some (6, 0, 0, (⟨#[]⟩ : ByteArray), y209, y184, a3)) = some (r1, r2, r3, r4, r5, r6, r7) := by first | (rw [hy209]; with_reducible exact H) | (have H2_ := (Option.bind_some _ _).symm.trans H; rw [hy209]; with_reducible exact H2_) | (have H2_ := (Option.bind_some _ _).symm.trans H; with_reducible exact H2_) | with_reducible exact H | (rw [hy209]; exact H) | exact H
             have Ny209 := zA hy209
             clear hy209
             simp only [Option.some.injEq, Prod.mk.injEq] at H
             obtain ⟨rfl, rfl, rfl, rfl, rfl, rfl, rfl⟩ := H
             try go_wp2_with (first | ((with_reducible refine zT (N := 11) rfl ?_); refine zW ?hg (N := 11) ?hd (cs := #[.int .i64 0, .int .i64 0, .int .i64 0, .string (⟨#[]⟩ : ByteArray), .slice none 0 0, .slice none 0 0]) (t := 33) ?hr ?_; (case hd => rfl); (case hg => rfl); (case hr => first | (go_simp; done) | (go_simp; rfl)); intro gb161 hg w53 hbox hb; replace HO_157004 := zA (Kd.V_below (Kd.V_elderB (vwV HO_157004.out) gb161 (Nat.le_of_eq hg.symm)) hb); replace HO_157005 := zA (Kd.R_below (vwR HO_157005.out) hb); replace HO_158004 := zA (Kd.V_below (Kd.V_elderB (vwV HO_158004.out) gb161 (Nat.le_of_eq hg.symm)) hb); replace HO_158005 := zA (Kd.V_below (Kd.V_elderB (vwV HO_158005.out) gb161 (Nat.le_of_eq hg.symm)) hb); have BK161 := zA (hbox); have GW161 := zA ((by rw [hg]; exact (by first | exact HK.out.1 | exact (show Kept w _ (fun k_ => P0_5_ k_) from apn).1) : w.heap.size ≤ gb161)); replace HK := zA (Kept.below (S := (fun k_ => P0_5_ k_)) apn hb); have GE161 := zA ((by rw [hg]; exact (zR apo) : w0.heap.size ≤ gb161)); replace HB := zA (zQ apo hb); have NB156_161 := zA ((by rw [hg]; exact Nat.ne_of_lt (blk_lt (g := gb156) (o := .cells #[.int .i64 a0_0, .int .i64 a0_1, .int .i64 a0_2, .string a0_3, .slice A0_4 l0_4.length c0_4, .slice Ao20 l0_5.length co20] 33 (0, 0)) apG) : gb156 ≠ gb161)); have NB161_156 := zA ((by rw [hg]; exact Nat.ne_of_gt (blk_lt (g := gb156) (o := .cells #[.int .i64 a0_0, .int .i64 a0_1, .int .i64 a0_2, .string a0_3, .slice A0_4 l0_4.length c0_4, .slice Ao20 l0_5.length co20] 33 (0, 0)) apG) : gb161 ≠ gb156)); replace BK156 := zA (zP (g := gb156) (o := .cells #[.int .i64 a0_0, .int .i64 a0_1, .int .i64 a0_2, .string a0_3, .slice A0_4 l0_4.length c0_4, .slice Ao20 l0_5.length co20] 33 (0, 0)) apG hb); have NB157_161 := zA ((by rw [hg]; exact Nat.ne_of_lt (blk_lt (g := gb157) (o := .cells #[.int .i64 a2_0, .int .i64 a2_1, .int .i64 a2_2, .string a2_3, .slice A2_4 l2_4.length c2_4, .slice A2_5 l2_5.length c2_5] 33 (0, 0)) apI) : gb157 ≠ gb161)); have NB161_157 := zA ((by rw [hg]; exact Nat.ne_of_gt (blk_lt (g := gb157) (o := .cells #[.int .i64 a2_0, .int .i64 a2_1, .int .i64 a2_2, .string a2_3, .slice A2_4 l2_4.length c2_4, .slice A2_5 l2_5.length c2_5] 33 (0, 0)) apI) : gb161 ≠ gb157)); replace BK157 := zA (zP (g := gb157) (o := .cells #[.int .i64 a2_0, .int .i64 a2_1, .int .i64 a2_2, .string a2_3, .slice A2_4 l2_4.length c2_4, .slice A2_5 l2_5.length c2_5] 33 (0, 0)) apI hb); have NB158_161 := zA ((by rw [hg]; exact Nat.ne_of_lt (blk_lt (g := gb158) (o := .cells #[.int .i64 0, .int .i64 0, .int .i64 0, .string (⟨#[]⟩ : ByteArray), .slice none 0 0, .slice none 0 0] 33 (0, 0)) apK) : gb158 ≠ gb161)); have NB161_158 := zA ((by rw [hg]; exact Nat.ne_of_gt (blk_lt (g := gb158) (o := .cells #[.int .i64 0, .int .i64 0, .int .i64 0, .string (⟨#[]⟩ : ByteArray), .slice none 0 0, .slice none 0 0] 33 (0, 0)) apK) : gb161 ≠ gb158)); replace BK158 := zA (zP (g := gb158) (o := .cells #[.int .i64 0, .int .i64 0, .int .i64 0, .string (⟨#[]⟩ : ByteArray), .slice none 0 0, .slice none 0 0] 33 (0, 0)) apK hb); clear hb hbox hg; have hnb54 := NB161_156.out; have hnc54 := NB156_161.out; have hnb55 := NB161_157.out; have hnc55 := NB157_161.out; have hnb56 := NB161_158.out; have hnc56 := NB158_161.out; obtain ⟨hcz57_0, hcz57_1, hcz57_2, hcz57_3, hcz57_4, hcz57_5, hfz57_0, hfz57_1, hfz57_2, hfz57_3, hfz57_4, hfz57_5⟩ := zb6 BK161.out))
             have n0_ : Aside0 (Kd.V k33 33 ((((((w53.setCell ⟨gb161, 0, none⟩ (.int .i64 6)).setCell ⟨gb161, 1, none⟩ (.int .i64 0)).setCell ⟨gb161, 2, none⟩ (.int .i64 0)).setCell ⟨gb161, 3, none⟩ (.string (⟨#[]⟩ : ByteArray))).setCell ⟨gb161, 4, none⟩ (.slice none 0 0)).setCell ⟨gb161, 5, none⟩ (.slice none 0 0)) w0.heap.size (fun k_ => ((P0_5_ k_ ∨ P0_4_ k_ ∨ P2_4_ k_ ∨ P2_5_ k_) ∨ w.heap.size ≤ k_) ∧ zn (.slice Ao20 l0_5.length co20) k_ ∧ k_ ≠ gb156 ∧ k_ ≠ gb157 ∧ k_ ≠ gb158 ∧ k_ ≠ gb161) (.slice A0_4 l0_4.length c0_4) l0_4) := ⟨by (with_reducible repeat (first | apply Kd.V_alloc | apply Kd.V_drewN | apply Kd.V_drew)); exact Kd.V_mono (Kd.V_far (p := ⟨gb161, 5, none⟩) (Kd.V_far (p := ⟨gb161, 4, none⟩) (Kd.V_far (p := ⟨gb161, 3, none⟩) (Kd.V_far (p := ⟨gb161, 2, none⟩) (Kd.V_far (p := ⟨gb161, 1, none⟩) (Kd.V_far (p := ⟨gb161, 0, none⟩) (Kd.V_mono HO_157004.out (fun k_ hk => (⟨hk, hk.2⟩ : _ ∧ k_ ≠ gb161))) (fun _ hk => hk.2) (.int .i64 6)) (fun _ hk => hk.2) (.int .i64 0)) (fun _ hk => hk.2) (.int .i64 0)) (fun _ hk => hk.2) (.string (⟨#[]⟩ : ByteArray))) (fun _ hk => hk.2) (.slice none 0 0)) (fun _ hk => hk.2) (.slice none 0 0)) (fun _ hk => ⟨hk.1.1.1, ⟨hk.1.1.2.1, ⟨hk.1.1.2.2.1, ⟨hk.1.1.2.2.2.1, ⟨hk.1.1.2.2.2.2, hk.1.2⟩⟩⟩⟩⟩)⟩
             have n1_ : Aside0 (Kd.R Kd.string 9 ((((((w53.setCell ⟨gb161, 0, none⟩ (.int .i64 6)).setCell ⟨gb161, 1, none⟩ (.int .i64 0)).setCell ⟨gb161, 2, none⟩ (.int .i64 0)).setCell ⟨gb161, 3, none⟩ (.string (⟨#[]⟩ : ByteArray))).setCell ⟨gb161, 4, none⟩ (.slice none 0 0)).setCell ⟨gb161, 5, none⟩ (.slice none 0 0)) w0.heap.size (fun k_ => (P0_5_ k_ ∨ w.heap.size ≤ k_)) (.slice Ao20 l0_5.length co20) l0_5) := ⟨by (with_reducible repeat (first | apply Kd.R_alloc | apply Kd.R_drewN | apply Kd.R_drew)); exact Kd.R_mono (Kd.R_far (p := ⟨gb161, 5, none⟩) (Kd.R_far (p := ⟨gb161, 4, none⟩) (Kd.R_far (p := ⟨gb161, 3, none⟩) (Kd.R_far (p := ⟨gb161, 2, none⟩) (Kd.R_far (p := ⟨gb161, 1, none⟩) (Kd.R_far (p := ⟨gb161, 0, none⟩) (Kd.R_types HO_157005.out BK161.out (by decide)) (fun _ hk => hk.2) (.int .i64 6)) (fun _ hk => hk.2) (.int .i64 0)) (fun _ hk => hk.2) (.int .i64 0)) (fun _ hk => hk.2) (.string (⟨#[]⟩ : ByteArray))) (fun _ hk => hk.2) (.slice none 0 0)) (fun _ hk => hk.2) (.slice none 0 0)) (fun _ hk => hk.1)⟩
             have n2_ : Aside0 (Kd.V k33 33 ((((((w53.setCell ⟨gb161, 0, none⟩ (.int .i64 6)).setCell ⟨gb161, 1, none⟩ (.int .i64 0)).setCell ⟨gb161, 2, none⟩ (.int .i64 0)).setCell ⟨gb161, 3, none⟩ (.string (⟨#[]⟩ : ByteArray))).setCell ⟨gb161, 4, none⟩ (.slice none 0 0)).setCell ⟨gb161, 5, none⟩ (.slice none 0 0)) w0.heap.size (fun k_ => ((P0_5_ k_ ∨ P0_4_ k_ ∨ P2_4_ k_ ∨ P2_5_ k_) ∨ w.heap.size ≤ k_) ∧ zn (.slice Ao20 l0_5.length co20) k_ ∧ k_ ≠ gb156 ∧ k_ ≠ gb157 ∧ k_ ≠ gb158 ∧ k_ ≠ gb161) (.slice A2_4 l2_4.length c2_4) l2_4) := ⟨by (with_reducible repeat (first | apply Kd.V_alloc | apply Kd.V_drewN | apply Kd.V_drew)); exact Kd.V_mono (Kd.V_far (p := ⟨gb161, 5, none⟩) (Kd.V_far (p := ⟨gb161, 4, none⟩) (Kd.V_far (p := ⟨gb161, 3, none⟩) (Kd.V_far (p := ⟨gb161, 2, none⟩) (Kd.V_far (p := ⟨gb161, 1, none⟩) (Kd.V_far (p := ⟨gb161, 0, none⟩) (Kd.V_mono HO_158004.out (fun k_ hk => (⟨hk, hk.2⟩ : _ ∧ k_ ≠ gb161))) (fun _ hk => hk.2) (.int .i64 6)) (fun _ hk => hk.2) (.int .i64 0)) (fun _ hk => hk.2) (.int .i64 0)) (fun _ hk => hk.2) (.string (⟨#[]⟩ : ByteArray))) (fun _ hk => hk.2) (.slice none 0 0)) (fun _ hk => hk.2) (.slice none 0 0)) (fun _ hk => ⟨hk.1.1.1, ⟨hk.1.1.2.1, ⟨hk.1.1.2.2.1, ⟨hk.1.1.2.2.2.1, ⟨hk.1.1.2.2.2.2, hk.1.2⟩⟩⟩⟩⟩)⟩
             have n3_ : Aside0 (Kd.V Kd.string 9 ((((((w53.setCell ⟨gb161, 0, none⟩ (.int .i64 6)).setCell ⟨gb161, 1, none⟩ (.int .i64 0)).setCell ⟨gb161, 2, none⟩ (.int .i64 0)).setCell ⟨gb161, 3, none⟩ (.string (⟨#[]⟩ : ByteArray))).setCell ⟨gb161, 4, none⟩ (.slice none 0 0)).setCell ⟨gb161, 5, none⟩ (.slice none 0 0)) w0.heap.size (fun k_ => ((P0_5_ k_ ∨ P0_4_ k_ ∨ P2_4_ k_ ∨ P2_5_ k_) ∨ w.heap.size ≤ k_) ∧ zn (.slice Ao20 l0_5.length co20) k_ ∧ k_ ≠ gb156 ∧ k_ ≠ gb157 ∧ k_ ≠ gb158 ∧ k_ ≠ gb161) (.slice A2_5 l2_5.length c2_5) l2_5) := ⟨by (with_reducible repeat (first | apply Kd.V_alloc | apply Kd.V_drewN | apply Kd.V_drew)); exact Kd.V_mono (Kd.V_far (p := ⟨gb161, 5, none⟩) (Kd.V_far (p := ⟨gb161, 4, none⟩) (Kd.V_far (p := ⟨gb161, 3, none⟩) (Kd.V_far (p := ⟨gb161, 2, none⟩) (Kd.V_far (p := ⟨gb161, 1, none⟩) (Kd.V_far (p := ⟨gb161, 0, none⟩) (Kd.V_mono HO_158005.out (fun k_ hk => (⟨hk, hk.2⟩ : _ ∧ k_ ≠ gb161))) (fun _ hk => hk.2) (.int .i64 6)) (fun _ hk => hk.2) (.int .i64 0)) (fun _ hk => hk.2) (.int .i64 0)) (fun _ hk => hk.2) (.string (⟨#[]⟩ : ByteArray))) (fun _ hk => hk.2) (.slice none 0 0)) (fun _ hk => hk.2) (.slice none 0 0)) (fun _ hk => ⟨hk.1.1.1, ⟨hk.1.1.2.1, ⟨hk.1.1.2.2.1, ⟨hk.1.1.2.2.2.1, ⟨hk.1.1.2.2.2.2, hk.1.2⟩⟩⟩⟩⟩)⟩
             have n4_ : Aside0 (((((((w53.setCell ⟨gb161, 0, none⟩ (.int .i64 6)).setCell ⟨gb161, 1, none⟩ (.int .i64 0)).setCell ⟨gb161, 2, none⟩ (.int .i64 0)).setCell ⟨gb161, 3, none⟩ (.string (⟨#[]⟩ : ByteArray))).setCell ⟨gb161, 4, none⟩ (.slice none 0 0)).setCell ⟨gb161, 5, none⟩ (.slice none 0 0)).heap[gb156]? = some (.cells #[.int .i64 a0_0, .int .i64 a0_1, .int .i64 a0_2, .string a0_3, .slice A0_4 l0_4.length c0_4, .slice Ao20 l0_5.length co20] 33 (0, 0))) := ⟨by (with_reducible repeat (first | refine zB ?_ _ | refine zD ?_ | refine zC ?_ _)); refine blk_far ?_ NB156_161.out _; (with_reducible repeat (first | refine zB ?_ _ | refine zD ?_ | refine zC ?_ _)); refine blk_far ?_ NB156_161.out _; (with_reducible repeat (first | refine zB ?_ _ | refine zD ?_ | refine zC ?_ _)); refine blk_far ?_ NB156_161.out _; (with_reducible repeat (first | refine zB ?_ _ | refine zD ?_ | refine zC ?_ _)); refine blk_far ?_ NB156_161.out _; (with_reducible repeat (first | refine zB ?_ _ | refine zD ?_ | refine zC ?_ _)); refine blk_far ?_ NB156_161.out _; (with_reducible repeat (first | refine zB ?_ _ | refine zD ?_ | refine zC ?_ _)); refine blk_far ?_ NB156_161.out _; (with_reducible repeat (first | refine zB ?_ _ | refine zD ?_ | refine zC ?_ _)); exact BK156.out⟩
             have n5_ : Aside0 (((((((w53.setCell ⟨gb161, 0, none⟩ (.int .i64 6)).setCell ⟨gb161, 1, none⟩ (.int .i64 0)).setCell ⟨gb161, 2, none⟩ (.int .i64 0)).setCell ⟨gb161, 3, none⟩ (.string (⟨#[]⟩ : ByteArray))).setCell ⟨gb161, 4, none⟩ (.slice none 0 0)).setCell ⟨gb161, 5, none⟩ (.slice none 0 0)).heap[gb157]? = some (.cells #[.int .i64 a2_0, .int .i64 a2_1, .int .i64 a2_2, .string a2_3, .slice A2_4 l2_4.length c2_4, .slice A2_5 l2_5.length c2_5] 33 (0, 0))) := ⟨by (with_reducible repeat (first | refine zB ?_ _ | refine zD ?_ | refine zC ?_ _)); refine blk_far ?_ NB157_161.out _; (with_reducible repeat (first | refine zB ?_ _ | refine zD ?_ | refine zC ?_ _)); refine blk_far ?_ NB157_161.out _; (with_reducible repeat (first | refine zB ?_ _ | refine zD ?_ | refine zC ?_ _)); refine blk_far ?_ NB157_161.out _; (with_reducible repeat (first | refine zB ?_ _ | refine zD ?_ | refine zC ?_ _)); refine blk_far ?_ NB157_161.out _; (with_reducible repeat (first | refine zB ?_ _ | refine zD ?_ | refine zC ?_ _)); refine blk_far ?_ NB157_161.out _; (with_reducible repeat (first | refine zB ?_ _ | refine zD ?_ | refine zC ?_ _)); refine blk_far ?_ NB157_161.out _; (with_reducible repeat (first | refine zB ?_ _ | refine zD ?_ | refine zC ?_ _)); exact BK157.out⟩
             have n6_ : Aside0 (((((((w53.setCell ⟨gb161, 0, none⟩ (.int .i64 6)).setCell ⟨gb161, 1, none⟩ (.int .i64 0)).setCell ⟨gb161, 2, none⟩ (.int .i64 0)).setCell ⟨gb161, 3, none⟩ (.string (⟨#[]⟩ : ByteArray))).setCell ⟨gb161, 4, none⟩ (.slice none 0 0)).setCell ⟨gb161, 5, none⟩ (.slice none 0 0)).heap[gb158]? = some (.cells #[.int .i64 0, .int .i64 0, .int .i64 0, .string (⟨#[]⟩ : ByteArray), .slice none 0 0, .slice none 0 0] 33 (0, 0))) := ⟨by (with_reducible repeat (first | refine zB ?_ _ | refine zD ?_ | refine zC ?_ _)); refine blk_far ?_ NB158_161.out _; (with_reducible repeat (first | refine zB ?_ _ | refine zD ?_ | refine zC ?_ _)); refine blk_far ?_ NB158_161.out _; (with_reducible repeat (first | refine zB ?_ _ | refine zD ?_ | refine zC ?_ _)); refine blk_far ?_ NB158_161.out _; (with_reducible repeat (first | refine zB ?_ _ | refine zD ?_ | refine zC ?_ _)); refine blk_far ?_ NB158_161.out _; (with_reducible repeat (first | refine zB ?_ _ | refine zD ?_ | refine zC ?_ _)); refine blk_far ?_ NB158_161.out _; (with_reducible repeat (first | refine zB ?_ _ | refine zD ?_ | refine zC ?_ _)); refine blk_far ?_ NB158_161.out _; (with_reducible repeat (first | refine zB ?_ _ | refine zD ?_ | refine zC ?_ _)); exact BK158.out⟩
             have n7_ : Aside0 (((((((w53.setCell ⟨gb161, 0, none⟩ (.int .i64 6)).setCell ⟨gb161, 1, none⟩ (.int .i64 0)).setCell ⟨gb161, 2, none⟩ (.int .i64 0)).setCell ⟨gb161, 3, none⟩ (.string (⟨#[]⟩ : ByteArray))).setCell ⟨gb161, 4, none⟩ (.slice none 0 0)).setCell ⟨gb161, 5, none⟩ (.slice none 0 0)).heap[gb161]? = some (.cells #[.int .i64 6, .int .i64 0, .int .i64 0, .string (⟨#[]⟩ : ByteArray), .slice none 0 0, .slice none 0 0] 33 (0, 0))) := ⟨by (with_reducible repeat (first | refine zB ?_ _ | refine zD ?_ | refine zC ?_ _)); refine blk_put (cs := #[.int .i64 6, .int .i64 0, .int .i64 0, .string (⟨#[]⟩ : ByteArray), .slice none 0 0, .slice none 0 0]) ?_ 5 _ rfl; (with_reducible repeat (first | refine zB ?_ _ | refine zD ?_ | refine zC ?_ _)); refine blk_put (cs := #[.int .i64 6, .int .i64 0, .int .i64 0, .string (⟨#[]⟩ : ByteArray), .slice none 0 0, .slice none 0 0]) ?_ 4 _ rfl; (with_reducible repeat (first | refine zB ?_ _ | refine zD ?_ | refine zC ?_ _)); refine blk_put (cs := #[.int .i64 6, .int .i64 0, .int .i64 0, .string (⟨#[]⟩ : ByteArray), .slice none 0 0, .slice none 0 0]) ?_ 3 _ rfl; (with_reducible repeat (first | refine zB ?_ _ | refine zD ?_ | refine zC ?_ _)); refine blk_put (cs := #[.int .i64 6, .int .i64 0, .int .i64 0, .string (⟨#[]⟩ : ByteArray), .slice none 0 0, .slice none 0 0]) ?_ 2 _ rfl; (with_reducible repeat (first | refine zB ?_ _ | refine zD ?_ | refine zC ?_ _)); refine blk_put (cs := #[.int .i64 6, .int .i64 0, .int .i64 0, .string (⟨#[]⟩ : ByteArray), .slice none 0 0, .slice none 0 0]) ?_ 1 _ rfl; (with_reducible repeat (first | refine zB ?_ _ | refine zD ?_ | refine zC ?_ _)); refine blk_put (cs := #[.int .i64 0, .int .i64 0, .int .i64 0, .string (⟨#[]⟩ : ByteArray), .slice none 0 0, .slice none 0 0]) ?_ 0 _ rfl; (with_reducible repeat (first | refine zB ?_ _ | refine zD ?_ | refine zC ?_ _)); exact BK161.out⟩
             have n8_ : Aside0 (Kept w ((((((w53.setCell ⟨gb161, 0, none⟩ (.int .i64 6)).setCell ⟨gb161, 1, none⟩ (.int .i64 0)).setCell ⟨gb161, 2, none⟩ (.int .i64 0)).setCell ⟨gb161, 3, none⟩ (.string (⟨#[]⟩ : ByteArray))).setCell ⟨gb161, 4, none⟩ (.slice none 0 0)).setCell ⟨gb161, 5, none⟩ (.slice none 0 0)) (fun k_ => P0_5_ k_)) := ⟨apF⟩
             have n9_ : Aside0 (Below w0.heap.size w0 ((((((w53.setCell ⟨gb161, 0, none⟩ (.int .i64 6)).setCell ⟨gb161, 1, none⟩ (.int .i64 0)).setCell ⟨gb161, 2, none⟩ (.int .i64 0)).setCell ⟨gb161, 3, none⟩ (.string (⟨#[]⟩ : ByteArray))).setCell ⟨gb161, 4, none⟩ (.slice none 0 0)).setCell ⟨gb161, 5, none⟩ (.slice none 0 0))) := ⟨apN⟩
             (try clear HO_157004)
             (try clear HO_157005)
             (try clear HO_158004)
             (try clear HO_158005)
             (try clear BK156)
             (try clear BK157)
             (try clear BK158)
             (try clear BK161)
             (try clear HK)
             (try clear HB)
             generalize ((((((w53.setCell ⟨gb161, 0, none⟩ (.int .i64 6)).setCell ⟨gb161, 1, none⟩ (.int .i64 0)).setCell ⟨gb161, 2, none⟩ (.int .i64 0)).setCell ⟨gb161, 3, none⟩ (.string (⟨#[]⟩ : ByteArray))).setCell ⟨gb161, 4, none⟩ (.slice none 0 0)).setCell ⟨gb161, 5, none⟩ (.slice none 0 0)) = w58 at n0_ n1_ n2_ n3_ n4_ n5_ n6_ n7_ n8_ n9_ ⊢
             have HO_157004 := n0_
             have HO_157005 := n1_
             have HO_158004 := n2_
             have HO_158005 := n3_
             have BK156 := n4_
             have BK157 := n5_
             have BK158 := n6_
             have BK161 := n7_
             have HK := n8_
             have HB := n9_
             clear n0_ n1_ n2_ n3_ n4_ n5_ n6_ n7_ n8_ n9_
             replace HO_157004 := zA (Kd.V_drew HO_157004.out)
             replace HO_157005 := zA (Kd.R_drew HO_157005.out)
             replace HO_158004 := zA (Kd.V_drew HO_158004.out)
             replace HO_158005 := zA (Kd.V_drew HO_158005.out)
             replace BK156 := zA (zD BK156.out)
             replace BK157 := zA (zD BK157.out)
             replace BK158 := zA (zD BK158.out)
             replace BK161 := zA (zD BK161.out)
             replace HK := zA (Kept.drew HK.out)
             replace HB := zA (zF HB.out)
             have q60 : (x10_18 : Int) ≤ ((l0_5.length : Int) : Int) := yE apC
             obtain ⟨i060, hi060, _, hsz60, _⟩ := info_parts info9
             have hroom60 : l0_5.length ≤ co20 := (Kd.R_reads' HO_157005.out).2.1
             have hC60 : Kd.F Kd.string _ _ Ao20 l0_5.length l0_5 := (Kd.V_at (base := w0.heap.size) (Kd.V_mono (ok' := (fun k_ => ((((((P0_5_ k_ ∨ P0_4_ k_ ∨ P2_4_ k_ ∨ P2_5_ k_) ∨ w.heap.size ≤ k_) ∧ k_ ≠ gb156) ∧ k_ ≠ gb157) ∧ k_ ≠ gb158) ∧ k_ ≠ gb161))) (Kd.R_V (Kd.R_types (Kd.R_types (Kd.R_types (Kd.R_types (HO_157005.out) BK156.out (by decide)) BK157.out (by decide)) BK158.out (by decide)) BK161.out (by decide))) (fun k_ hk => ⟨⟨⟨⟨(Or.imp_left (fun h_ => (.inl h_)) (hk.1.1.1.1)), hk.1.1.1.2⟩, hk.1.1.2⟩, hk.1.2⟩, hk.2⟩))).2.2
             have hcut60 := cut_to (P := Tryd.prog) 25 9 .i64 Tryd.underlying25 hi060 Ao20 l0_5.length co20 x10_18 (yE apC) q60 hroom60
             have hr60 := Kd.F_take (m := (x10_18 : Int).toNat) hC60 (by omega)
             have hy60 : y165.length = (x10_18 : Int).toNat := (by rw [Ny165.out, yA]; omega)
             rw [← Ny165.out] at hr60
             rw [← hy60] at hcut60
             have HO169 := zA (show Kd.V Kd.string 9 _ w0.heap.size _ (.slice Ao20 y165.length co20) y165 from Kd.V_mk (by omega) hr60)
             have HC169 := zA (show y165.length ≤ co20 from by omega)
             clear hr60 hC60 hroom60 hi060 hsz60
             have KY60 := zA hy60
             clear hy60
             replace q60 := eq_true q60
             have q61 : (x10_18 : Int) ≤ ((l0_5.length : Int) : Int) := yE apC
             obtain ⟨i061, hi061, _, hsz61, _⟩ := info_parts info9
             have hroom61 : l0_5.length ≤ co20 := (Kd.R_reads' HO_157005.out).2.1
             have hC61 : Kd.F Kd.string _ _ Ao20 l0_5.length l0_5 := (Kd.V_at (base := w0.heap.size) (Kd.V_mono (ok' := (fun k_ => ((((((P0_5_ k_ ∨ P0_4_ k_ ∨ P2_4_ k_ ∨ P2_5_ k_) ∨ w.heap.size ≤ k_) ∧ k_ ≠ gb156) ∧ k_ ≠ gb157) ∧ k_ ≠ gb158) ∧ k_ ≠ gb161))) (Kd.R_V (Kd.R_types (Kd.R_types (Kd.R_types (Kd.R_types (HO_157005.out) BK156.out (by decide)) BK157.out (by decide)) BK158.out (by decide)) BK161.out (by decide))) (fun k_ hk => ⟨⟨⟨⟨(Or.imp_left (fun h_ => (.inl h_)) (hk.1.1.1.1)), hk.1.1.1.2⟩, hk.1.1.2⟩, hk.1.2⟩, hk.2⟩))).2.2
             have q061 : (0 : Int) ≤ (x10_18 : Int) := yE apC
             have hcut61 := cut_from (P := Tryd.prog) 25 9 .i64 Tryd.underlying25 hi061 1 hsz61 Ao20 l0_5.length co20 x10_18 q061 q61
             have hr61 := Kd.F_cut (m := (x10_18 : Int).toNat) (c := co20) hC61 (by omega) hroom61
             obtain ⟨A61, hA61⟩ : ∃ A1, A1 = (if co20 = (x10_18 : Int).toNat then Ao20 else (Ao20 : Option Addr).map (·.add ((x10_18 : Int).toNat * 1))) := ⟨_, rfl⟩
             obtain ⟨c61, hc61⟩ : ∃ c1, c1 = co20 - (x10_18 : Int).toNat := ⟨_, rfl⟩
             have hy61 : y179.length = l0_5.length - (x10_18 : Int).toNat := (by rw [Ny179.out, zZ] <;> omega)
             rw [show (l0_5).drop (x10_18 : Int).toNat = y179 from Ny179.out.symm] at hr61
             replace hr61 : Kd.F Kd.string _ _ A61 y179.length y179 := (by rw [hA61]; exact hr61)
             rw [← hy61, ← hA61, ← hc61] at hcut61
             have HO183 := zA (show Kd.V Kd.string 9 _ w0.heap.size _ (.slice A61 y179.length c61) y179 from Kd.V_mk (by rw [hy61, hc61]; exact Nat.sub_le_sub_right hroom61 _) hr61)
             have HC183 := zA (show y179.length ≤ c61 from by rw [hy61, hc61]; exact Nat.sub_le_sub_right hroom61 _)
             clear hr61 hC61 hroom61 hi061 hsz61 hc61
             have KY61 := zA hy61
             have KA61 := zA hA61
             clear hy61 hA61
             replace q61 := eq_true q61
             refine start_ (n := 16) (S := fun w' => w'.cell? ⟨gb156, 0, none⟩ = some (.int .i64 a0_0) ∧ w'.cell? ⟨gb156, 1, none⟩ = some (.int .i64 a0_1) ∧ w'.cell? ⟨gb156, 2, none⟩ = some (.int .i64 a0_2) ∧ w'.cell? ⟨gb156, 3, none⟩ = some (.string a0_3) ∧ w'.cell? ⟨gb156, 4, none⟩ = some (.slice A0_4 l0_4.length c0_4) ∧ w'.cell? ⟨gb156, 5, none⟩ = some (.slice Ao20 l0_5.length co20)) (ds := []) #[false, false, false, false, false, false, false, false, false, false, false, false, false, false, false, false] (by kernel_rfl) rfl rfl ⟨(zJ BK156.out 0).trans rfl, (zJ BK156.out 1).trans rfl, (zJ BK156.out 2).trans rfl, (zJ BK156.out 3).trans rfl, (zJ BK156.out 4).trans rfl, (zJ BK156.out 5).trans rfl⟩ (fun hHeld => ?_); refine with_tabW spec_l7Into.tab7 spec_l7Into.bits7 (fun HT_ HW_ => ?_)
             generalize w58.drew = w59 at HO_157004 HO_157005 HO_158004 HO_158005 BK156 BK157 BK158 BK161 HK HB HO169 HO183 hHeld ⊢
             refine pure_ (i := 1) (N := some 35) (v := ?_) (a' := ?_) #[false, true, false, false, false, false, false, false, false, false, false, false, false, false, false, false] rfl rfl (any_of HT_.out (by kernel_rfl)) (fun _ _ _ h => h) (Or.inl ⟨by rfl, ?_⟩) ?_ ?_
             rotate_left
             ·intro w'
              go_simp
              with_reducible rfl
             rotate_left
             ·simp only [Act.put, zL, zM, zN, i64_w, i32_w]
              rfl
             refine pure_ (i := 3) (N := some 37) (v := ?_) (a' := ?_) #[false, true, false, true, false, false, false, false, false, false, false, false, false, false, false, false] rfl rfl (any_of HT_.out (by kernel_rfl)) (fun _ _ _ h => h) (Or.inl ⟨by rfl, ?_⟩) ?_ ?_
             rotate_left
             ·intro w'
              go_simp
              with_reducible rfl
             rotate_left
             ·simp only [Act.put, zL, zM, zN, i64_w, i32_w]
              rfl
             refine pure_ (i := 6) (N := some 40) (v := ?_) (a' := ?_) #[false, true, false, true, false, false, true, false, false, false, false, false, false, false, false, false] rfl rfl (any_of HT_.out (by kernel_rfl)) (fun _ _ _ h => h) (Or.inl ⟨by rfl, ?_⟩) ?_ ?_
             rotate_left
             ·intro w'
              go_simp
              with_reducible rfl
             rotate_left
             ·simp only [Act.put, zL, zM, zN, i64_w, i32_w]
              rfl
             refine pure_ (i := 9) (N := some 43) (v := ?_) (a' := ?_) #[false, true, false, true, false, false, true, false, false, true, false, false, false, false, false, false] rfl rfl (any_of HT_.out (by kernel_rfl)) (fun _ _ _ h => h) (Or.inl ⟨by rfl, ?_⟩) ?_ ?_
             rotate_left
             ·intro w'
              go_simp
              with_reducible rfl
             rotate_left
             ·simp only [Act.put, zL, zM, zN, i64_w, i32_w]
              rfl
             refine pure_ (i := 11) (N := some 45) (v := ?_) (a' := ?_) #[false, true, false, true, false, false, true, false, false, true, false, true, false, false, false, false] rfl rfl (any_of HT_.out (by kernel_rfl)) (fun _ _ _ h => h) (Or.inl ⟨by rfl, ?_⟩) ?_ ?_
             rotate_left
             ·intro w'
              go_simp
              with_reducible rfl
             rotate_left
             ·simp only [Act.put, zL, zM, zN, i64_w, i32_w]
              rfl
             refine take_ (i := 2) (N := some 36) (v := ?_) (a' := ?_) #[false, true, true, true, false, false, true, false, false, true, false, true, false, false, false, false] rfl rfl (take_ofW HT_.out HW_.out (by kernel_rfl)) (fun _ _ _ h => h) (Or.inl ⟨by rfl, ?_⟩) hHeld ?_ ?_
             rotate_left
             ·rintro w' ⟨s0, s1, s2, s3, s4, s5⟩
              go_simp
              with_reducible rfl
             rotate_left
             ·simp only [Act.put, zL, zM, zN, i64_w, i32_w]
              rfl
             refine pure_ (i := 4) (N := some 38) (v := ?_) (a' := ?_) #[false, true, true, true, true, false, true, false, false, true, false, true, false, false, false, false] rfl rfl (any_of HT_.out (by kernel_rfl)) (fun _ _ _ h => h) (Or.inl ⟨by rfl, ?_⟩) ?_ ?_
             rotate_left
             ·intro w'
              go_simp
              with_reducible rfl
             rotate_left
             ·simp only [Act.put, zL, zM, zN, i64_w, i32_w]
              rfl
             refine take_ (i := 10) (N := some 44) (v := ?_) (a' := ?_) #[false, true, true, true, true, false, true, false, false, true, true, true, false, false, false, false] rfl rfl (take_ofW HT_.out HW_.out (by kernel_rfl)) (fun _ _ _ h => h) (Or.inl ⟨by rfl, ?_⟩) hHeld ?_ ?_
             rotate_left
             ·rintro w' ⟨s0, s1, s2, s3, s4, s5⟩
              go_simp
              with_reducible rfl
             rotate_left
             ·simp only [Act.put, zL, zM, zN, i64_w, i32_w]
              rfl
             refine pure_ (i := 12) (N := some 46) (v := ?_) (a' := ?_) #[false, true, true, true, true, false, true, false, false, true, true, true, true, false, false, false] rfl rfl (any_of HT_.out (by kernel_rfl)) (fun _ _ _ h => h) (Or.inl ⟨by rfl, ?_⟩) ?_ ?_
             rotate_left
             ·intro w'
              go_simp
              with_reducible rfl
             rotate_left
             ·simp only [Act.put, zL, zM, zN, i64_w, i32_w]
              rfl
             refine join_ (σ := Value × Value × Value) 4 #[true, true, true, true, true, true, true, true, false, true, true, true, true, false, false, false] (fun s_ => [(34, s_.1), (39, s_.2.1), (41, s_.2.2)]) (fun s_ w' => (w'.cell? ⟨gb156, 0, none⟩ = some (.int .i64 a0_0) ∧ w'.cell? ⟨gb156, 1, none⟩ = some (.int .i64 a0_1) ∧ w'.cell? ⟨gb156, 2, none⟩ = some (.int .i64 a0_2) ∧ w'.cell? ⟨gb156, 3, none⟩ = some (.string a0_3) ∧ w'.cell? ⟨gb156, 4, none⟩ = some (.slice A0_4 l0_4.length c0_4) ∧ w'.cell? ⟨gb156, 5, none⟩ = some (.slice Ao20 l0_5.length co20)) ∧ (Kd.V Kd.string 9 w' w0.heap.size (fun k_ => ((P0_5_ k_ ∨ P0_4_ k_ ∨ P2_4_ k_ ∨ P2_5_ k_) ∨ w.heap.size ≤ k_) ∧ some k_ ≠ (s_.2.1 : Value).ownBlock ∧ some k_ ≠ (s_.2.2 : Value).ownBlock ∧ k_ ≠ gb156 ∧ k_ ≠ gb157 ∧ k_ ≠ gb158 ∧ k_ ≠ gb161) (.slice Ao20 y165.length co20) y165) ∧ (Kd.R Kd.string 9 w' w0.heap.size (fun k_ => (P0_5_ k_ ∨ w.heap.size ≤ k_) ∧ some k_ ≠ (s_.2.2 : Value).ownBlock ∧ zn (.slice Ao20 l0_5.length co20) k_) s_.2.1 y170) ∧ (Kd.R Kd.string 9 w' w0.heap.size (fun k_ => (P0_5_ k_ ∨ w.heap.size ≤ k_) ∧ some k_ ≠ (s_.2.1 : Value).ownBlock ∧ zn (.slice Ao20 l0_5.length co20) k_) s_.2.2 y173) ∧ (Kd.V Kd.string 9 w' w0.heap.size (fun k_ => ((P0_5_ k_ ∨ P0_4_ k_ ∨ P2_4_ k_ ∨ P2_5_ k_) ∨ w.heap.size ≤ k_) ∧ some k_ ≠ (s_.2.1 : Value).ownBlock ∧ some k_ ≠ (s_.2.2 : Value).ownBlock ∧ k_ ≠ gb156 ∧ k_ ≠ gb157 ∧ k_ ≠ gb158 ∧ k_ ≠ gb161) (.slice A61 y179.length c61) y179) ∧ (Kd.V k33 33 w' w0.heap.size (fun k_ => ((P0_5_ k_ ∨ P0_4_ k_ ∨ P2_4_ k_ ∨ P2_5_ k_) ∨ w.heap.size ≤ k_) ∧ some k_ ≠ (s_.2.1 : Value).ownBlock ∧ some k_ ≠ (s_.2.2 : Value).ownBlock ∧ zn (.slice Ao20 l0_5.length co20) k_ ∧ k_ ≠ gb156 ∧ k_ ≠ gb157 ∧ k_ ≠ gb158 ∧ k_ ≠ gb161) (.slice A0_4 l0_4.length c0_4) l0_4) ∧ (Kd.R Kd.string 9 w' w0.heap.size (fun k_ => (P0_5_ k_ ∨ w.heap.size ≤ k_) ∧ some k_ ≠ (s_.2.1 : Value).ownBlock ∧ some k_ ≠ (s_.2.2 : Value).ownBlock) (.slice Ao20 l0_5.length co20) l0_5) ∧ (Kd.V k33 33 w' w0.heap.size (fun k_ => ((P0_5_ k_ ∨ P0_4_ k_ ∨ P2_4_ k_ ∨ P2_5_ k_) ∨ w.heap.size ≤ k_) ∧ some k_ ≠ (s_.2.1 : Value).ownBlock ∧ some k_ ≠ (s_.2.2 : Value).ownBlock ∧ zn (.slice Ao20 l0_5.length co20) k_ ∧ k_ ≠ gb156 ∧ k_ ≠ gb157 ∧ k_ ≠ gb158 ∧ k_ ≠ gb161) (.slice A2_4 l2_4.length c2_4) l2_4) ∧ (Kd.V Kd.string 9 w' w0.heap.size (fun k_ => ((P0_5_ k_ ∨ P0_4_ k_ ∨ P2_4_ k_ ∨ P2_5_ k_) ∨ w.heap.size ≤ k_) ∧ some k_ ≠ (s_.2.1 : Value).ownBlock ∧ some k_ ≠ (s_.2.2 : Value).ownBlock ∧ zn (.slice Ao20 l0_5.length co20) k_ ∧ k_ ≠ gb156 ∧ k_ ≠ gb157 ∧ k_ ≠ gb158 ∧ k_ ≠ gb161) (.slice A2_5 l2_5.length c2_5) l2_5) ∧ (w'.heap[gb156]? = some (.cells #[.int .i64 a0_0, .int .i64 a0_1, .int .i64 a0_2, .string a0_3, .slice A0_4 l0_4.length c0_4, .slice Ao20 l0_5.length co20] 33 (0, 0))) ∧ (w'.heap[gb157]? = some (.cells #[.int .i64 a2_0, .int .i64 a2_1, .int .i64 a2_2, .string a2_3, .slice A2_4 l2_4.length c2_4, .slice A2_5 l2_5.length c2_5] 33 (0, 0))) ∧ (w'.heap[gb158]? = some (.cells #[.int .i64 0, .int .i64 0, .int .i64 0, .string (⟨#[]⟩ : ByteArray), .slice none 0 0, .slice none 0 0] 33 (0, 0))) ∧ (w'.heap[gb161]? = some (.cells #[.int .i64 6, .int .i64 0, .int .i64 0, .string (⟨#[]⟩ : ByteArray), .slice none 0 0, .slice none 0 0] 33 (0, 0))) ∧ (Kept w w' (fun k_ => P0_5_ k_)) ∧ (Below w0.heap.size w0 w')) ?_ ?_
             rotate_left
             ·intro hCont
              refine two_ (i := 0) (j := 7) (Ni := some 34) (Nj := some 41) #[true, true, true, true, true, false, true, false, false, true, true, true, true, false, false, false] #[false, true, true, true, true, false, true, true, false, true, true, true, true, false, false, false] rfl rfl rfl rfl (two_of HT_.out (by kernel_rfl)) (by decide) (by decide) (fun K hK => ?_) (fun K hK => ?_)
              ·skip
               refine Kd.R_lit_step Kd.string _ 9 ?hg (N := 34) ?hd (xs := ([] : List ByteArray)) (inner := []) (ok := fun _ => True) (okp := fun _ => True) ?hr ?hp (fun _ hk => hk) trivial (yG _ _) (yH _) (by simp) ?_; (case hd => rfl); (case hg => rfl); (case hr => first | (go_simp; done) | (go_simp; rfl)); (case hp => exact (Reps.none _ _))
               intro v163 w62 ho63 hb hg_ hnew_
               clear hg_ hnew_
               (first | rw [← Ny162.out] at ho63 | (simp only [Int.reduceToNat] at ho63; rw [← Ny162.out] at ho63))
               replace HO_157004 := zA (Kd.V_elder' (vwV HO_157004.out) (Kd.R_base ho63) hb)
               replace HO_158004 := zA (Kd.V_elder' (vwV HO_158004.out) (Kd.R_base ho63) hb)
               replace HO_158005 := zA (Kd.V_elder' (vwV HO_158005.out) (Kd.R_base ho63) hb)
               replace HO169 := zA (Kd.V_elder' (vwV HO169.out) (Kd.R_base ho63) hb)
               replace HO183 := zA (Kd.V_elder' (vwV HO183.out) (Kd.R_base ho63) hb)
               have HO164 := zA (Kd.R_lower (Kd.R_new' (Kd.R_newM (M := fun k_ => (P0_5_ k_ ∨ w.heap.size ≤ k_)) ho63 apV (fun k_ h_ => .inr h_)) (Kd.R_lt (vwR HO_157005.out))) (zR apN))
               replace HO_157005 := zA (Kd.R_elder' (vwR HO_157005.out) (Kd.R_base ho63) hb)
               replace BK156 := zA (zP (g := gb156) (o := .cells #[.int .i64 a0_0, .int .i64 a0_1, .int .i64 a0_2, .string a0_3, .slice A0_4 l0_4.length c0_4, .slice Ao20 l0_5.length co20] 33 (0, 0)) apG hb)
               replace BK157 := zA (zP (g := gb157) (o := .cells #[.int .i64 a2_0, .int .i64 a2_1, .int .i64 a2_2, .string a2_3, .slice A2_4 l2_4.length c2_4, .slice A2_5 l2_5.length c2_5] 33 (0, 0)) apI hb)
               replace BK158 := zA (zP (g := gb158) (o := .cells #[.int .i64 0, .int .i64 0, .int .i64 0, .string (⟨#[]⟩ : ByteArray), .slice none 0 0, .slice none 0 0] 33 (0, 0)) apK hb)
               replace BK161 := zA (zP (g := gb161) (o := .cells #[.int .i64 6, .int .i64 0, .int .i64 0, .string (⟨#[]⟩ : ByteArray), .slice none 0 0, .slice none 0 0] 33 (0, 0)) apP hb)
               replace HK := zA (Kept.below (S := (fun k_ => P0_5_ k_)) apF hb)
               replace HB := zA (zQ apN hb)
               clear hb ho63
               refine hK.out _ _ ⟨(zJ BK156.out 0).trans rfl, (zJ BK156.out 1).trans rfl, (zJ BK156.out 2).trans rfl, (zJ BK156.out 3).trans rfl, (zJ BK156.out 4).trans rfl, (zJ BK156.out 5).trans rfl⟩ (fun hHeld => ?_)
               clear hK K
               refine norm_ (a' := ?_) ?_ ?_
               rotate_left
               ·show Act.put _ (some 34) _ = _
                simp only [Act.put, zL, zM, zN, i64_w, i32_w]
                rfl
               refine two_ (i := 5) (j := 7) (Ni := some 39) (Nj := some 41) #[true, true, true, true, true, true, true, false, false, true, true, true, true, false, false, false] #[true, true, true, true, true, false, true, true, false, true, true, true, true, false, false, false] rfl rfl rfl rfl (two_of HT_.out (by kernel_rfl)) (by decide) (by decide) (fun K hK => ?_) (fun K hK => ?_)
               ·skip
                refine Kd.R_append_rows_step Kd.string (w0 := w0) w0.heap.size (by rfl) (.tmp 34) (.tmp 38) 25 9 (.string ⟨#[]⟩) 16 rfl Tryd.underlying25 info9 rfl (by decide) (by omega) v163 y162 y165 _ _ _ (fun k_ => (P0_5_ k_ ∨ w.heap.size ≤ k_) ∧ zn (.slice Ao20 l0_5.length co20) k_) (fun _ => False) rfl rfl ?aO ?aR (fun _ _ h => h) (fun _ h => h.elim) ?aF ?aB ?aS ?aL ?_
                (case aR => repeat (first | exact (Kd.V_reads' HO169.out).2.2 | (with_reducible refine Kd.C_alloc ?_ _) | (with_reducible refine Kd.C_drewN ?_ _) | (with_reducible refine Kd.C_drew ?_)))
                (case aB => exact apN)
                (case aF => exact (fun k_ hk => ⟨(.inr (Nat.le_trans apV hk)), Kd.fresh' (Kd.R_lt (vwR HO_157005.out)) k_ hk⟩))
                (case aO => exact (by (with_reducible repeat (first | apply Kd.R_alloc | apply Kd.R_drewN | apply Kd.R_drew)); exact Kd.R_mono HO164.out (fun _ hk => ⟨hk.1.1, hk.2⟩)))
                (case aS => exact (zR apN))
                (case aL => have := LMc41.out; (first | omega | (simp only [ByteArray.size, List.size_toArray, List.length_cons, List.length_nil] at *; omega)))
                intro v171 w64 ho hb hg hat
                rw [← Ny170.out] at ho
                replace HO_157004 := zA (Kd.V_afterv (ok := (fun k_ => ((P0_5_ k_ ∨ P0_4_ k_ ∨ P2_4_ k_ ∨ P2_5_ k_) ∨ w.heap.size ≤ k_) ∧ zn (.slice Ao20 l0_5.length co20) k_ ∧ k_ ≠ gb156 ∧ k_ ≠ gb157 ∧ k_ ≠ gb158 ∧ k_ ≠ gb161)) (vwV HO_157004.out) hg hat)
                replace HO_157005 := zA (Kd.R_after (ok := (fun k_ => (P0_5_ k_ ∨ w.heap.size ≤ k_))) (vwR HO_157005.out) hg hat)
                replace HO_158004 := zA (Kd.V_afterv (ok := (fun k_ => ((P0_5_ k_ ∨ P0_4_ k_ ∨ P2_4_ k_ ∨ P2_5_ k_) ∨ w.heap.size ≤ k_) ∧ zn (.slice Ao20 l0_5.length co20) k_ ∧ k_ ≠ gb156 ∧ k_ ≠ gb157 ∧ k_ ≠ gb158 ∧ k_ ≠ gb161)) (vwV HO_158004.out) hg hat)
                replace HO_158005 := zA (Kd.V_afterv (ok := (fun k_ => ((P0_5_ k_ ∨ P0_4_ k_ ∨ P2_4_ k_ ∨ P2_5_ k_) ∨ w.heap.size ≤ k_) ∧ zn (.slice Ao20 l0_5.length co20) k_ ∧ k_ ≠ gb156 ∧ k_ ≠ gb157 ∧ k_ ≠ gb158 ∧ k_ ≠ gb161)) (vwV HO_158005.out) hg hat)
                replace BK156 := zA (blk_grown (g := gb156) (o := .cells #[.int .i64 a0_0, .int .i64 a0_1, .int .i64 a0_2, .string a0_3, .slice A0_4 l0_4.length c0_4, .slice Ao20 l0_5.length co20] 33 (0, 0)) apG hg (Kd.R_ne HO164.out BK156.out (by decide)))
                replace BK157 := zA (blk_grown (g := gb157) (o := .cells #[.int .i64 a2_0, .int .i64 a2_1, .int .i64 a2_2, .string a2_3, .slice A2_4 l2_4.length c2_4, .slice A2_5 l2_5.length c2_5] 33 (0, 0)) apI hg (Kd.R_ne HO164.out BK157.out (by decide)))
                replace BK158 := zA (blk_grown (g := gb158) (o := .cells #[.int .i64 0, .int .i64 0, .int .i64 0, .string (⟨#[]⟩ : ByteArray), .slice none 0 0, .slice none 0 0] 33 (0, 0)) apK hg (Kd.R_ne HO164.out BK158.out (by decide)))
                replace BK161 := zA (blk_grown (g := gb161) (o := .cells #[.int .i64 6, .int .i64 0, .int .i64 0, .string (⟨#[]⟩ : ByteArray), .slice none 0 0, .slice none 0 0] 33 (0, 0)) apP hg (Kd.R_ne HO164.out BK161.out (by decide)))
                replace HO169 := zA (Kd.V_afterv (ok := (fun k_ => ((P0_5_ k_ ∨ P0_4_ k_ ∨ P2_4_ k_ ∨ P2_5_ k_) ∨ w.heap.size ≤ k_) ∧ k_ ≠ gb156 ∧ k_ ≠ gb157 ∧ k_ ≠ gb158 ∧ k_ ≠ gb161)) (by (with_reducible repeat (first | apply Kd.V_alloc | apply Kd.V_drewN | apply Kd.V_drew)); exact Kd.V_mono HO169.out (fun _ hk => ⟨⟨hk.1.1.1.1.1, ⟨hk.1.1.1.1.2, ⟨hk.1.1.1.2, ⟨hk.1.1.2, hk.1.2⟩⟩⟩⟩, hk.2⟩)) hg hat)
                replace HO183 := zA (Kd.V_afterv (ok := (fun k_ => ((P0_5_ k_ ∨ P0_4_ k_ ∨ P2_4_ k_ ∨ P2_5_ k_) ∨ w.heap.size ≤ k_) ∧ k_ ≠ gb156 ∧ k_ ≠ gb157 ∧ k_ ≠ gb158 ∧ k_ ≠ gb161)) (by (with_reducible repeat (first | apply Kd.V_alloc | apply Kd.V_drewN | apply Kd.V_drew)); exact Kd.V_mono HO183.out (fun _ hk => ⟨⟨hk.1.1.1.1.1, ⟨hk.1.1.1.1.2, ⟨hk.1.1.1.2, ⟨hk.1.1.2, hk.1.2⟩⟩⟩⟩, hk.2⟩)) hg hat)
                replace HB := zA (hb)
                replace HK := zA (Kept.of_grown (S := (fun k_ => P0_5_ k_)) hg apF (fun k_ e_ => (HO164.out.1 k_ e_).1.1))
                have HO172 := zA (ho)
                clear HO164
                clear ho hb hg hat
                refine hK.out _ _ ⟨(zJ BK156.out 0).trans rfl, (zJ BK156.out 1).trans rfl, (zJ BK156.out 2).trans rfl, (zJ BK156.out 3).trans rfl, (zJ BK156.out 4).trans rfl, (zJ BK156.out 5).trans rfl⟩ (fun hHeld => ?_)
                clear hK K
                refine norm_ (a' := ?_) ?_ ?_
                rotate_left
                ·show Act.put _ (some 39) _ = _
                 simp only [Act.put, zL, zM, zN, i64_w, i32_w]
                 rfl
                refine one_ (i := 7) (N := some 41) #[true, true, true, true, true, true, true, true, false, true, true, true, true, false, false, false] rfl rfl (one_of HT_.out (by kernel_rfl)) (by decide) (fun K hK => ?_)
                refine Kd.R_lit_step Kd.string _ 9 ?hg (N := 41) ?hd (xs := ([a1] : List ByteArray)) (inner := [.string a1]) (ok := fun _ => True) (okp := fun _ => True) ?hr ?hp (fun _ hk => hk) trivial (yG _ _) (yH _) (by simp) ?_; (case hd => rfl); (case hg => rfl); (case hr => first | (go_simp; done) | (go_simp; rfl)); (case hp => exact (Reps.one (show Kd.M Kd.string _ _ _ a1 [.string a1] from rfl) (Reps.none _ _)))
                intro v174 w65 ho66 hb hg_ hnew_
                clear hg_ hnew_
                (first | rw [← Ny173.out] at ho66 | (simp only [Int.reduceToNat] at ho66; rw [← Ny173.out] at ho66))
                replace HO_157004 := zA (Kd.V_elder' (vwV HO_157004.out) (Kd.R_base ho66) hb)
                replace HO_158004 := zA (Kd.V_elder' (vwV HO_158004.out) (Kd.R_base ho66) hb)
                replace HO_158005 := zA (Kd.V_elder' (vwV HO_158005.out) (Kd.R_base ho66) hb)
                replace HO169 := zA (Kd.V_elder' (vwV HO169.out) (Kd.R_base ho66) hb)
                replace HO183 := zA (Kd.V_elder' (vwV HO183.out) (Kd.R_base ho66) hb)
                have HO175 := zA (Kd.R_lower (Kd.R_new' (Kd.R_new' (Kd.R_newM (M := fun k_ => (P0_5_ k_ ∨ w.heap.size ≤ k_)) ho66 apV (fun k_ h_ => .inr h_)) (Kd.R_lt (vwR HO_157005.out))) (Kd.R_lt (vwR HO172.out))) (zR apN))
                replace HO_157005 := zA (Kd.R_elder' (vwR HO_157005.out) (Kd.R_base ho66) hb)
                replace HO172 := zA (Kd.R_elder' (vwR HO172.out) (Kd.R_base ho66) hb)
                replace BK156 := zA (zP (g := gb156) (o := .cells #[.int .i64 a0_0, .int .i64 a0_1, .int .i64 a0_2, .string a0_3, .slice A0_4 l0_4.length c0_4, .slice Ao20 l0_5.length co20] 33 (0, 0)) apG hb)
                replace BK157 := zA (zP (g := gb157) (o := .cells #[.int .i64 a2_0, .int .i64 a2_1, .int .i64 a2_2, .string a2_3, .slice A2_4 l2_4.length c2_4, .slice A2_5 l2_5.length c2_5] 33 (0, 0)) apI hb)
                replace BK158 := zA (zP (g := gb158) (o := .cells #[.int .i64 0, .int .i64 0, .int .i64 0, .string (⟨#[]⟩ : ByteArray), .slice none 0 0, .slice none 0 0] 33 (0, 0)) apK hb)
                replace BK161 := zA (zP (g := gb161) (o := .cells #[.int .i64 6, .int .i64 0, .int .i64 0, .string (⟨#[]⟩ : ByteArray), .slice none 0 0, .slice none 0 0] 33 (0, 0)) apP hb)
                replace HK := zA (Kept.below (S := (fun k_ => P0_5_ k_)) apF hb)
                replace HB := zA (zQ apN hb)
                clear hb ho66
                refine hK.out _ _ ⟨(zJ BK156.out 0).trans rfl, (zJ BK156.out 1).trans rfl, (zJ BK156.out 2).trans rfl, (zJ BK156.out 3).trans rfl, (zJ BK156.out 4).trans rfl, (zJ BK156.out 5).trans rfl⟩ (fun hHeld => ?_)
                clear hK K
                refine norm_ (a' := ?_) ?_ ?_
                rotate_left
                ·show Act.put _ (some 41) _ = _
                 simp only [Act.put, zL, zM, zN, i64_w, i32_w]
                 rfl
                exact norm_ (by simp only [putAll, Act.put, zL, zM, zN]) (hCont (v163, v171, v174) _ ⟨hHeld, (by (with_reducible repeat (first | apply Kd.V_alloc | apply Kd.V_drewN | apply Kd.V_drew)); exact Kd.V_mono HO169.out (fun _ hk => ⟨hk.1.1.1, ⟨hk.1.2, ⟨hk.2, ⟨hk.1.1.2.1, ⟨hk.1.1.2.2.1, ⟨hk.1.1.2.2.2.1, hk.1.1.2.2.2.2⟩⟩⟩⟩⟩⟩)), (by (with_reducible repeat (first | apply Kd.R_alloc | apply Kd.R_drewN | apply Kd.R_drew)); exact Kd.R_mono HO172.out (fun _ hk => ⟨hk.1.1, ⟨hk.2, hk.1.2⟩⟩)), (by (with_reducible repeat (first | apply Kd.R_alloc | apply Kd.R_drewN | apply Kd.R_drew)); exact Kd.R_mono HO175.out (fun _ hk => ⟨hk.1.1.1, ⟨hk.2, hk.1.2⟩⟩)), (by (with_reducible repeat (first | apply Kd.V_alloc | apply Kd.V_drewN | apply Kd.V_drew)); exact Kd.V_mono HO183.out (fun _ hk => ⟨hk.1.1.1, ⟨hk.1.2, ⟨hk.2, ⟨hk.1.1.2.1, ⟨hk.1.1.2.2.1, ⟨hk.1.1.2.2.2.1, hk.1.1.2.2.2.2⟩⟩⟩⟩⟩⟩)), (by (with_reducible repeat (first | apply Kd.V_alloc | apply Kd.V_drewN | apply Kd.V_drew)); exact Kd.V_mono HO_157004.out (fun _ hk => ⟨hk.1.1.1, ⟨hk.1.2, ⟨hk.2, ⟨hk.1.1.2.1, ⟨hk.1.1.2.2.1, ⟨hk.1.1.2.2.2.1, ⟨hk.1.1.2.2.2.2.1, hk.1.1.2.2.2.2.2⟩⟩⟩⟩⟩⟩⟩)), (by (with_reducible repeat (first | apply Kd.R_alloc | apply Kd.R_drewN | apply Kd.R_drew)); exact Kd.R_mono HO_157005.out (fun _ hk => ⟨hk.1.1, ⟨hk.1.2, hk.2⟩⟩)), (by (with_reducible repeat (first | apply Kd.V_alloc | apply Kd.V_drewN | apply Kd.V_drew)); exact Kd.V_mono HO_158004.out (fun _ hk => ⟨hk.1.1.1, ⟨hk.1.2, ⟨hk.2, ⟨hk.1.1.2.1, ⟨hk.1.1.2.2.1, ⟨hk.1.1.2.2.2.1, ⟨hk.1.1.2.2.2.2.1, hk.1.1.2.2.2.2.2⟩⟩⟩⟩⟩⟩⟩)), (by (with_reducible repeat (first | apply Kd.V_alloc | apply Kd.V_drewN | apply Kd.V_drew)); exact Kd.V_mono HO_158005.out (fun _ hk => ⟨hk.1.1.1, ⟨hk.1.2, ⟨hk.2, ⟨hk.1.1.2.1, ⟨hk.1.1.2.2.1, ⟨hk.1.1.2.2.2.1, ⟨hk.1.1.2.2.2.2.1, hk.1.1.2.2.2.2.2⟩⟩⟩⟩⟩⟩⟩)), apG, apI, apK, apP, apF, apN⟩)
               ·skip
                refine Kd.R_lit_step Kd.string _ 9 ?hg (N := 41) ?hd (xs := ([a1] : List ByteArray)) (inner := [.string a1]) (ok := fun _ => True) (okp := fun _ => True) ?hr ?hp (fun _ hk => hk) trivial (yG _ _) (yH _) (by simp) ?_; (case hd => rfl); (case hg => rfl); (case hr => first | (go_simp; done) | (go_simp; rfl)); (case hp => exact (Reps.one (show Kd.M Kd.string _ _ _ a1 [.string a1] from rfl) (Reps.none _ _)))
                intro v174 w64 ho65 hb hg_ hnew_
                clear hg_ hnew_
                (first | rw [← Ny173.out] at ho65 | (simp only [Int.reduceToNat] at ho65; rw [← Ny173.out] at ho65))
                replace HO_157004 := zA (Kd.V_elder' (vwV HO_157004.out) (Kd.R_base ho65) hb)
                replace HO_158004 := zA (Kd.V_elder' (vwV HO_158004.out) (Kd.R_base ho65) hb)
                replace HO_158005 := zA (Kd.V_elder' (vwV HO_158005.out) (Kd.R_base ho65) hb)
                replace HO169 := zA (Kd.V_elder' (vwV HO169.out) (Kd.R_base ho65) hb)
                replace HO183 := zA (Kd.V_elder' (vwV HO183.out) (Kd.R_base ho65) hb)
                have HO175 := zA (Kd.R_lower (Kd.R_new' (Kd.R_new' (Kd.R_newM (M := fun k_ => (P0_5_ k_ ∨ w.heap.size ≤ k_)) ho65 apV (fun k_ h_ => .inr h_)) (Kd.R_lt (vwR HO_157005.out))) (Kd.R_lt (vwR HO164.out))) (zR apN))
                replace HO_157005 := zA (Kd.R_elder' (vwR HO_157005.out) (Kd.R_base ho65) hb)
                replace HO164 := zA (Kd.R_elder' (vwR HO164.out) (Kd.R_base ho65) hb)
                replace BK156 := zA (zP (g := gb156) (o := .cells #[.int .i64 a0_0, .int .i64 a0_1, .int .i64 a0_2, .string a0_3, .slice A0_4 l0_4.length c0_4, .slice Ao20 l0_5.length co20] 33 (0, 0)) apG hb)
                replace BK157 := zA (zP (g := gb157) (o := .cells #[.int .i64 a2_0, .int .i64 a2_1, .int .i64 a2_2, .string a2_3, .slice A2_4 l2_4.length c2_4, .slice A2_5 l2_5.length c2_5] 33 (0, 0)) apI hb)
                replace BK158 := zA (zP (g := gb158) (o := .cells #[.int .i64 0, .int .i64 0, .int .i64 0, .string (⟨#[]⟩ : ByteArray), .slice none 0 0, .slice none 0 0] 33 (0, 0)) apK hb)
                replace BK161 := zA (zP (g := gb161) (o := .cells #[.int .i64 6, .int .i64 0, .int .i64 0, .string (⟨#[]⟩ : ByteArray), .slice none 0 0, .slice none 0 0] 33 (0, 0)) apP hb)
                replace HK := zA (Kept.below (S := (fun k_ => P0_5_ k_)) apF hb)
                replace HB := zA (zQ apN hb)
                clear hb ho65
                refine hK.out _ _ ⟨(zJ BK156.out 0).trans rfl, (zJ BK156.out 1).trans rfl, (zJ BK156.out 2).trans rfl, (zJ BK156.out 3).trans rfl, (zJ BK156.out 4).trans rfl, (zJ BK156.out 5).trans rfl⟩ (fun hHeld => ?_)
                clear hK K
                refine norm_ (a' := ?_) ?_ ?_
                rotate_left
                ·show Act.put _ (some 41) _ = _
                 simp only [Act.put, zL, zM, zN, i64_w, i32_w]
                 rfl
                refine one_ (i := 5) (N := some 39) #[true, true, true, true, true, true, true, true, false, true, true, true, true, false, false, false] rfl rfl (one_of HT_.out (by kernel_rfl)) (by decide) (fun K hK => ?_)
                refine Kd.R_append_rows_step Kd.string (w0 := w0) w0.heap.size (by rfl) (.tmp 34) (.tmp 38) 25 9 (.string ⟨#[]⟩) 16 rfl Tryd.underlying25 info9 rfl (by decide) (by omega) v163 y162 y165 _ _ _ (fun k_ => (P0_5_ k_ ∨ w.heap.size ≤ k_) ∧ zn (.slice Ao20 l0_5.length co20) k_ ∧ some k_ ≠ (v174 : Value).ownBlock) (fun _ => False) rfl rfl ?aO ?aR (fun _ _ h => h) (fun _ h => h.elim) ?aF ?aB ?aS ?aL ?_
                (case aR => repeat (first | exact (Kd.V_reads' HO169.out).2.2 | (with_reducible refine Kd.C_alloc ?_ _) | (with_reducible refine Kd.C_drewN ?_ _) | (with_reducible refine Kd.C_drew ?_)))
                (case aB => exact apN)
                (case aF => exact (fun k_ hk => ⟨(.inr (Nat.le_trans apV hk)), Kd.fresh' (Kd.R_lt (vwR HO_157005.out)) k_ hk, Kd.fresh' (Kd.R_lt (vwR HO175.out)) k_ hk⟩))
                (case aO => exact (by (with_reducible repeat (first | apply Kd.R_alloc | apply Kd.R_drewN | apply Kd.R_drew)); exact Kd.R_mono HO164.out (fun _ hk => ⟨hk.1.1.1, ⟨hk.1.2, hk.2⟩⟩)))
                (case aS => exact (zR apN))
                (case aL => have := LMc41.out; (first | omega | (simp only [ByteArray.size, List.size_toArray, List.length_cons, List.length_nil] at *; omega)))
                intro v171 w66 ho hb hg hat
                rw [← Ny170.out] at ho
                replace HO_157004 := zA (Kd.V_afterv (ok := (fun k_ => ((P0_5_ k_ ∨ P0_4_ k_ ∨ P2_4_ k_ ∨ P2_5_ k_) ∨ w.heap.size ≤ k_) ∧ zn (.slice Ao20 l0_5.length co20) k_ ∧ some k_ ≠ (v174 : Value).ownBlock ∧ k_ ≠ gb156 ∧ k_ ≠ gb157 ∧ k_ ≠ gb158 ∧ k_ ≠ gb161)) (by (with_reducible repeat (first | apply Kd.V_alloc | apply Kd.V_drewN | apply Kd.V_drew)); exact Kd.V_mono HO_157004.out (fun _ hk => ⟨⟨hk.1.1.1, ⟨hk.1.1.2.1, ⟨hk.2, ⟨hk.1.1.2.2.1, ⟨hk.1.1.2.2.2.1, ⟨hk.1.1.2.2.2.2.1, hk.1.1.2.2.2.2.2⟩⟩⟩⟩⟩⟩, hk.1.2⟩)) hg hat)
                replace HO_157005 := zA (Kd.R_after (ok := (fun k_ => (P0_5_ k_ ∨ w.heap.size ≤ k_) ∧ some k_ ≠ (v174 : Value).ownBlock)) (by (with_reducible repeat (first | apply Kd.R_alloc | apply Kd.R_drewN | apply Kd.R_drew)); exact Kd.R_mono HO_157005.out (fun _ hk => ⟨⟨hk.1.1, hk.2⟩, hk.1.2⟩)) hg hat)
                replace HO_158004 := zA (Kd.V_afterv (ok := (fun k_ => ((P0_5_ k_ ∨ P0_4_ k_ ∨ P2_4_ k_ ∨ P2_5_ k_) ∨ w.heap.size ≤ k_) ∧ zn (.slice Ao20 l0_5.length co20) k_ ∧ some k_ ≠ (v174 : Value).ownBlock ∧ k_ ≠ gb156 ∧ k_ ≠ gb157 ∧ k_ ≠ gb158 ∧ k_ ≠ gb161)) (by (with_reducible repeat (first | apply Kd.V_alloc | apply Kd.V_drewN | apply Kd.V_drew)); exact Kd.V_mono HO_158004.out (fun _ hk => ⟨⟨hk.1.1.1, ⟨hk.1.1.2.1, ⟨hk.2, ⟨hk.1.1.2.2.1, ⟨hk.1.1.2.2.2.1, ⟨hk.1.1.2.2.2.2.1, hk.1.1.2.2.2.2.2⟩⟩⟩⟩⟩⟩, hk.1.2⟩)) hg hat)
                replace HO_158005 := zA (Kd.V_afterv (ok := (fun k_ => ((P0_5_ k_ ∨ P0_4_ k_ ∨ P2_4_ k_ ∨ P2_5_ k_) ∨ w.heap.size ≤ k_) ∧ zn (.slice Ao20 l0_5.length co20) k_ ∧ some k_ ≠ (v174 : Value).ownBlock ∧ k_ ≠ gb156 ∧ k_ ≠ gb157 ∧ k_ ≠ gb158 ∧ k_ ≠ gb161)) (by (with_reducible repeat (first | apply Kd.V_alloc | apply Kd.V_drewN | apply Kd.V_drew)); exact Kd.V_mono HO_158005.out (fun _ hk => ⟨⟨hk.1.1.1, ⟨hk.1.1.2.1, ⟨hk.2, ⟨hk.1.1.2.2.1, ⟨hk.1.1.2.2.2.1, ⟨hk.1.1.2.2.2.2.1, hk.1.1.2.2.2.2.2⟩⟩⟩⟩⟩⟩, hk.1.2⟩)) hg hat)
                replace BK156 := zA (blk_grown (g := gb156) (o := .cells #[.int .i64 a0_0, .int .i64 a0_1, .int .i64 a0_2, .string a0_3, .slice A0_4 l0_4.length c0_4, .slice Ao20 l0_5.length co20] 33 (0, 0)) apG hg (Kd.R_ne HO164.out BK156.out (by decide)))
                replace BK157 := zA (blk_grown (g := gb157) (o := .cells #[.int .i64 a2_0, .int .i64 a2_1, .int .i64 a2_2, .string a2_3, .slice A2_4 l2_4.length c2_4, .slice A2_5 l2_5.length c2_5] 33 (0, 0)) apI hg (Kd.R_ne HO164.out BK157.out (by decide)))
                replace BK158 := zA (blk_grown (g := gb158) (o := .cells #[.int .i64 0, .int .i64 0, .int .i64 0, .string (⟨#[]⟩ : ByteArray), .slice none 0 0, .slice none 0 0] 33 (0, 0)) apK hg (Kd.R_ne HO164.out BK158.out (by decide)))
                replace BK161 := zA (blk_grown (g := gb161) (o := .cells #[.int .i64 6, .int .i64 0, .int .i64 0, .string (⟨#[]⟩ : ByteArray), .slice none 0 0, .slice none 0 0] 33 (0, 0)) apP hg (Kd.R_ne HO164.out BK161.out (by decide)))
                replace HO169 := zA (Kd.V_afterv (ok := (fun k_ => ((P0_5_ k_ ∨ P0_4_ k_ ∨ P2_4_ k_ ∨ P2_5_ k_) ∨ w.heap.size ≤ k_) ∧ some k_ ≠ (v174 : Value).ownBlock ∧ k_ ≠ gb156 ∧ k_ ≠ gb157 ∧ k_ ≠ gb158 ∧ k_ ≠ gb161)) (by (with_reducible repeat (first | apply Kd.V_alloc | apply Kd.V_drewN | apply Kd.V_drew)); exact Kd.V_mono HO169.out (fun _ hk => ⟨⟨hk.1.1.1.1.1.1, ⟨hk.2, ⟨hk.1.1.1.1.1.2, ⟨hk.1.1.1.1.2, ⟨hk.1.1.1.2, hk.1.1.2⟩⟩⟩⟩⟩, hk.1.2⟩)) hg hat)
                replace HO183 := zA (Kd.V_afterv (ok := (fun k_ => ((P0_5_ k_ ∨ P0_4_ k_ ∨ P2_4_ k_ ∨ P2_5_ k_) ∨ w.heap.size ≤ k_) ∧ some k_ ≠ (v174 : Value).ownBlock ∧ k_ ≠ gb156 ∧ k_ ≠ gb157 ∧ k_ ≠ gb158 ∧ k_ ≠ gb161)) (by (with_reducible repeat (first | apply Kd.V_alloc | apply Kd.V_drewN | apply Kd.V_drew)); exact Kd.V_mono HO183.out (fun _ hk => ⟨⟨hk.1.1.1.1.1.1, ⟨hk.2, ⟨hk.1.1.1.1.1.2, ⟨hk.1.1.1.1.2, ⟨hk.1.1.1.2, hk.1.1.2⟩⟩⟩⟩⟩, hk.1.2⟩)) hg hat)
                replace HO175 := zA (Kd.R_after (ok := (fun k_ => (P0_5_ k_ ∨ w.heap.size ≤ k_) ∧ zn (.slice Ao20 l0_5.length co20) k_)) (by (with_reducible repeat (first | apply Kd.R_alloc | apply Kd.R_drewN | apply Kd.R_drew)); exact Kd.R_mono HO175.out (fun _ hk => ⟨⟨hk.1.1.1, hk.1.2⟩, hk.2⟩)) hg hat)
                replace HB := zA (hb)
                replace HK := zA (Kept.of_grown (S := (fun k_ => P0_5_ k_)) hg apF (fun k_ e_ => (HO164.out.1 k_ e_).1.1.1))
                have HO172 := zA (ho)
                clear HO164
                clear ho hb hg hat
                refine hK.out _ _ ⟨(zJ BK156.out 0).trans rfl, (zJ BK156.out 1).trans rfl, (zJ BK156.out 2).trans rfl, (zJ BK156.out 3).trans rfl, (zJ BK156.out 4).trans rfl, (zJ BK156.out 5).trans rfl⟩ (fun hHeld => ?_)
                clear hK K
                refine norm_ (a' := ?_) ?_ ?_
                rotate_left
                ·show Act.put _ (some 39) _ = _
                 simp only [Act.put, zL, zM, zN, i64_w, i32_w]
                 rfl
                exact norm_ (by simp only [putAll, Act.put, zL, zM, zN]) (hCont (v163, v171, v174) _ ⟨hHeld, (by (with_reducible repeat (first | apply Kd.V_alloc | apply Kd.V_drewN | apply Kd.V_drew)); exact Kd.V_mono HO169.out (fun _ hk => ⟨hk.1.1, ⟨hk.2, ⟨hk.1.2.1, ⟨hk.1.2.2.1, ⟨hk.1.2.2.2.1, ⟨hk.1.2.2.2.2.1, hk.1.2.2.2.2.2⟩⟩⟩⟩⟩⟩)), (by (with_reducible repeat (first | apply Kd.R_alloc | apply Kd.R_drewN | apply Kd.R_drew)); exact Kd.R_mono HO172.out (fun _ hk => ⟨hk.1, ⟨hk.2.2, hk.2.1⟩⟩)), (by (with_reducible repeat (first | apply Kd.R_alloc | apply Kd.R_drewN | apply Kd.R_drew)); exact Kd.R_mono HO175.out (fun _ hk => ⟨hk.1.1, ⟨hk.2, hk.1.2⟩⟩)), (by (with_reducible repeat (first | apply Kd.V_alloc | apply Kd.V_drewN | apply Kd.V_drew)); exact Kd.V_mono HO183.out (fun _ hk => ⟨hk.1.1, ⟨hk.2, ⟨hk.1.2.1, ⟨hk.1.2.2.1, ⟨hk.1.2.2.2.1, ⟨hk.1.2.2.2.2.1, hk.1.2.2.2.2.2⟩⟩⟩⟩⟩⟩)), (by (with_reducible repeat (first | apply Kd.V_alloc | apply Kd.V_drewN | apply Kd.V_drew)); exact Kd.V_mono HO_157004.out (fun _ hk => ⟨hk.1.1, ⟨hk.2, ⟨hk.1.2.2.1, ⟨hk.1.2.1, ⟨hk.1.2.2.2.1, ⟨hk.1.2.2.2.2.1, ⟨hk.1.2.2.2.2.2.1, hk.1.2.2.2.2.2.2⟩⟩⟩⟩⟩⟩⟩)), (by (with_reducible repeat (first | apply Kd.R_alloc | apply Kd.R_drewN | apply Kd.R_drew)); exact Kd.R_mono HO_157005.out (fun _ hk => ⟨hk.1.1, ⟨hk.2, hk.1.2⟩⟩)), (by (with_reducible repeat (first | apply Kd.V_alloc | apply Kd.V_drewN | apply Kd.V_drew)); exact Kd.V_mono HO_158004.out (fun _ hk => ⟨hk.1.1, ⟨hk.2, ⟨hk.1.2.2.1, ⟨hk.1.2.1, ⟨hk.1.2.2.2.1, ⟨hk.1.2.2.2.2.1, ⟨hk.1.2.2.2.2.2.1, hk.1.2.2.2.2.2.2⟩⟩⟩⟩⟩⟩⟩)), (by (with_reducible repeat (first | apply Kd.V_alloc | apply Kd.V_drewN | apply Kd.V_drew)); exact Kd.V_mono HO_158005.out (fun _ hk => ⟨hk.1.1, ⟨hk.2, ⟨hk.1.2.2.1, ⟨hk.1.2.1, ⟨hk.1.2.2.2.1, ⟨hk.1.2.2.2.2.1, ⟨hk.1.2.2.2.2.2.1, hk.1.2.2.2.2.2.2⟩⟩⟩⟩⟩⟩⟩)), apG, apI, apK, apP, apF, apN⟩)
              ·skip
               refine Kd.R_lit_step Kd.string _ 9 ?hg (N := 41) ?hd (xs := ([a1] : List ByteArray)) (inner := [.string a1]) (ok := fun _ => True) (okp := fun _ => True) ?hr ?hp (fun _ hk => hk) trivial (yG _ _) (yH _) (by simp) ?_; (case hd => rfl); (case hg => rfl); (case hr => first | (go_simp; done) | (go_simp; rfl)); (case hp => exact (Reps.one (show Kd.M Kd.string _ _ _ a1 [.string a1] from rfl) (Reps.none _ _)))
               intro v174 w62 ho63 hb hg_ hnew_
               clear hg_ hnew_
               (first | rw [← Ny173.out] at ho63 | (simp only [Int.reduceToNat] at ho63; rw [← Ny173.out] at ho63))
               replace HO_157004 := zA (Kd.V_elder' (vwV HO_157004.out) (Kd.R_base ho63) hb)
               replace HO_158004 := zA (Kd.V_elder' (vwV HO_158004.out) (Kd.R_base ho63) hb)
               replace HO_158005 := zA (Kd.V_elder' (vwV HO_158005.out) (Kd.R_base ho63) hb)
               replace HO169 := zA (Kd.V_elder' (vwV HO169.out) (Kd.R_base ho63) hb)
               replace HO183 := zA (Kd.V_elder' (vwV HO183.out) (Kd.R_base ho63) hb)
               have HO175 := zA (Kd.R_lower (Kd.R_new' (Kd.R_newM (M := fun k_ => (P0_5_ k_ ∨ w.heap.size ≤ k_)) ho63 apV (fun k_ h_ => .inr h_)) (Kd.R_lt (vwR HO_157005.out))) (zR apN))
               replace HO_157005 := zA (Kd.R_elder' (vwR HO_157005.out) (Kd.R_base ho63) hb)
               replace BK156 := zA (zP (g := gb156) (o := .cells #[.int .i64 a0_0, .int .i64 a0_1, .int .i64 a0_2, .string a0_3, .slice A0_4 l0_4.length c0_4, .slice Ao20 l0_5.length co20] 33 (0, 0)) apG hb)
               replace BK157 := zA (zP (g := gb157) (o := .cells #[.int .i64 a2_0, .int .i64 a2_1, .int .i64 a2_2, .string a2_3, .slice A2_4 l2_4.length c2_4, .slice A2_5 l2_5.length c2_5] 33 (0, 0)) apI hb)
               replace BK158 := zA (zP (g := gb158) (o := .cells #[.int .i64 0, .int .i64 0, .int .i64 0, .string (⟨#[]⟩ : ByteArray), .slice none 0 0, .slice none 0 0] 33 (0, 0)) apK hb)
               replace BK161 := zA (zP (g := gb161) (o := .cells #[.int .i64 6, .int .i64 0, .int .i64 0, .string (⟨#[]⟩ : ByteArray), .slice none 0 0, .slice none 0 0] 33 (0, 0)) apP hb)
               replace HK := zA (Kept.below (S := (fun k_ => P0_5_ k_)) apF hb)
               replace HB := zA (zQ apN hb)
               clear hb ho63
               refine hK.out _ _ ⟨(zJ BK156.out 0).trans rfl, (zJ BK156.out 1).trans rfl, (zJ BK156.out 2).trans rfl, (zJ BK156.out 3).trans rfl, (zJ BK156.out 4).trans rfl, (zJ BK156.out 5).trans rfl⟩ (fun hHeld => ?_)
               clear hK K
               refine norm_ (a' := ?_) ?_ ?_
               rotate_left
               ·show Act.put _ (some 41) _ = _
                simp only [Act.put, zL, zM, zN, i64_w, i32_w]
                rfl
               refine one_ (i := 0) (N := some 34) #[true, true, true, true, true, false, true, true, false, true, true, true, true, false, false, false] rfl rfl (one_of HT_.out (by kernel_rfl)) (by decide) (fun K hK => ?_)
               refine Kd.R_lit_step Kd.string _ 9 ?hg (N := 34) ?hd (xs := ([] : List ByteArray)) (inner := []) (ok := fun _ => True) (okp := fun _ => True) ?hr ?hp (fun _ hk => hk) trivial (yG _ _) (yH _) (by simp) ?_; (case hd => rfl); (case hg => rfl); (case hr => first | (go_simp; done) | (go_simp; rfl)); (case hp => exact (Reps.none _ _))
               intro v163 w64 ho65 hb hg_ hnew_
               clear hg_ hnew_
               (first | rw [← Ny162.out] at ho65 | (simp only [Int.reduceToNat] at ho65; rw [← Ny162.out] at ho65))
               replace HO_157004 := zA (Kd.V_elder' (vwV HO_157004.out) (Kd.R_base ho65) hb)
               replace HO_158004 := zA (Kd.V_elder' (vwV HO_158004.out) (Kd.R_base ho65) hb)
               replace HO_158005 := zA (Kd.V_elder' (vwV HO_158005.out) (Kd.R_base ho65) hb)
               replace HO169 := zA (Kd.V_elder' (vwV HO169.out) (Kd.R_base ho65) hb)
               replace HO183 := zA (Kd.V_elder' (vwV HO183.out) (Kd.R_base ho65) hb)
               have HO164 := zA (Kd.R_lower (Kd.R_new' (Kd.R_new' (Kd.R_newM (M := fun k_ => (P0_5_ k_ ∨ w.heap.size ≤ k_)) ho65 apV (fun k_ h_ => .inr h_)) (Kd.R_lt (vwR HO_157005.out))) (Kd.R_lt (vwR HO175.out))) (zR apN))
               replace HO_157005 := zA (Kd.R_elder' (vwR HO_157005.out) (Kd.R_base ho65) hb)
               replace HO175 := zA (Kd.R_elder' (vwR HO175.out) (Kd.R_base ho65) hb)
               replace BK156 := zA (zP (g := gb156) (o := .cells #[.int .i64 a0_0, .int .i64 a0_1, .int .i64 a0_2, .string a0_3, .slice A0_4 l0_4.length c0_4, .slice Ao20 l0_5.length co20] 33 (0, 0)) apG hb)
               replace BK157 := zA (zP (g := gb157) (o := .cells #[.int .i64 a2_0, .int .i64 a2_1, .int .i64 a2_2, .string a2_3, .slice A2_4 l2_4.length c2_4, .slice A2_5 l2_5.length c2_5] 33 (0, 0)) apI hb)
               replace BK158 := zA (zP (g := gb158) (o := .cells #[.int .i64 0, .int .i64 0, .int .i64 0, .string (⟨#[]⟩ : ByteArray), .slice none 0 0, .slice none 0 0] 33 (0, 0)) apK hb)
               replace BK161 := zA (zP (g := gb161) (o := .cells #[.int .i64 6, .int .i64 0, .int .i64 0, .string (⟨#[]⟩ : ByteArray), .slice none 0 0, .slice none 0 0] 33 (0, 0)) apP hb)
               replace HK := zA (Kept.below (S := (fun k_ => P0_5_ k_)) apF hb)
               replace HB := zA (zQ apN hb)
               clear hb ho65
               refine hK.out _ _ ⟨(zJ BK156.out 0).trans rfl, (zJ BK156.out 1).trans rfl, (zJ BK156.out 2).trans rfl, (zJ BK156.out 3).trans rfl, (zJ BK156.out 4).trans rfl, (zJ BK156.out 5).trans rfl⟩ (fun hHeld => ?_)
               clear hK K
               refine norm_ (a' := ?_) ?_ ?_
               rotate_left
               ·show Act.put _ (some 34) _ = _
                simp only [Act.put, zL, zM, zN, i64_w, i32_w]
                rfl
               refine one_ (i := 5) (N := some 39) #[true, true, true, true, true, true, true, true, false, true, true, true, true, false, false, false] rfl rfl (one_of HT_.out (by kernel_rfl)) (by decide) (fun K hK => ?_)
               refine Kd.R_append_rows_step Kd.string (w0 := w0) w0.heap.size (by rfl) (.tmp 34) (.tmp 38) 25 9 (.string ⟨#[]⟩) 16 rfl Tryd.underlying25 info9 rfl (by decide) (by omega) v163 y162 y165 _ _ _ (fun k_ => (P0_5_ k_ ∨ w.heap.size ≤ k_) ∧ zn (.slice Ao20 l0_5.length co20) k_ ∧ some k_ ≠ (v174 : Value).ownBlock) (fun _ => False) rfl rfl ?aO ?aR (fun _ _ h => h) (fun _ h => h.elim) ?aF ?aB ?aS ?aL ?_
               (case aR => repeat (first | exact (Kd.V_reads' HO169.out).2.2 | (with_reducible refine Kd.C_alloc ?_ _) | (with_reducible refine Kd.C_drewN ?_ _) | (with_reducible refine Kd.C_drew ?_)))
               (case aB => exact apN)
               (case aF => exact (fun k_ hk => ⟨(.inr (Nat.le_trans apV hk)), Kd.fresh' (Kd.R_lt (vwR HO_157005.out)) k_ hk, Kd.fresh' (Kd.R_lt (vwR HO175.out)) k_ hk⟩))
               (case aO => exact (by (with_reducible repeat (first | apply Kd.R_alloc | apply Kd.R_drewN | apply Kd.R_drew)); exact Kd.R_mono HO164.out (fun _ hk => ⟨hk.1.1.1, ⟨hk.1.2, hk.2⟩⟩)))
               (case aS => exact (zR apN))
               (case aL => have := LMc41.out; (first | omega | (simp only [ByteArray.size, List.size_toArray, List.length_cons, List.length_nil] at *; omega)))
               intro v171 w66 ho hb hg hat
               rw [← Ny170.out] at ho
               replace HO_157004 := zA (Kd.V_afterv (ok := (fun k_ => ((P0_5_ k_ ∨ P0_4_ k_ ∨ P2_4_ k_ ∨ P2_5_ k_) ∨ w.heap.size ≤ k_) ∧ zn (.slice Ao20 l0_5.length co20) k_ ∧ some k_ ≠ (v174 : Value).ownBlock ∧ k_ ≠ gb156 ∧ k_ ≠ gb157 ∧ k_ ≠ gb158 ∧ k_ ≠ gb161)) (by (with_reducible repeat (first | apply Kd.V_alloc | apply Kd.V_drewN | apply Kd.V_drew)); exact Kd.V_mono HO_157004.out (fun _ hk => ⟨⟨hk.1.1.1, ⟨hk.1.1.2.1, ⟨hk.1.2, ⟨hk.1.1.2.2.1, ⟨hk.1.1.2.2.2.1, ⟨hk.1.1.2.2.2.2.1, hk.1.1.2.2.2.2.2⟩⟩⟩⟩⟩⟩, hk.2⟩)) hg hat)
               replace HO_157005 := zA (Kd.R_after (ok := (fun k_ => (P0_5_ k_ ∨ w.heap.size ≤ k_) ∧ some k_ ≠ (v174 : Value).ownBlock)) (vwR HO_157005.out) hg hat)
               replace HO_158004 := zA (Kd.V_afterv (ok := (fun k_ => ((P0_5_ k_ ∨ P0_4_ k_ ∨ P2_4_ k_ ∨ P2_5_ k_) ∨ w.heap.size ≤ k_) ∧ zn (.slice Ao20 l0_5.length co20) k_ ∧ some k_ ≠ (v174 : Value).ownBlock ∧ k_ ≠ gb156 ∧ k_ ≠ gb157 ∧ k_ ≠ gb158 ∧ k_ ≠ gb161)) (by (with_reducible repeat (first | apply Kd.V_alloc | apply Kd.V_drewN | apply Kd.V_drew)); exact Kd.V_mono HO_158004.out (fun _ hk => ⟨⟨hk.1.1.1, ⟨hk.1.1.2.1, ⟨hk.1.2, ⟨hk.1.1.2.2.1, ⟨hk.1.1.2.2.2.1, ⟨hk.1.1.2.2.2.2.1, hk.1.1.2.2.2.2.2⟩⟩⟩⟩⟩⟩, hk.2⟩)) hg hat)
               replace HO_158005 := zA (Kd.V_afterv (ok := (fun k_ => ((P0_5_ k_ ∨ P0_4_ k_ ∨ P2_4_ k_ ∨ P2_5_ k_) ∨ w.heap.size ≤ k_) ∧ zn (.slice Ao20 l0_5.length co20) k_ ∧ some k_ ≠ (v174 : Value).ownBlock ∧ k_ ≠ gb156 ∧ k_ ≠ gb157 ∧ k_ ≠ gb158 ∧ k_ ≠ gb161)) (by (with_reducible repeat (first | apply Kd.V_alloc | apply Kd.V_drewN | apply Kd.V_drew)); exact Kd.V_mono HO_158005.out (fun _ hk => ⟨⟨hk.1.1.1, ⟨hk.1.1.2.1, ⟨hk.1.2, ⟨hk.1.1.2.2.1, ⟨hk.1.1.2.2.2.1, ⟨hk.1.1.2.2.2.2.1, hk.1.1.2.2.2.2.2⟩⟩⟩⟩⟩⟩, hk.2⟩)) hg hat)
               replace BK156 := zA (blk_grown (g := gb156) (o := .cells #[.int .i64 a0_0, .int .i64 a0_1, .int .i64 a0_2, .string a0_3, .slice A0_4 l0_4.length c0_4, .slice Ao20 l0_5.length co20] 33 (0, 0)) apG hg (Kd.R_ne HO164.out BK156.out (by decide)))
               replace BK157 := zA (blk_grown (g := gb157) (o := .cells #[.int .i64 a2_0, .int .i64 a2_1, .int .i64 a2_2, .string a2_3, .slice A2_4 l2_4.length c2_4, .slice A2_5 l2_5.length c2_5] 33 (0, 0)) apI hg (Kd.R_ne HO164.out BK157.out (by decide)))
               replace BK158 := zA (blk_grown (g := gb158) (o := .cells #[.int .i64 0, .int .i64 0, .int .i64 0, .string (⟨#[]⟩ : ByteArray), .slice none 0 0, .slice none 0 0] 33 (0, 0)) apK hg (Kd.R_ne HO164.out BK158.out (by decide)))
               replace BK161 := zA (blk_grown (g := gb161) (o := .cells #[.int .i64 6, .int .i64 0, .int .i64 0, .string (⟨#[]⟩ : ByteArray), .slice none 0 0, .slice none 0 0] 33 (0, 0)) apP hg (Kd.R_ne HO164.out BK161.out (by decide)))
               replace HO169 := zA (Kd.V_afterv (ok := (fun k_ => ((P0_5_ k_ ∨ P0_4_ k_ ∨ P2_4_ k_ ∨ P2_5_ k_) ∨ w.heap.size ≤ k_) ∧ some k_ ≠ (v174 : Value).ownBlock ∧ k_ ≠ gb156 ∧ k_ ≠ gb157 ∧ k_ ≠ gb158 ∧ k_ ≠ gb161)) (by (with_reducible repeat (first | apply Kd.V_alloc | apply Kd.V_drewN | apply Kd.V_drew)); exact Kd.V_mono HO169.out (fun _ hk => ⟨⟨hk.1.1.1.1.1.1, ⟨hk.1.2, ⟨hk.1.1.1.1.1.2, ⟨hk.1.1.1.1.2, ⟨hk.1.1.1.2, hk.1.1.2⟩⟩⟩⟩⟩, hk.2⟩)) hg hat)
               replace HO183 := zA (Kd.V_afterv (ok := (fun k_ => ((P0_5_ k_ ∨ P0_4_ k_ ∨ P2_4_ k_ ∨ P2_5_ k_) ∨ w.heap.size ≤ k_) ∧ some k_ ≠ (v174 : Value).ownBlock ∧ k_ ≠ gb156 ∧ k_ ≠ gb157 ∧ k_ ≠ gb158 ∧ k_ ≠ gb161)) (by (with_reducible repeat (first | apply Kd.V_alloc | apply Kd.V_drewN | apply Kd.V_drew)); exact Kd.V_mono HO183.out (fun _ hk => ⟨⟨hk.1.1.1.1.1.1, ⟨hk.1.2, ⟨hk.1.1.1.1.1.2, ⟨hk.1.1.1.1.2, ⟨hk.1.1.1.2, hk.1.1.2⟩⟩⟩⟩⟩, hk.2⟩)) hg hat)
               replace HO175 := zA (Kd.R_after (ok := (fun k_ => (P0_5_ k_ ∨ w.heap.size ≤ k_) ∧ zn (.slice Ao20 l0_5.length co20) k_)) (by (with_reducible repeat (first | apply Kd.R_alloc | apply Kd.R_drewN | apply Kd.R_drew)); exact Kd.R_mono HO175.out (fun _ hk => ⟨⟨hk.1.1.1, hk.1.2⟩, hk.2⟩)) hg hat)
               replace HB := zA (hb)
               replace HK := zA (Kept.of_grown (S := (fun k_ => P0_5_ k_)) hg apF (fun k_ e_ => (HO164.out.1 k_ e_).1.1.1))
               have HO172 := zA (ho)
               clear HO164
               clear ho hb hg hat
               refine hK.out _ _ ⟨(zJ BK156.out 0).trans rfl, (zJ BK156.out 1).trans rfl, (zJ BK156.out 2).trans rfl, (zJ BK156.out 3).trans rfl, (zJ BK156.out 4).trans rfl, (zJ BK156.out 5).trans rfl⟩ (fun hHeld => ?_)
               clear hK K
               refine norm_ (a' := ?_) ?_ ?_
               rotate_left
               ·show Act.put _ (some 39) _ = _
                simp only [Act.put, zL, zM, zN, i64_w, i32_w]
                rfl
               exact norm_ (by simp only [putAll, Act.put, zL, zM, zN]) (hCont (v163, v171, v174) _ ⟨hHeld, (by (with_reducible repeat (first | apply Kd.V_alloc | apply Kd.V_drewN | apply Kd.V_drew)); exact Kd.V_mono HO169.out (fun _ hk => ⟨hk.1.1, ⟨hk.2, ⟨hk.1.2.1, ⟨hk.1.2.2.1, ⟨hk.1.2.2.2.1, ⟨hk.1.2.2.2.2.1, hk.1.2.2.2.2.2⟩⟩⟩⟩⟩⟩)), (by (with_reducible repeat (first | apply Kd.R_alloc | apply Kd.R_drewN | apply Kd.R_drew)); exact Kd.R_mono HO172.out (fun _ hk => ⟨hk.1, ⟨hk.2.2, hk.2.1⟩⟩)), (by (with_reducible repeat (first | apply Kd.R_alloc | apply Kd.R_drewN | apply Kd.R_drew)); exact Kd.R_mono HO175.out (fun _ hk => ⟨hk.1.1, ⟨hk.2, hk.1.2⟩⟩)), (by (with_reducible repeat (first | apply Kd.V_alloc | apply Kd.V_drewN | apply Kd.V_drew)); exact Kd.V_mono HO183.out (fun _ hk => ⟨hk.1.1, ⟨hk.2, ⟨hk.1.2.1, ⟨hk.1.2.2.1, ⟨hk.1.2.2.2.1, ⟨hk.1.2.2.2.2.1, hk.1.2.2.2.2.2⟩⟩⟩⟩⟩⟩)), (by (with_reducible repeat (first | apply Kd.V_alloc | apply Kd.V_drewN | apply Kd.V_drew)); exact Kd.V_mono HO_157004.out (fun _ hk => ⟨hk.1.1, ⟨hk.2, ⟨hk.1.2.2.1, ⟨hk.1.2.1, ⟨hk.1.2.2.2.1, ⟨hk.1.2.2.2.2.1, ⟨hk.1.2.2.2.2.2.1, hk.1.2.2.2.2.2.2⟩⟩⟩⟩⟩⟩⟩)), (by (with_reducible repeat (first | apply Kd.R_alloc | apply Kd.R_drewN | apply Kd.R_drew)); exact Kd.R_mono HO_157005.out (fun _ hk => ⟨hk.1.1, ⟨hk.2, hk.1.2⟩⟩)), (by (with_reducible repeat (first | apply Kd.V_alloc | apply Kd.V_drewN | apply Kd.V_drew)); exact Kd.V_mono HO_158004.out (fun _ hk => ⟨hk.1.1, ⟨hk.2, ⟨hk.1.2.2.1, ⟨hk.1.2.1, ⟨hk.1.2.2.2.1, ⟨hk.1.2.2.2.2.1, ⟨hk.1.2.2.2.2.2.1, hk.1.2.2.2.2.2.2⟩⟩⟩⟩⟩⟩⟩)), (by (with_reducible repeat (first | apply Kd.V_alloc | apply Kd.V_drewN | apply Kd.V_drew)); exact Kd.V_mono HO_158005.out (fun _ hk => ⟨hk.1.1, ⟨hk.2, ⟨hk.1.2.2.1, ⟨hk.1.2.1, ⟨hk.1.2.2.2.1, ⟨hk.1.2.2.2.2.1, ⟨hk.1.2.2.2.2.2.1, hk.1.2.2.2.2.2.2⟩⟩⟩⟩⟩⟩⟩)), apG, apI, apK, apP, apF, apN⟩)
             rintro ⟨v163, v171, v174⟩ w67 ⟨hS_, h0_, h1_, h2_, h3_, h4_, h5_, h6_, h7_, h8_, h9_, h10_, h11_, h12_, h13_⟩
             have n0_ : Aside0 (Kd.V Kd.string 9 w67 w0.heap.size (fun k_ => ((P0_5_ k_ ∨ P0_4_ k_ ∨ P2_4_ k_ ∨ P2_5_ k_) ∨ w.heap.size ≤ k_) ∧ some k_ ≠ (v171 : Value).ownBlock ∧ some k_ ≠ (v174 : Value).ownBlock ∧ k_ ≠ gb156 ∧ k_ ≠ gb157 ∧ k_ ≠ gb158 ∧ k_ ≠ gb161) (.slice Ao20 y165.length co20) y165) := ⟨h0_⟩
             have n1_ : Aside0 (Kd.R Kd.string 9 w67 w0.heap.size (fun k_ => (P0_5_ k_ ∨ w.heap.size ≤ k_) ∧ some k_ ≠ (v174 : Value).ownBlock ∧ zn (.slice Ao20 l0_5.length co20) k_) v171 y170) := ⟨h1_⟩
             have n2_ : Aside0 (Kd.R Kd.string 9 w67 w0.heap.size (fun k_ => (P0_5_ k_ ∨ w.heap.size ≤ k_) ∧ some k_ ≠ (v171 : Value).ownBlock ∧ zn (.slice Ao20 l0_5.length co20) k_) v174 y173) := ⟨h2_⟩
             have n3_ : Aside0 (Kd.V Kd.string 9 w67 w0.heap.size (fun k_ => ((P0_5_ k_ ∨ P0_4_ k_ ∨ P2_4_ k_ ∨ P2_5_ k_) ∨ w.heap.size ≤ k_) ∧ some k_ ≠ (v171 : Value).ownBlock ∧ some k_ ≠ (v174 : Value).ownBlock ∧ k_ ≠ gb156 ∧ k_ ≠ gb157 ∧ k_ ≠ gb158 ∧ k_ ≠ gb161) (.slice A61 y179.length c61) y179) := ⟨h3_⟩
             have n4_ : Aside0 (Kd.V k33 33 w67 w0.heap.size (fun k_ => ((P0_5_ k_ ∨ P0_4_ k_ ∨ P2_4_ k_ ∨ P2_5_ k_) ∨ w.heap.size ≤ k_) ∧ some k_ ≠ (v171 : Value).ownBlock ∧ some k_ ≠ (v174 : Value).ownBlock ∧ zn (.slice Ao20 l0_5.length co20) k_ ∧ k_ ≠ gb156 ∧ k_ ≠ gb157 ∧ k_ ≠ gb158 ∧ k_ ≠ gb161) (.slice A0_4 l0_4.length c0_4) l0_4) := ⟨h4_⟩
             have n5_ : Aside0 (Kd.R Kd.string 9 w67 w0.heap.size (fun k_ => (P0_5_ k_ ∨ w.heap.size ≤ k_) ∧ some k_ ≠ (v171 : Value).ownBlock ∧ some k_ ≠ (v174 : Value).ownBlock) (.slice Ao20 l0_5.length co20) l0_5) := ⟨h5_⟩
             have n6_ : Aside0 (Kd.V k33 33 w67 w0.heap.size (fun k_ => ((P0_5_ k_ ∨ P0_4_ k_ ∨ P2_4_ k_ ∨ P2_5_ k_) ∨ w.heap.size ≤ k_) ∧ some k_ ≠ (v171 : Value).ownBlock ∧ some k_ ≠ (v174 : Value).ownBlock ∧ zn (.slice Ao20 l0_5.length co20) k_ ∧ k_ ≠ gb156 ∧ k_ ≠ gb157 ∧ k_ ≠ gb158 ∧ k_ ≠ gb161) (.slice A2_4 l2_4.length c2_4) l2_4) := ⟨h6_⟩
             have n7_ : Aside0 (Kd.V Kd.string 9 w67 w0.heap.size (fun k_ => ((P0_5_ k_ ∨ P0_4_ k_ ∨ P2_4_ k_ ∨ P2_5_ k_) ∨ w.heap.size ≤ k_) ∧ some k_ ≠ (v171 : Value).ownBlock ∧ some k_ ≠ (v174 : Value).ownBlock ∧ zn (.slice Ao20 l0_5.length co20) k_ ∧ k_ ≠ gb156 ∧ k_ ≠ gb157 ∧ k_ ≠ gb158 ∧ k_ ≠ gb161) (.slice A2_5 l2_5.length c2_5) l2_5) := ⟨h7_⟩
             have n8_ : Aside0 (w67.heap[gb156]? = some (.cells #[.int .i64 a0_0, .int .i64 a0_1, .int .i64 a0_2, .string a0_3, .slice A0_4 l0_4.length c0_4, .slice Ao20 l0_5.length co20] 33 (0, 0))) := ⟨h8_⟩
             have n9_ : Aside0 (w67.heap[gb157]? = some (.cells #[.int .i64 a2_0, .int .i64 a2_1, .int .i64 a2_2, .string a2_3, .slice A2_4 l2_4.length c2_4, .slice A2_5 l2_5.length c2_5] 33 (0, 0))) := ⟨h9_⟩
             have n10_ : Aside0 (w67.heap[gb158]? = some (.cells #[.int .i64 0, .int .i64 0, .int .i64 0, .string (⟨#[]⟩ : ByteArray), .slice none 0 0, .slice none 0 0] 33 (0, 0))) := ⟨h10_⟩
             have n11_ : Aside0 (w67.heap[gb161]? = some (.cells #[.int .i64 6, .int .i64 0, .int .i64 0, .string (⟨#[]⟩ : ByteArray), .slice none 0 0, .slice none 0 0] 33 (0, 0))) := ⟨h11_⟩
             have n12_ : Aside0 (Kept w w67 (fun k_ => P0_5_ k_)) := ⟨h12_⟩
             have n13_ : Aside0 (Below w0.heap.size w0 w67) := ⟨h13_⟩
             clear HO_157004
             clear HO_157005
             clear HO_158004
             clear HO_158005
             clear BK156
             clear BK157
             clear BK158
             clear BK161
             clear HK
             clear HB
             clear h0_ h1_ h2_ h3_ h4_ h5_ h6_ h7_ h8_ h9_ h10_ h11_ h12_ h13_
             have HO169 := n0_
             have HO172 := n1_
             have HO175 := n2_
             have HO183 := n3_
             have HO_157004 := n4_
             have HO_157005 := n5_
             have HO_158004 := n6_
             have HO_158005 := n7_
             have BK156 := n8_
             have BK157 := n9_
             have BK158 := n10_
             have BK161 := n11_
             have HK := n12_
             have HB := n13_
             clear n0_ n1_ n2_ n3_ n4_ n5_ n6_ n7_ n8_ n9_ n10_ n11_ n12_ n13_
             have hHeld : w67.cell? ⟨gb156, 0, none⟩ = some (.int .i64 a0_0) ∧ w67.cell? ⟨gb156, 1, none⟩ = some (.int .i64 a0_1) ∧ w67.cell? ⟨gb156, 2, none⟩ = some (.int .i64 a0_2) ∧ w67.cell? ⟨gb156, 3, none⟩ = some (.string a0_3) ∧ w67.cell? ⟨gb156, 4, none⟩ = some (.slice A0_4 l0_4.length c0_4) ∧ w67.cell? ⟨gb156, 5, none⟩ = some (.slice Ao20 l0_5.length co20) := hS_
             obtain ⟨Ao69, co69, eo69⟩ := Kd.R_slice HO175.out
             (first | subst eo69 | (injection eo69 with f1_ f2_ f3_; have f4_ := f1_.symm; have f5_ := f3_.symm; clear f1_ f2_ f3_; subst f4_; subst f5_))
             refine norm_ (a' := ?_) ?_ ?_
             rotate_left
             ·simp only [putAll, Act.put, zL, zM, zN]
              rfl
             refine one_ (i := 8) (N := some 42) #[true, true, true, true, true, true, true, true, true, true, true, true, true, false, false, false] rfl rfl (one_of HT_.out (by kernel_rfl)) (by decide) (fun K hK => ?_)
             refine Kd.R_append_rows_step Kd.string (w0 := w0) w0.heap.size (by rfl) (.tmp 39) (.tmp 41) 25 9 (.string ⟨#[]⟩) 16 rfl Tryd.underlying25 info9 rfl (by decide) (by omega) v171 y170 y173 _ _ _ (fun k_ => (P0_5_ k_ ∨ w.heap.size ≤ k_) ∧ zn (.slice Ao20 l0_5.length co20) k_ ∧ zn (.slice Ao69 y173.length co69) k_) (fun _ => False) rfl rfl ?aO ?aR (fun _ _ h => h) (fun _ h => h.elim) ?aF ?aB ?aS ?aL ?_
             (case aR => exact vc (Kd.R_reads' HO175.out).2.2)
             (case aB => exact apN)
             (case aF => exact (fun k_ hk => ⟨(.inr (Nat.le_trans apV hk)), Kd.fresh' (Kd.R_lt (vwR HO_157005.out)) k_ hk, Kd.fresh' (Kd.R_lt (vwR HO175.out)) k_ hk⟩))
             (case aO => exact (by (with_reducible repeat (first | apply Kd.R_alloc | apply Kd.R_drewN | apply Kd.R_drew)); exact Kd.R_mono HO172.out (fun _ hk => ⟨hk.1, ⟨hk.2.2, hk.2.1⟩⟩)))
             (case aS => exact (zR apN))
             (case aL => have := LMc42.out; (first | omega | (simp only [ByteArray.size, List.size_toArray, List.length_cons, List.length_nil] at *; omega)))
             intro v177 w68 ho hb hg hat
             rw [← Ny176.out] at ho
             replace HO_157004 := zA (Kd.V_afterv (ok := (fun k_ => ((P0_5_ k_ ∨ P0_4_ k_ ∨ P2_4_ k_ ∨ P2_5_ k_) ∨ w.heap.size ≤ k_) ∧ zn (.slice Ao20 l0_5.length co20) k_ ∧ zn (.slice Ao69 y173.length co69) k_ ∧ k_ ≠ gb156 ∧ k_ ≠ gb157 ∧ k_ ≠ gb158 ∧ k_ ≠ gb161)) (by (with_reducible repeat (first | apply Kd.V_alloc | apply Kd.V_drewN | apply Kd.V_drew)); exact Kd.V_mono HO_157004.out (fun _ hk => ⟨⟨hk.1, ⟨hk.2.2.2.1, ⟨hk.2.2.1, ⟨hk.2.2.2.2.1, ⟨hk.2.2.2.2.2.1, ⟨hk.2.2.2.2.2.2.1, hk.2.2.2.2.2.2.2⟩⟩⟩⟩⟩⟩, hk.2.1⟩)) hg hat)
             replace HO_157005 := zA (Kd.R_after (ok := (fun k_ => (P0_5_ k_ ∨ w.heap.size ≤ k_) ∧ zn (.slice Ao69 y173.length co69) k_)) (by (with_reducible repeat (first | apply Kd.R_alloc | apply Kd.R_drewN | apply Kd.R_drew)); exact Kd.R_mono HO_157005.out (fun _ hk => ⟨⟨hk.1, hk.2.2⟩, hk.2.1⟩)) hg hat)
             replace HO_158004 := zA (Kd.V_afterv (ok := (fun k_ => ((P0_5_ k_ ∨ P0_4_ k_ ∨ P2_4_ k_ ∨ P2_5_ k_) ∨ w.heap.size ≤ k_) ∧ zn (.slice Ao20 l0_5.length co20) k_ ∧ zn (.slice Ao69 y173.length co69) k_ ∧ k_ ≠ gb156 ∧ k_ ≠ gb157 ∧ k_ ≠ gb158 ∧ k_ ≠ gb161)) (by (with_reducible repeat (first | apply Kd.V_alloc | apply Kd.V_drewN | apply Kd.V_drew)); exact Kd.V_mono HO_158004.out (fun _ hk => ⟨⟨hk.1, ⟨hk.2.2.2.1, ⟨hk.2.2.1, ⟨hk.2.2.2.2.1, ⟨hk.2.2.2.2.2.1, ⟨hk.2.2.2.2.2.2.1, hk.2.2.2.2.2.2.2⟩⟩⟩⟩⟩⟩, hk.2.1⟩)) hg hat)
             replace HO_158005 := zA (Kd.V_afterv (ok := (fun k_ => ((P0_5_ k_ ∨ P0_4_ k_ ∨ P2_4_ k_ ∨ P2_5_ k_) ∨ w.heap.size ≤ k_) ∧ zn (.slice Ao20 l0_5.length co20) k_ ∧ zn (.slice Ao69 y173.length co69) k_ ∧ k_ ≠ gb156 ∧ k_ ≠ gb157 ∧ k_ ≠ gb158 ∧ k_ ≠ gb161)) (by (with_reducible repeat (first | apply Kd.V_alloc | apply Kd.V_drewN | apply Kd.V_drew)); exact Kd.V_mono HO_158005.out (fun _ hk => ⟨⟨hk.1, ⟨hk.2.2.2.1, ⟨hk.2.2.1, ⟨hk.2.2.2.2.1, ⟨hk.2.2.2.2.2.1, ⟨hk.2.2.2.2.2.2.1, hk.2.2.2.2.2.2.2⟩⟩⟩⟩⟩⟩, hk.2.1⟩)) hg hat)
             replace BK156 := zA (blk_grown (g := gb156) (o := .cells #[.int .i64 a0_0, .int .i64 a0_1, .int .i64 a0_2, .string a0_3, .slice A0_4 l0_4.length c0_4, .slice Ao20 l0_5.length co20] 33 (0, 0)) apG hg (Kd.R_ne HO172.out BK156.out (by decide)))
             replace BK157 := zA (blk_grown (g := gb157) (o := .cells #[.int .i64 a2_0, .int .i64 a2_1, .int .i64 a2_2, .string a2_3, .slice A2_4 l2_4.length c2_4, .slice A2_5 l2_5.length c2_5] 33 (0, 0)) apI hg (Kd.R_ne HO172.out BK157.out (by decide)))
             replace BK158 := zA (blk_grown (g := gb158) (o := .cells #[.int .i64 0, .int .i64 0, .int .i64 0, .string (⟨#[]⟩ : ByteArray), .slice none 0 0, .slice none 0 0] 33 (0, 0)) apK hg (Kd.R_ne HO172.out BK158.out (by decide)))
             replace BK161 := zA (blk_grown (g := gb161) (o := .cells #[.int .i64 6, .int .i64 0, .int .i64 0, .string (⟨#[]⟩ : ByteArray), .slice none 0 0, .slice none 0 0] 33 (0, 0)) apP hg (Kd.R_ne HO172.out BK161.out (by decide)))
             replace HO169 := zA (Kd.V_afterv (ok := (fun k_ => ((P0_5_ k_ ∨ P0_4_ k_ ∨ P2_4_ k_ ∨ P2_5_ k_) ∨ w.heap.size ≤ k_) ∧ zn (.slice Ao69 y173.length co69) k_ ∧ k_ ≠ gb156 ∧ k_ ≠ gb157 ∧ k_ ≠ gb158 ∧ k_ ≠ gb161)) (by (with_reducible repeat (first | apply Kd.V_alloc | apply Kd.V_drewN | apply Kd.V_drew)); exact Kd.V_mono HO169.out (fun _ hk => ⟨⟨hk.1, ⟨hk.2.2.1, ⟨hk.2.2.2.1, ⟨hk.2.2.2.2.1, ⟨hk.2.2.2.2.2.1, hk.2.2.2.2.2.2⟩⟩⟩⟩⟩, hk.2.1⟩)) hg hat)
             replace HO183 := zA (Kd.V_afterv (ok := (fun k_ => ((P0_5_ k_ ∨ P0_4_ k_ ∨ P2_4_ k_ ∨ P2_5_ k_) ∨ w.heap.size ≤ k_) ∧ zn (.slice Ao69 y173.length co69) k_ ∧ k_ ≠ gb156 ∧ k_ ≠ gb157 ∧ k_ ≠ gb158 ∧ k_ ≠ gb161)) (by (with_reducible repeat (first | apply Kd.V_alloc | apply Kd.V_drewN | apply Kd.V_drew)); exact Kd.V_mono HO183.out (fun _ hk => ⟨⟨hk.1, ⟨hk.2.2.1, ⟨hk.2.2.2.1, ⟨hk.2.2.2.2.1, ⟨hk.2.2.2.2.2.1, hk.2.2.2.2.2.2⟩⟩⟩⟩⟩, hk.2.1⟩)) hg hat)
             replace HO175 := zA (Kd.R_after (ok := (fun k_ => (P0_5_ k_ ∨ w.heap.size ≤ k_) ∧ zn (.slice Ao20 l0_5.length co20) k_)) (by (with_reducible repeat (first | apply Kd.R_alloc | apply Kd.R_drewN | apply Kd.R_drew)); exact Kd.R_mono HO175.out (fun _ hk => ⟨⟨hk.1, hk.2.2⟩, hk.2.1⟩)) hg hat)
             replace HB := zA (hb)
             replace HK := zA (Kept.of_grown (S := (fun k_ => P0_5_ k_)) hg apF (fun k_ e_ => (HO172.out.1 k_ e_).1))
             have HO178 := zA (ho)
             clear HO172
             clear ho hb hg hat
             refine hK.out _ _ ⟨(zJ BK156.out 0).trans rfl, (zJ BK156.out 1).trans rfl, (zJ BK156.out 2).trans rfl, (zJ BK156.out 3).trans rfl, (zJ BK156.out 4).trans rfl, (zJ BK156.out 5).trans rfl⟩ (fun hHeld => ?_)
             clear hK K
             refine norm_ (a' := ?_) ?_ ?_
             rotate_left
             ·show Act.put _ (some 42) _ = _
              simp only [Act.put, zL, zM, zN, i64_w, i32_w]
              rfl
             refine one_ (i := 13) (N := some 47) #[true, true, true, true, true, true, true, true, true, true, true, true, true, true, false, false] rfl rfl (one_of HT_.out (by kernel_rfl)) (by decide) (fun K hK => ?_)
             refine Kd.R_append_rows_step Kd.string (w0 := w0) w0.heap.size (by rfl) (.tmp 42) (.tmp 46) 25 9 (.string ⟨#[]⟩) 16 rfl Tryd.underlying25 info9 rfl (by decide) (by omega) v177 y176 y179 _ _ _ (fun k_ => (P0_5_ k_ ∨ w.heap.size ≤ k_) ∧ zn (.slice Ao20 l0_5.length co20) k_ ∧ zn (.slice Ao69 y173.length co69) k_) (fun _ => False) rfl rfl ?aO ?aR (fun _ _ h => h) (fun _ h => h.elim) ?aF ?aB ?aS ?aL ?_
             (case aR => repeat (first | exact (Kd.V_reads' HO183.out).2.2 | (with_reducible refine Kd.C_alloc ?_ _) | (with_reducible refine Kd.C_drewN ?_ _) | (with_reducible refine Kd.C_drew ?_)))
             (case aB => exact apN)
             (case aF => exact (fun k_ hk => ⟨(.inr (Nat.le_trans apV hk)), Kd.fresh' (Kd.R_lt (vwR HO_157005.out)) k_ hk, Kd.fresh' (Kd.R_lt (vwR HO175.out)) k_ hk⟩))
             (case aO => exact (vwR HO178.out))
             (case aS => exact (zR apN))
             (case aL => have := LMc45.out; (first | omega | (simp only [ByteArray.size, List.size_toArray, List.length_cons, List.length_nil] at *; omega)))
             intro v185 w70 ho hb hg hat
             rw [← Ny184.out] at ho
             replace HO_157004 := zA (Kd.V_afterv (ok := (fun k_ => ((P0_5_ k_ ∨ P0_4_ k_ ∨ P2_4_ k_ ∨ P2_5_ k_) ∨ w.heap.size ≤ k_) ∧ zn (.slice Ao20 l0_5.length co20) k_ ∧ zn (.slice Ao69 y173.length co69) k_ ∧ k_ ≠ gb156 ∧ k_ ≠ gb157 ∧ k_ ≠ gb158 ∧ k_ ≠ gb161)) (vwV HO_157004.out) hg hat)
             replace HO_157005 := zA (Kd.R_after (ok := (fun k_ => (P0_5_ k_ ∨ w.heap.size ≤ k_) ∧ zn (.slice Ao69 y173.length co69) k_)) (vwR HO_157005.out) hg hat)
             replace HO_158004 := zA (Kd.V_afterv (ok := (fun k_ => ((P0_5_ k_ ∨ P0_4_ k_ ∨ P2_4_ k_ ∨ P2_5_ k_) ∨ w.heap.size ≤ k_) ∧ zn (.slice Ao20 l0_5.length co20) k_ ∧ zn (.slice Ao69 y173.length co69) k_ ∧ k_ ≠ gb156 ∧ k_ ≠ gb157 ∧ k_ ≠ gb158 ∧ k_ ≠ gb161)) (vwV HO_158004.out) hg hat)
             replace HO_158005 := zA (Kd.V_afterv (ok := (fun k_ => ((P0_5_ k_ ∨ P0_4_ k_ ∨ P2_4_ k_ ∨ P2_5_ k_) ∨ w.heap.size ≤ k_) ∧ zn (.slice Ao20 l0_5.length co20) k_ ∧ zn (.slice Ao69 y173.length co69) k_ ∧ k_ ≠ gb156 ∧ k_ ≠ gb157 ∧ k_ ≠ gb158 ∧ k_ ≠ gb161)) (vwV HO_158005.out) hg hat)
             replace BK156 := zA (blk_grown (g := gb156) (o := .cells #[.int .i64 a0_0, .int .i64 a0_1, .int .i64 a0_2, .string a0_3, .slice A0_4 l0_4.length c0_4, .slice Ao20 l0_5.length co20] 33 (0, 0)) apG hg (Kd.R_ne HO178.out BK156.out (by decide)))
             replace BK157 := zA (blk_grown (g := gb157) (o := .cells #[.int .i64 a2_0, .int .i64 a2_1, .int .i64 a2_2, .string a2_3, .slice A2_4 l2_4.length c2_4, .slice A2_5 l2_5.length c2_5] 33 (0, 0)) apI hg (Kd.R_ne HO178.out BK157.out (by decide)))
             replace BK158 := zA (blk_grown (g := gb158) (o := .cells #[.int .i64 0, .int .i64 0, .int .i64 0, .string (⟨#[]⟩ : ByteArray), .slice none 0 0, .slice none 0 0] 33 (0, 0)) apK hg (Kd.R_ne HO178.out BK158.out (by decide)))
             replace BK161 := zA (blk_grown (g := gb161) (o := .cells #[.int .i64 6, .int .i64 0, .int .i64 0, .string (⟨#[]⟩ : ByteArray), .slice none 0 0, .slice none 0 0] 33 (0, 0)) apP hg (Kd.R_ne HO178.out BK161.out (by decide)))
             replace HO169 := zA (Kd.V_afterv (ok := (fun k_ => ((P0_5_ k_ ∨ P0_4_ k_ ∨ P2_4_ k_ ∨ P2_5_ k_) ∨ w.heap.size ≤ k_) ∧ zn (.slice Ao69 y173.length co69) k_ ∧ k_ ≠ gb156 ∧ k_ ≠ gb157 ∧ k_ ≠ gb158 ∧ k_ ≠ gb161)) (vwV HO169.out) hg hat)
             replace HO183 := zA (Kd.V_afterv (ok := (fun k_ => ((P0_5_ k_ ∨ P0_4_ k_ ∨ P2_4_ k_ ∨ P2_5_ k_) ∨ w.heap.size ≤ k_) ∧ zn (.slice Ao69 y173.length co69) k_ ∧ k_ ≠ gb156 ∧ k_ ≠ gb157 ∧ k_ ≠ gb158 ∧ k_ ≠ gb161)) (vwV HO183.out) hg hat)
             replace HO175 := zA (Kd.R_after (ok := (fun k_ => (P0_5_ k_ ∨ w.heap.size ≤ k_) ∧ zn (.slice Ao20 l0_5.length co20) k_)) (vwR HO175.out) hg hat)
             replace HB := zA (hb)
             replace HK := zA (Kept.of_grown (S := (fun k_ => P0_5_ k_)) hg apF (fun k_ e_ => (HO178.out.1 k_ e_).1))
             have HO186 := zA (ho)
             clear HO178
             clear ho hb hg hat
             obtain ⟨Ao71, co71, eo71⟩ := Kd.R_slice HO186.out
             (first | subst eo71 | (injection eo71 with f1_ f2_ f3_; have f4_ := f1_.symm; have f5_ := f3_.symm; clear f1_ f2_ f3_; subst f4_; subst f5_))
             refine hK.out _ _ ⟨(zJ BK156.out 0).trans rfl, (zJ BK156.out 1).trans rfl, (zJ BK156.out 2).trans rfl, (zJ BK156.out 3).trans rfl, (zJ BK156.out 4).trans rfl, (zJ BK156.out 5).trans rfl⟩ (fun hHeld => ?_)
             clear hK K
             refine norm_ (a' := ?_) ?_ ?_
             rotate_left
             ·show Act.put _ (some 47) _ = _
              simp only [Act.put, zL, zM, zN, i64_w, i32_w]
              rfl
             refine pure_ (i := 14) (N := some 48) (v := ?_) (a' := ?_) #[true, true, true, true, true, true, true, true, true, true, true, true, true, true, true, false] rfl rfl (any_of HT_.out (by kernel_rfl)) (fun _ _ _ h => h) (Or.inl ⟨by rfl, ?_⟩) ?_ ?_
             rotate_left
             ·intro w'
              go_simp
              with_reducible rfl
             rotate_left
             ·simp only [Act.put, zL, zM, zN, i64_w, i32_w]
              rfl
             refine one_ (i := 15) (N := none) #[true, true, true, true, true, true, true, true, true, true, true, true, true, true, true, true] rfl rfl (one_of HT_.out (by kernel_rfl)) (by decide) (fun K hK => ?_)
             have hs72 : w70.cell? ⟨gb161, 5, none⟩ = some (.slice none 0 0) := (zJ BK161.out 5).trans rfl
             have hfs72 := zK BK161.out 5
             have hns72_0 := NB156_161.out
             have hns72_1 := NB157_161.out
             have hns72_2 := NB158_161.out
             have hms72_0 := NB161_156.out
             have hms72_1 := NB161_157.out
             have hms72_2 := NB161_158.out
             refine skip_ (w1 := ?_) (by rfl) rfl ?_ ?_
             rotate_left
             ·go_simp
              rfl
             refine hK.out _ _ ⟨((cell_far (p := ⟨gb161, _, none⟩) NB156_161.out _).trans (hHeld.1)), ((cell_far (p := ⟨gb161, _, none⟩) NB156_161.out _).trans (hHeld.2.1)), ((cell_far (p := ⟨gb161, _, none⟩) NB156_161.out _).trans (hHeld.2.2.1)), ((cell_far (p := ⟨gb161, _, none⟩) NB156_161.out _).trans (hHeld.2.2.2.1)), ((cell_far (p := ⟨gb161, _, none⟩) NB156_161.out _).trans (hHeld.2.2.2.2.1)), ((cell_far (p := ⟨gb161, _, none⟩) NB156_161.out _).trans (hHeld.2.2.2.2.2))⟩ (fun hHeld => ?_)
             clear hK K
             refine done_ (done_of HT_.out (by kernel_rfl)) ?_
             try go_wp2
             have n0_ : Aside0 (Kd.V k33 33 (w70.setCell ⟨gb161, 5, none⟩ (.slice Ao71 y184.length co71)) w0.heap.size (fun k_ => ((P0_5_ k_ ∨ P0_4_ k_ ∨ P2_4_ k_ ∨ P2_5_ k_) ∨ w.heap.size ≤ k_) ∧ zn (.slice Ao20 l0_5.length co20) k_ ∧ zn (.slice Ao69 y173.length co69) k_ ∧ zn (.slice Ao71 y184.length co71) k_ ∧ k_ ≠ gb156 ∧ k_ ≠ gb157 ∧ k_ ≠ gb158 ∧ k_ ≠ gb161) (.slice A0_4 l0_4.length c0_4) l0_4) := ⟨by (with_reducible repeat (first | apply Kd.V_alloc | apply Kd.V_drewN | apply Kd.V_drew)); exact Kd.V_mono (Kd.V_far (p := ⟨gb161, 5, none⟩) (Kd.V_mono HO_157004.out (fun k_ hk => (⟨hk, hk.1.2.2.2.2.2.2⟩ : _ ∧ k_ ≠ gb161))) (fun _ hk => hk.2) (.slice Ao71 y184.length co71)) (fun _ hk => ⟨hk.1.1.1, ⟨hk.1.1.2.1, ⟨hk.1.1.2.2.1, ⟨hk.1.2, ⟨hk.1.1.2.2.2.1, ⟨hk.1.1.2.2.2.2.1, ⟨hk.1.1.2.2.2.2.2.1, hk.1.1.2.2.2.2.2.2⟩⟩⟩⟩⟩⟩⟩)⟩
             have n1_ : Aside0 (Kd.R Kd.string 9 (w70.setCell ⟨gb161, 5, none⟩ (.slice Ao71 y184.length co71)) w0.heap.size (fun k_ => (P0_5_ k_ ∨ w.heap.size ≤ k_) ∧ zn (.slice Ao69 y173.length co69) k_ ∧ zn (.slice Ao71 y184.length co71) k_) (.slice Ao20 l0_5.length co20) l0_5) := ⟨by (with_reducible repeat (first | apply Kd.R_alloc | apply Kd.R_drewN | apply Kd.R_drew)); exact Kd.R_mono (Kd.R_far (p := ⟨gb161, 5, none⟩) (Kd.R_types HO_157005.out BK161.out (by decide)) (fun _ hk => hk.2) (.slice Ao71 y184.length co71)) (fun _ hk => ⟨hk.1.1.1, ⟨hk.1.1.2, hk.1.2⟩⟩)⟩
             have n2_ : Aside0 (Kd.V k33 33 (w70.setCell ⟨gb161, 5, none⟩ (.slice Ao71 y184.length co71)) w0.heap.size (fun k_ => ((P0_5_ k_ ∨ P0_4_ k_ ∨ P2_4_ k_ ∨ P2_5_ k_) ∨ w.heap.size ≤ k_) ∧ zn (.slice Ao20 l0_5.length co20) k_ ∧ zn (.slice Ao69 y173.length co69) k_ ∧ zn (.slice Ao71 y184.length co71) k_ ∧ k_ ≠ gb156 ∧ k_ ≠ gb157 ∧ k_ ≠ gb158 ∧ k_ ≠ gb161) (.slice A2_4 l2_4.length c2_4) l2_4) := ⟨by (with_reducible repeat (first | apply Kd.V_alloc | apply Kd.V_drewN | apply Kd.V_drew)); exact Kd.V_mono (Kd.V_far (p := ⟨gb161, 5, none⟩) (Kd.V_mono HO_158004.out (fun k_ hk => (⟨hk, hk.1.2.2.2.2.2.2⟩ : _ ∧ k_ ≠ gb161))) (fun _ hk => hk.2) (.slice Ao71 y184.length co71)) (fun _ hk => ⟨hk.1.1.1, ⟨hk.1.1.2.1, ⟨hk.1.1.2.2.1, ⟨hk.1.2, ⟨hk.1.1.2.2.2.1, ⟨hk.1.1.2.2.2.2.1, ⟨hk.1.1.2.2.2.2.2.1, hk.1.1.2.2.2.2.2.2⟩⟩⟩⟩⟩⟩⟩)⟩
             have n3_ : Aside0 (Kd.V Kd.string 9 (w70.setCell ⟨gb161, 5, none⟩ (.slice Ao71 y184.length co71)) w0.heap.size (fun k_ => ((P0_5_ k_ ∨ P0_4_ k_ ∨ P2_4_ k_ ∨ P2_5_ k_) ∨ w.heap.size ≤ k_) ∧ zn (.slice Ao20 l0_5.length co20) k_ ∧ zn (.slice Ao69 y173.length co69) k_ ∧ zn (.slice Ao71 y184.length co71) k_ ∧ k_ ≠ gb156 ∧ k_ ≠ gb157 ∧ k_ ≠ gb158 ∧ k_ ≠ gb161) (.slice A2_5 l2_5.length c2_5) l2_5) := ⟨by (with_reducible repeat (first | apply Kd.V_alloc | apply Kd.V_drewN | apply Kd.V_drew)); exact Kd.V_mono (Kd.V_far (p := ⟨gb161, 5, none⟩) (Kd.V_mono HO_158005.out (fun k_ hk => (⟨hk, hk.1.2.2.2.2.2.2⟩ : _ ∧ k_ ≠ gb161))) (fun _ hk => hk.2) (.slice Ao71 y184.length co71)) (fun _ hk => ⟨hk.1.1.1, ⟨hk.1.1.2.1, ⟨hk.1.1.2.2.1, ⟨hk.1.2, ⟨hk.1.1.2.2.2.1, ⟨hk.1.1.2.2.2.2.1, ⟨hk.1.1.2.2.2.2.2.1, hk.1.1.2.2.2.2.2.2⟩⟩⟩⟩⟩⟩⟩)⟩
             have n4_ : Aside0 (Kd.V Kd.string 9 (w70.setCell ⟨gb161, 5, none⟩ (.slice Ao71 y184.length co71)) w0.heap.size (fun k_ => ((P0_5_ k_ ∨ P0_4_ k_ ∨ P2_4_ k_ ∨ P2_5_ k_) ∨ w.heap.size ≤ k_) ∧ zn (.slice Ao69 y173.length co69) k_ ∧ zn (.slice Ao71 y184.length co71) k_ ∧ k_ ≠ gb156 ∧ k_ ≠ gb157 ∧ k_ ≠ gb158 ∧ k_ ≠ gb161) (.slice Ao20 y165.length co20) y165) := ⟨by (with_reducible repeat (first | apply Kd.V_alloc | apply Kd.V_drewN | apply Kd.V_drew)); exact Kd.V_mono (Kd.V_far (p := ⟨gb161, 5, none⟩) (Kd.V_mono HO169.out (fun k_ hk => (⟨hk, hk.1.2.2.2.2.2⟩ : _ ∧ k_ ≠ gb161))) (fun _ hk => hk.2) (.slice Ao71 y184.length co71)) (fun _ hk => ⟨hk.1.1.1, ⟨hk.1.1.2.1, ⟨hk.1.2, ⟨hk.1.1.2.2.1, ⟨hk.1.1.2.2.2.1, ⟨hk.1.1.2.2.2.2.1, hk.1.1.2.2.2.2.2⟩⟩⟩⟩⟩⟩)⟩
             have n5_ : Aside0 (Kd.V Kd.string 9 (w70.setCell ⟨gb161, 5, none⟩ (.slice Ao71 y184.length co71)) w0.heap.size (fun k_ => ((P0_5_ k_ ∨ P0_4_ k_ ∨ P2_4_ k_ ∨ P2_5_ k_) ∨ w.heap.size ≤ k_) ∧ zn (.slice Ao69 y173.length co69) k_ ∧ zn (.slice Ao71 y184.length co71) k_ ∧ k_ ≠ gb156 ∧ k_ ≠ gb157 ∧ k_ ≠ gb158 ∧ k_ ≠ gb161) (.slice A61 y179.length c61) y179) := ⟨by (with_reducible repeat (first | apply Kd.V_alloc | apply Kd.V_drewN | apply Kd.V_drew)); exact Kd.V_mono (Kd.V_far (p := ⟨gb161, 5, none⟩) (Kd.V_mono HO183.out (fun k_ hk => (⟨hk, hk.1.2.2.2.2.2⟩ : _ ∧ k_ ≠ gb161))) (fun _ hk => hk.2) (.slice Ao71 y184.length co71)) (fun _ hk => ⟨hk.1.1.1, ⟨hk.1.1.2.1, ⟨hk.1.2, ⟨hk.1.1.2.2.1, ⟨hk.1.1.2.2.2.1, ⟨hk.1.1.2.2.2.2.1, hk.1.1.2.2.2.2.2⟩⟩⟩⟩⟩⟩)⟩
             have n6_ : Aside0 (Kd.R Kd.string 9 (w70.setCell ⟨gb161, 5, none⟩ (.slice Ao71 y184.length co71)) w0.heap.size (fun k_ => (P0_5_ k_ ∨ w.heap.size ≤ k_) ∧ zn (.slice Ao20 l0_5.length co20) k_ ∧ zn (.slice Ao71 y184.length co71) k_) (.slice Ao69 y173.length co69) y173) := ⟨by (with_reducible repeat (first | apply Kd.R_alloc | apply Kd.R_drewN | apply Kd.R_drew)); exact Kd.R_mono (Kd.R_far (p := ⟨gb161, 5, none⟩) (Kd.R_types HO175.out BK161.out (by decide)) (fun _ hk => hk.2) (.slice Ao71 y184.length co71)) (fun _ hk => ⟨hk.1.1.1, ⟨hk.1.1.2, hk.1.2⟩⟩)⟩
             have n7_ : Aside0 (Kd.R Kd.string 9 (w70.setCell ⟨gb161, 5, none⟩ (.slice Ao71 y184.length co71)) w0.heap.size (fun k_ => (P0_5_ k_ ∨ w.heap.size ≤ k_) ∧ zn (.slice Ao20 l0_5.length co20) k_ ∧ zn (.slice Ao69 y173.length co69) k_) (.slice Ao71 y184.length co71) y184) := ⟨by (with_reducible repeat (first | apply Kd.R_alloc | apply Kd.R_drewN | apply Kd.R_drew)); exact Kd.R_mono (Kd.R_far (p := ⟨gb161, 5, none⟩) (Kd.R_types HO186.out BK161.out (by decide)) (fun _ hk => hk.2) (.slice Ao71 y184.length co71)) (fun _ hk => ⟨hk.1.1, ⟨hk.1.2.1, hk.1.2.2⟩⟩)⟩
             have n8_ : Aside0 ((w70.setCell ⟨gb161, 5, none⟩ (.slice Ao71 y184.length co71)).heap[gb156]? = some (.cells #[.int .i64 a0_0, .int .i64 a0_1, .int .i64 a0_2, .string a0_3, .slice A0_4 l0_4.length c0_4, .slice Ao20 l0_5.length co20] 33 (0, 0))) := ⟨by (with_reducible repeat (first | refine zB ?_ _ | refine zD ?_ | refine zC ?_ _)); refine blk_far ?_ NB156_161.out _; (with_reducible repeat (first | refine zB ?_ _ | refine zD ?_ | refine zC ?_ _)); exact BK156.out⟩
             have n9_ : Aside0 ((w70.setCell ⟨gb161, 5, none⟩ (.slice Ao71 y184.length co71)).heap[gb157]? = some (.cells #[.int .i64 a2_0, .int .i64 a2_1, .int .i64 a2_2, .string a2_3, .slice A2_4 l2_4.length c2_4, .slice A2_5 l2_5.length c2_5] 33 (0, 0))) := ⟨by (with_reducible repeat (first | refine zB ?_ _ | refine zD ?_ | refine zC ?_ _)); refine blk_far ?_ NB157_161.out _; (with_reducible repeat (first | refine zB ?_ _ | refine zD ?_ | refine zC ?_ _)); exact BK157.out⟩
             have n10_ : Aside0 ((w70.setCell ⟨gb161, 5, none⟩ (.slice Ao71 y184.length co71)).heap[gb158]? = some (.cells #[.int .i64 0, .int .i64 0, .int .i64 0, .string (⟨#[]⟩ : ByteArray), .slice none 0 0, .slice none 0 0] 33 (0, 0))) := ⟨by (with_reducible repeat (first | refine zB ?_ _ | refine zD ?_ | refine zC ?_ _)); refine blk_far ?_ NB158_161.out _; (with_reducible repeat (first | refine zB ?_ _ | refine zD ?_ | refine zC ?_ _)); exact BK158.out⟩
             have n11_ : Aside0 ((w70.setCell ⟨gb161, 5, none⟩ (.slice Ao71 y184.length co71)).heap[gb161]? = some (.cells #[.int .i64 6, .int .i64 0, .int .i64 0, .string (⟨#[]⟩ : ByteArray), .slice none 0 0, .slice Ao71 y184.length co71] 33 (0, 0))) := ⟨by (with_reducible repeat (first | refine zB ?_ _ | refine zD ?_ | refine zC ?_ _)); refine blk_put (cs := #[.int .i64 6, .int .i64 0, .int .i64 0, .string (⟨#[]⟩ : ByteArray), .slice none 0 0, .slice none 0 0]) ?_ 5 _ rfl; (with_reducible repeat (first | refine zB ?_ _ | refine zD ?_ | refine zC ?_ _)); exact BK161.out⟩
             have n12_ : Aside0 (Kept w (w70.setCell ⟨gb161, 5, none⟩ (.slice Ao71 y184.length co71)) (fun k_ => P0_5_ k_)) := ⟨apF⟩
             have n13_ : Aside0 (Below w0.heap.size w0 (w70.setCell ⟨gb161, 5, none⟩ (.slice Ao71 y184.length co71))) := ⟨apN⟩
             (try clear HO_157004)
             (try clear HO_157005)
             (try clear HO_158004)
             (try clear HO_158005)
             (try clear HO169)
             (try clear HO183)
             (try clear HO175)
             (try clear HO186)
             (try clear BK156)
             (try clear BK157)
             (try clear BK158)
             (try clear BK161)
             (try clear HK)
             (try clear HB)
             generalize (w70.setCell ⟨gb161, 5, none⟩ (.slice Ao71 y184.length co71)) = w73 at n0_ n1_ n2_ n3_ n4_ n5_ n6_ n7_ n8_ n9_ n10_ n11_ n12_ n13_ ⊢
             have HO_157004 := n0_
             have HO_157005 := n1_
             have HO_158004 := n2_
             have HO_158005 := n3_
             have HO169 := n4_
             have HO183 := n5_
             have HO175 := n6_
             have HO186 := n7_
             have BK156 := n8_
             have BK157 := n9_
             have BK158 := n10_
             have BK161 := n11_
             have HK := n12_
             have HB := n13_
             clear n0_ n1_ n2_ n3_ n4_ n5_ n6_ n7_ n8_ n9_ n10_ n11_ n12_ n13_
             replace HO_157004 := zA (Kd.V_drew HO_157004.out)
             replace HO_157005 := zA (Kd.R_drew HO_157005.out)
             replace HO_158004 := zA (Kd.V_drew HO_158004.out)
             replace HO_158005 := zA (Kd.V_drew HO_158005.out)
             replace HO169 := zA (Kd.V_drew HO169.out)
             replace HO183 := zA (Kd.V_drew HO183.out)
             replace HO175 := zA (Kd.R_drew HO175.out)
             replace HO186 := zA (Kd.R_drew HO186.out)
             replace BK156 := zA (zD BK156.out)
             replace BK157 := zA (zD BK157.out)
             replace BK158 := zA (zD BK158.out)
             replace BK161 := zA (zD BK161.out)
             replace HK := zA (Kept.drew HK.out)
             replace HB := zA (zF HB.out)
             have q75 : (x10_18 : Int) ≤ ((l0_4.length : Int) : Int) := yE apC
             obtain ⟨i075, hi075, _, hsz75, _⟩ := info_parts info33
             have hroom75 : l0_4.length ≤ c0_4 := (Kd.V_reads' HO_157004.out).2.1
             have hC75 : Kd.F k33 _ _ A0_4 l0_4.length l0_4 := (Kd.V_at (base := w0.heap.size) HO_157004.out).2.2
             have hcut75 := cut_to (P := Tryd.prog) 31 33 .i64 Tryd.underlying31 hi075 A0_4 l0_4.length c0_4 x10_18 (yE apC) q75 hroom75
             have hr75 := Kd.F_take (m := (x10_18 : Int).toNat) hC75 (by omega)
             have hy75 : y190.length = (x10_18 : Int).toNat := (by rw [Ny190.out, yA]; omega)
             rw [← Ny190.out] at hr75
             rw [← hy75] at hcut75
             have HO194 := zA (show Kd.V k33 33 _ w0.heap.size _ (.slice A0_4 y190.length c0_4) y190 from Kd.V_mk (by omega) hr75)
             have HC194 := zA (show y190.length ≤ c0_4 from by omega)
             clear hr75 hC75 hroom75 hi075 hsz75
             have KY75 := zA hy75
             clear hy75
             replace q75 := eq_true q75
             have q76 : (x10_18 : Int) ≤ ((l0_4.length : Int) : Int) := yE apC
             obtain ⟨i076, hi076, _, hsz76, _⟩ := info_parts info33
             have hroom76 : l0_4.length ≤ c0_4 := (Kd.V_reads' HO_157004.out).2.1
             have hC76 : Kd.F k33 _ _ A0_4 l0_4.length l0_4 := (Kd.V_at (base := w0.heap.size) HO_157004.out).2.2
             have q076 : (0 : Int) ≤ (x10_18 : Int) := yE apC
             have hcut76 := cut_from (P := Tryd.prog) 31 33 .i64 Tryd.underlying31 hi076 6 hsz76 A0_4 l0_4.length c0_4 x10_18 q076 q76
             have hr76 := Kd.F_cut (m := (x10_18 : Int).toNat) (c := c0_4) hC76 (by omega) hroom76
             obtain ⟨A76, hA76⟩ : ∃ A1, A1 = (if c0_4 = (x10_18 : Int).toNat then A0_4 else (A0_4 : Option Addr).map (·.add ((x10_18 : Int).toNat * 6))) := ⟨_, rfl⟩
             obtain ⟨c76, hc76⟩ : ∃ c1, c1 = c0_4 - (x10_18 : Int).toNat := ⟨_, rfl⟩
             have hy76 : y204.length = l0_4.length - (x10_18 : Int).toNat := (by rw [Ny204.out, zZ] <;> omega)
             rw [show (l0_4).drop (x10_18 : Int).toNat = y204 from Ny204.out.symm] at hr76
             replace hr76 : Kd.F k33 _ _ A76 y204.length y204 := (by rw [hA76]; exact hr76)
             rw [← hy76, ← hA76, ← hc76] at hcut76
             have HO208 := zA (show Kd.V k33 33 _ w0.heap.size _ (.slice A76 y204.length c76) y204 from Kd.V_mk (by rw [hy76, hc76]; exact Nat.sub_le_sub_right hroom76 _) hr76)
             have HC208 := zA (show y204.length ≤ c76 from by rw [hy76, hc76]; exact Nat.sub_le_sub_right hroom76 _)
             clear hr76 hC76 hroom76 hi076 hsz76 hc76
             have KY76 := zA hy76
             have KA76 := zA hA76
             clear hy76 hA76
             replace q76 := eq_true q76
             refine start_ (n := 16) (S := fun w' => w'.cell? ⟨gb156, 0, none⟩ = some (.int .i64 a0_0) ∧ w'.cell? ⟨gb156, 1, none⟩ = some (.int .i64 a0_1) ∧ w'.cell? ⟨gb156, 2, none⟩ = some (.int .i64 a0_2) ∧ w'.cell? ⟨gb156, 3, none⟩ = some (.string a0_3) ∧ w'.cell? ⟨gb156, 4, none⟩ = some (.slice A0_4 l0_4.length c0_4) ∧ w'.cell? ⟨gb156, 5, none⟩ = some (.slice Ao20 l0_5.length co20) ∧ w'.cell? ⟨gb157, 0, none⟩ = some (.int .i64 a2_0) ∧ w'.cell? ⟨gb157, 1, none⟩ = some (.int .i64 a2_1) ∧ w'.cell? ⟨gb157, 2, none⟩ = some (.int .i64 a2_2) ∧ w'.cell? ⟨gb157, 3, none⟩ = some (.string a2_3) ∧ w'.cell? ⟨gb157, 4, none⟩ = some (.slice A2_4 l2_4.length c2_4) ∧ w'.cell? ⟨gb157, 5, none⟩ = some (.slice A2_5 l2_5.length c2_5)) (ds := []) #[false, false, false, false, false, false, false, false, false, false, false, false, false, false, false, false] (by kernel_rfl) rfl rfl ⟨(zJ BK156.out 0).trans rfl, (zJ BK156.out 1).trans rfl, (zJ BK156.out 2).trans rfl, (zJ BK156.out 3).trans rfl, (zJ BK156.out 4).trans rfl, (zJ BK156.out 5).trans rfl, (zJ BK157.out 0).trans rfl, (zJ BK157.out 1).trans rfl, (zJ BK157.out 2).trans rfl, (zJ BK157.out 3).trans rfl, (zJ BK157.out 4).trans rfl, (zJ BK157.out 5).trans rfl⟩ (fun hHeld => ?_); refine with_tabW spec_l7Into.tab8 spec_l7Into.bits8 (fun HT_ HW_ => ?_)
             generalize w73.drew = w74 at HO_157004 HO_157005 HO_158004 HO_158005 HO169 HO183 HO175 HO186 BK156 BK157 BK158 BK161 HK HB HO194 HO208 hHeld ⊢
             refine pure_ (i := 1) (N := some 50) (v := ?_) (a' := ?_) #[false, true, false, false, false, false, false, false, false, false, false, false, false, false, false, false] rfl rfl (any_of HT_.out (by kernel_rfl)) (fun _ _ _ h => h) (Or.inl ⟨by rfl, ?_⟩) ?_ ?_
             rotate_left
             ·intro w'
              go_simp
              with_reducible rfl
             rotate_left
             ·simp only [Act.put, zL, zM, zN, i64_w, i32_w]
              rfl
             refine pure_ (i := 3) (N := some 52) (v := ?_) (a' := ?_) #[false, true, false, true, false, false, false, false, false, false, false, false, false, false, false, false] rfl rfl (any_of HT_.out (by kernel_rfl)) (fun _ _ _ h => h) (Or.inl ⟨by rfl, ?_⟩) ?_ ?_
             rotate_left
             ·intro w'
              go_simp
              with_reducible rfl
             rotate_left
             ·simp only [Act.put, zL, zM, zN, i64_w, i32_w]
              rfl
             refine pure_ (i := 9) (N := some 58) (v := ?_) (a' := ?_) #[false, true, false, true, false, false, false, false, false, true, false, false, false, false, false, false] rfl rfl (any_of HT_.out (by kernel_rfl)) (fun _ _ _ h => h) (Or.inl ⟨by rfl, ?_⟩) ?_ ?_
             rotate_left
             ·intro w'
              go_simp
              with_reducible rfl
             rotate_left
             ·simp only [Act.put, zL, zM, zN, i64_w, i32_w]
              rfl
             refine pure_ (i := 11) (N := some 60) (v := ?_) (a' := ?_) #[false, true, false, true, false, false, false, false, false, true, false, true, false, false, false, false] rfl rfl (any_of HT_.out (by kernel_rfl)) (fun _ _ _ h => h) (Or.inl ⟨by rfl, ?_⟩) ?_ ?_
             rotate_left
             ·intro w'
              go_simp
              with_reducible rfl
             rotate_left
             ·simp only [Act.put, zL, zM, zN, i64_w, i32_w]
              rfl
             refine take_ (i := 2) (N := some 51) (v := ?_) (a' := ?_) #[false, true, true, true, false, false, false, false, false, true, false, true, false, false, false, false] rfl rfl (take_ofW HT_.out HW_.out (by kernel_rfl)) (fun _ _ _ h => h) (Or.inl ⟨by rfl, ?_⟩) hHeld ?_ ?_
             rotate_left
             ·rintro w' ⟨s0, s1, s2, s3, s4, s5, s6, s7, s8, s9, s10, s11⟩
              go_simp
              with_reducible rfl
             rotate_left
             ·simp only [Act.put, zL, zM, zN, i64_w, i32_w]
              rfl
             refine pure_ (i := 4) (N := some 53) (v := ?_) (a' := ?_) #[false, true, true, true, true, false, false, false, false, true, false, true, false, false, false, false] rfl rfl (any_of HT_.out (by kernel_rfl)) (fun _ _ _ h => h) (Or.inl ⟨by rfl, ?_⟩) ?_ ?_
             rotate_left
             ·intro w'
              go_simp
              with_reducible rfl
             rotate_left
             ·simp only [Act.put, zL, zM, zN, i64_w, i32_w]
              rfl
             refine take_ (i := 6) (N := some 55) (v := ?_) (a' := ?_) #[false, true, true, true, true, false, true, false, false, true, false, true, false, false, false, false] rfl rfl (take_ofW HT_.out HW_.out (by kernel_rfl)) (fun _ _ _ h => h) (Or.inl ⟨by rfl, ?_⟩) hHeld ?_ ?_
             rotate_left
             ·rintro w' ⟨s0, s1, s2, s3, s4, s5, s6, s7, s8, s9, s10, s11⟩
              go_simp
              with_reducible rfl
             rotate_left
             ·simp only [Act.put, zL, zM, zN, i64_w, i32_w]
              rfl
             refine take_ (i := 10) (N := some 59) (v := ?_) (a' := ?_) #[false, true, true, true, true, false, true, false, false, true, true, true, false, false, false, false] rfl rfl (take_ofW HT_.out HW_.out (by kernel_rfl)) (fun _ _ _ h => h) (Or.inl ⟨by rfl, ?_⟩) hHeld ?_ ?_
             rotate_left
             ·rintro w' ⟨s0, s1, s2, s3, s4, s5, s6, s7, s8, s9, s10, s11⟩
              go_simp
              with_reducible rfl
             rotate_left
             ·simp only [Act.put, zL, zM, zN, i64_w, i32_w]
              rfl
             refine pure_ (i := 12) (N := some 61) (v := ?_) (a' := ?_) #[false, true, true, true, true, false, true, false, false, true, true, true, true, false, false, false] rfl rfl (any_of HT_.out (by kernel_rfl)) (fun _ _ _ h => h) (Or.inl ⟨by rfl, ?_⟩) ?_ ?_
             rotate_left
             ·intro w'
              go_simp
              with_reducible rfl
             rotate_left
             ·simp only [Act.put, zL, zM, zN, i64_w, i32_w]
              rfl
             refine join_ (σ := Value × Value × Value) 4 #[true, true, true, true, true, true, true, true, false, true, true, true, true, false, false, false] (fun s_ => [(49, s_.1), (54, s_.2.1), (56, s_.2.2)]) (fun s_ w' => (w'.cell? ⟨gb156, 0, none⟩ = some (.int .i64 a0_0) ∧ w'.cell? ⟨gb156, 1, none⟩ = some (.int .i64 a0_1) ∧ w'.cell? ⟨gb156, 2, none⟩ = some (.int .i64 a0_2) ∧ w'.cell? ⟨gb156, 3, none⟩ = some (.string a0_3) ∧ w'.cell? ⟨gb156, 4, none⟩ = some (.slice A0_4 l0_4.length c0_4) ∧ w'.cell? ⟨gb156, 5, none⟩ = some (.slice Ao20 l0_5.length co20) ∧ w'.cell? ⟨gb157, 0, none⟩ = some (.int .i64 a2_0) ∧ w'.cell? ⟨gb157, 1, none⟩ = some (.int .i64 a2_1) ∧ w'.cell? ⟨gb157, 2, none⟩ = some (.int .i64 a2_2) ∧ w'.cell? ⟨gb157, 3, none⟩ = some (.string a2_3) ∧ w'.cell? ⟨gb157, 4, none⟩ = some (.slice A2_4 l2_4.length c2_4) ∧ w'.cell? ⟨gb157, 5, none⟩ = some (.slice A2_5 l2_5.length c2_5)) ∧ (Kd.V Kd.string 9 w' w0.heap.size (fun k_ => ((P0_5_ k_ ∨ P0_4_ k_ ∨ P2_4_ k_ ∨ P2_5_ k_) ∨ w.heap.size ≤ k_) ∧ zn (.slice Ao69 y173.length co69) k_ ∧ zn (.slice Ao71 y184.length co71) k_ ∧ some k_ ≠ (s_.2.1 : Value).ownBlock ∧ some k_ ≠ (s_.2.2 : Value).ownBlock ∧ k_ ≠ gb156 ∧ k_ ≠ gb157 ∧ k_ ≠ gb158 ∧ k_ ≠ gb161) (.slice Ao20 y165.length co20) y165) ∧ (Kd.R Kd.string 9 w' w0.heap.size (fun k_ => (P0_5_ k_ ∨ w.heap.size ≤ k_) ∧ zn (.slice Ao71 y184.length co71) k_ ∧ zn (.slice Ao20 l0_5.length co20) k_) (.slice Ao69 y173.length co69) y173) ∧ (Kd.V Kd.string 9 w' w0.heap.size (fun k_ => ((P0_5_ k_ ∨ P0_4_ k_ ∨ P2_4_ k_ ∨ P2_5_ k_) ∨ w.heap.size ≤ k_) ∧ zn (.slice Ao69 y173.length co69) k_ ∧ zn (.slice Ao71 y184.length co71) k_ ∧ some k_ ≠ (s_.2.1 : Value).ownBlock ∧ some k_ ≠ (s_.2.2 : Value).ownBlock ∧ k_ ≠ gb156 ∧ k_ ≠ gb157 ∧ k_ ≠ gb158 ∧ k_ ≠ gb161) (.slice A61 y179.length c61) y179) ∧ (Kd.R Kd.string 9 w' w0.heap.size (fun k_ => (P0_5_ k_ ∨ w.heap.size ≤ k_) ∧ zn (.slice Ao69 y173.length co69) k_ ∧ zn (.slice Ao20 l0_5.length co20) k_) (.slice Ao71 y184.length co71) y184) ∧ (Kd.V k33 33 w' w0.heap.size (fun k_ => ((P0_5_ k_ ∨ P0_4_ k_ ∨ P2_4_ k_ ∨ P2_5_ k_) ∨ w.heap.size ≤ k_) ∧ zn (.slice Ao69 y173.length co69) k_ ∧ zn (.slice Ao71 y184.length co71) k_ ∧ some k_ ≠ (s_.2.1 : Value).ownBlock ∧ some k_ ≠ (s_.2.2 : Value).ownBlock ∧ zn (.slice Ao20 l0_5.length co20) k_ ∧ k_ ≠ gb156 ∧ k_ ≠ gb157 ∧ k_ ≠ gb158 ∧ k_ ≠ gb161) (.slice A0_4 y190.length c0_4) y190) ∧ (Kd.N k33 33 w' w.heap.size (fun k_ => ((P0_5_ k_ ∨ P0_4_ k_ ∨ P2_4_ k_ ∨ P2_5_ k_) ∨ w.heap.size ≤ k_) ∧ zn (.slice Ao69 y173.length co69) k_ ∧ zn (.slice Ao71 y184.length co71) k_ ∧ some k_ ≠ (s_.2.2 : Value).ownBlock ∧ zn (.slice Ao20 l0_5.length co20) k_ ∧ k_ ≠ gb156 ∧ k_ ≠ gb157 ∧ k_ ≠ gb158 ∧ k_ ≠ gb161) s_.2.1 y195) ∧ (Kd.N k33 33 w' w.heap.size (fun k_ => ((P0_5_ k_ ∨ P0_4_ k_ ∨ P2_4_ k_ ∨ P2_5_ k_) ∨ w.heap.size ≤ k_) ∧ zn (.slice Ao69 y173.length co69) k_ ∧ zn (.slice Ao71 y184.length co71) k_ ∧ some k_ ≠ (s_.2.1 : Value).ownBlock ∧ zn (.slice Ao20 l0_5.length co20) k_ ∧ k_ ≠ gb156 ∧ k_ ≠ gb157 ∧ k_ ≠ gb158 ∧ k_ ≠ gb161) s_.2.2 y198) ∧ (Kd.V k33 33 w' w0.heap.size (fun k_ => ((P0_5_ k_ ∨ P0_4_ k_ ∨ P2_4_ k_ ∨ P2_5_ k_) ∨ w.heap.size ≤ k_) ∧ zn (.slice Ao69 y173.length co69) k_ ∧ zn (.slice Ao71 y184.length co71) k_ ∧ some k_ ≠ (s_.2.1 : Value).ownBlock ∧ some k_ ≠ (s_.2.2 : Value).ownBlock ∧ zn (.slice Ao20 l0_5.length co20) k_ ∧ k_ ≠ gb156 ∧ k_ ≠ gb157 ∧ k_ ≠ gb158 ∧ k_ ≠ gb161) (.slice A76 y204.length c76) y204) ∧ (Kd.V k33 33 w' w0.heap.size (fun k_ => ((P0_5_ k_ ∨ P0_4_ k_ ∨ P2_4_ k_ ∨ P2_5_ k_) ∨ w.heap.size ≤ k_) ∧ zn (.slice Ao69 y173.length co69) k_ ∧ zn (.slice Ao71 y184.length co71) k_ ∧ some k_ ≠ (s_.2.1 : Value).ownBlock ∧ some k_ ≠ (s_.2.2 : Value).ownBlock ∧ zn (.slice Ao20 l0_5.length co20) k_ ∧ k_ ≠ gb156 ∧ k_ ≠ gb157 ∧ k_ ≠ gb158 ∧ k_ ≠ gb161) (.slice A0_4 l0_4.length c0_4) l0_4) ∧ (Kd.R Kd.string 9 w' w0.heap.size (fun k_ => (P0_5_ k_ ∨ w.heap.size ≤ k_) ∧ zn (.slice Ao69 y173.length co69) k_ ∧ zn (.slice Ao71 y184.length co71) k_) (.slice Ao20 l0_5.length co20) l0_5) ∧ (Kd.V k33 33 w' w0.heap.size (fun k_ => ((P0_5_ k_ ∨ P0_4_ k_ ∨ P2_4_ k_ ∨ P2_5_ k_) ∨ w.heap.size ≤ k_) ∧ zn (.slice Ao69 y173.length co69) k_ ∧ zn (.slice Ao71 y184.length co71) k_ ∧ some k_ ≠ (s_.2.1 : Value).ownBlock ∧ some k_ ≠ (s_.2.2 : Value).ownBlock ∧ zn (.slice Ao20 l0_5.length co20) k_ ∧ k_ ≠ gb156 ∧ k_ ≠ gb157 ∧ k_ ≠ gb158 ∧ k_ ≠ gb161) (.slice A2_4 l2_4.length c2_4) l2_4) ∧ (Kd.V Kd.string 9 w' w0.heap.size (fun k_ => ((P0_5_ k_ ∨ P0_4_ k_ ∨ P2_4_ k_ ∨ P2_5_ k_) ∨ w.heap.size ≤ k_) ∧ zn (.slice Ao69 y173.length co69) k_ ∧ zn (.slice Ao71 y184.length co71) k_ ∧ some k_ ≠ (s_.2.1 : Value).ownBlock ∧ some k_ ≠ (s_.2.2 : Value).ownBlock ∧ zn (.slice Ao20 l0_5.length co20) k_ ∧ k_ ≠ gb156 ∧ k_ ≠ gb157 ∧ k_ ≠ gb158 ∧ k_ ≠ gb161) (.slice A2_5 l2_5.length c2_5) l2_5) ∧ (w'.heap[gb156]? = some (.cells #[.int .i64 a0_0, .int .i64 a0_1, .int .i64 a0_2, .string a0_3, .slice A0_4 l0_4.length c0_4, .slice Ao20 l0_5.length co20] 33 (0, 0))) ∧ (w'.heap[gb157]? = some (.cells #[.int .i64 a2_0, .int .i64 a2_1, .int .i64 a2_2, .string a2_3, .slice A2_4 l2_4.length c2_4, .slice A2_5 l2_5.length c2_5] 33 (0, 0))) ∧ (w'.heap[gb158]? = some (.cells #[.int .i64 0, .int .i64 0, .int .i64 0, .string (⟨#[]⟩ : ByteArray), .slice none 0 0, .slice none 0 0] 33 (0, 0))) ∧ (w'.heap[gb161]? = some (.cells #[.int .i64 6, .int .i64 0, .int .i64 0, .string (⟨#[]⟩ : ByteArray), .slice none 0 0, .slice Ao71 y184.length co71] 33 (0, 0))) ∧ (Kept w w' (fun k_ => P0_5_ k_)) ∧ (Below w0.heap.size w0 w')) ?_ ?_
             rotate_left
             ·intro hCont
              refine two_ (i := 0) (j := 7) (Ni := some 49) (Nj := some 56) #[true, true, true, true, true, false, true, false, false, true, true, true, true, false, false, false] #[false, true, true, true, true, false, true, true, false, true, true, true, true, false, false, false] rfl rfl rfl rfl (two_of HT_.out (by kernel_rfl)) (by decide) (by decide) (fun K hK => ?_) (fun K hK => ?_)
              ·skip
               refine Kd.N_lit_step k33 _ 33 ?hg (N' := 49) ?hd (xs := ([] : List (S33))) (inner := []) (ok := (fun k_ => ((P0_5_ k_ ∨ P0_4_ k_ ∨ P2_4_ k_ ∨ P2_5_ k_) ∨ w.heap.size ≤ k_) ∧ zn (.slice Ao20 l0_5.length co20) k_ ∧ zn (.slice Ao69 y173.length co69) k_ ∧ zn (.slice Ao71 y184.length co71) k_ ∧ k_ ≠ gb156 ∧ k_ ≠ gb157 ∧ k_ ≠ gb158 ∧ k_ ≠ gb161)) (okp := (fun k_ => ((P0_5_ k_ ∨ P0_4_ k_ ∨ P2_4_ k_ ∨ P2_5_ k_) ∨ w.heap.size ≤ k_) ∧ zn (.slice Ao20 l0_5.length co20) k_ ∧ zn (.slice Ao69 y173.length co69) k_ ∧ zn (.slice Ao71 y184.length co71) k_ ∧ k_ ≠ gb156 ∧ k_ ≠ gb157 ∧ k_ ≠ gb158 ∧ k_ ≠ gb161)) ?hr ?hp (fun _ hk => hk) ((show ∀ k_, w74.heap.size ≤ k_ → (fun k_ => ((P0_5_ k_ ∨ P0_4_ k_ ∨ P2_4_ k_ ∨ P2_5_ k_) ∨ w.heap.size ≤ k_) ∧ zn (.slice Ao20 l0_5.length co20) k_ ∧ zn (.slice Ao69 y173.length co69) k_ ∧ zn (.slice Ao71 y184.length co71) k_ ∧ k_ ≠ gb156 ∧ k_ ≠ gb157 ∧ k_ ≠ gb158 ∧ k_ ≠ gb161) k_ from fun k_ hk => ⟨(.inr (Nat.le_trans apV hk)), Kd.fresh' (Kd.R_lt (vwR HO_157005.out)) k_ hk, Kd.fresh' (Kd.R_lt (vwR HO175.out)) k_ hk, Kd.fresh' (Kd.R_lt (vwR HO186.out)) k_ hk, Kd.freshB (g := gb156) (o := .cells #[.int .i64 a0_0, .int .i64 a0_1, .int .i64 a0_2, .string a0_3, .slice A0_4 l0_4.length c0_4, .slice Ao20 l0_5.length co20] 33 (0, 0)) apG k_ hk, Kd.freshB (g := gb157) (o := .cells #[.int .i64 a2_0, .int .i64 a2_1, .int .i64 a2_2, .string a2_3, .slice A2_4 l2_4.length c2_4, .slice A2_5 l2_5.length c2_5] 33 (0, 0)) apI k_ hk, Kd.freshB (g := gb158) (o := .cells #[.int .i64 0, .int .i64 0, .int .i64 0, .string (⟨#[]⟩ : ByteArray), .slice none 0 0, .slice none 0 0] 33 (0, 0)) apK k_ hk, Kd.freshB (g := gb161) (o := .cells #[.int .i64 6, .int .i64 0, .int .i64 0, .string (⟨#[]⟩ : ByteArray), .slice none 0 0, .slice Ao71 y184.length co71] 33 (0, 0)) apP k_ hk⟩) _ (yH _)) (yG _ _) (yH _) (by simp) ?_; (case hd => rfl); (case hg => rfl); (case hr => first | (go_simp; done) | (go_simp; rfl)); (case hp => exact (Reps.none _ _))
               intro v188 w77 ho78 hb hg_ hnew_
               clear hg_ hnew_
               (first | rw [← Ny187.out] at ho78 | (simp only [Int.reduceToNat] at ho78; rw [← Ny187.out] at ho78))
               replace HO_157004 := zA (Kd.V_elder' (vwV HO_157004.out) (Kd.N_base ho78) hb)
               replace HO_157005 := zA (Kd.R_below (vwR HO_157005.out) hb)
               replace HO_158004 := zA (Kd.V_elder' (vwV HO_158004.out) (Kd.N_base ho78) hb)
               replace HO_158005 := zA (Kd.V_elder' (vwV HO_158005.out) (Kd.N_base ho78) hb)
               replace HO169 := zA (Kd.V_elder' (vwV HO169.out) (Kd.N_base ho78) hb)
               replace HO183 := zA (Kd.V_elder' (vwV HO183.out) (Kd.N_base ho78) hb)
               replace HO175 := zA (Kd.R_below (vwR HO175.out) hb)
               replace HO186 := zA (Kd.R_below (vwR HO186.out) hb)
               replace HO194 := zA (Kd.V_elder' (vwV HO194.out) (Kd.N_base ho78) hb)
               replace HO208 := zA (Kd.V_elder' (vwV HO208.out) (Kd.N_base ho78) hb)
               have HO189 := zA (Kd.N_lower ho78 apV)
               replace BK156 := zA (zP (g := gb156) (o := .cells #[.int .i64 a0_0, .int .i64 a0_1, .int .i64 a0_2, .string a0_3, .slice A0_4 l0_4.length c0_4, .slice Ao20 l0_5.length co20] 33 (0, 0)) apG hb)
               replace BK157 := zA (zP (g := gb157) (o := .cells #[.int .i64 a2_0, .int .i64 a2_1, .int .i64 a2_2, .string a2_3, .slice A2_4 l2_4.length c2_4, .slice A2_5 l2_5.length c2_5] 33 (0, 0)) apI hb)
               replace BK158 := zA (zP (g := gb158) (o := .cells #[.int .i64 0, .int .i64 0, .int .i64 0, .string (⟨#[]⟩ : ByteArray), .slice none 0 0, .slice none 0 0] 33 (0, 0)) apK hb)
               replace BK161 := zA (zP (g := gb161) (o := .cells #[.int .i64 6, .int .i64 0, .int .i64 0, .string (⟨#[]⟩ : ByteArray), .slice none 0 0, .slice Ao71 y184.length co71] 33 (0, 0)) apP hb)
               replace HK := zA (Kept.below (S := (fun k_ => P0_5_ k_)) apF hb)
               replace HB := zA (zQ apN hb)
               clear hb ho78
               refine hK.out _ _ ⟨(zJ BK156.out 0).trans rfl, (zJ BK156.out 1).trans rfl, (zJ BK156.out 2).trans rfl, (zJ BK156.out 3).trans rfl, (zJ BK156.out 4).trans rfl, (zJ BK156.out 5).trans rfl, (zJ BK157.out 0).trans rfl, (zJ BK157.out 1).trans rfl, (zJ BK157.out 2).trans rfl, (zJ BK157.out 3).trans rfl, (zJ BK157.out 4).trans rfl, (zJ BK157.out 5).trans rfl⟩ (fun hHeld => ?_)
               clear hK K
               refine norm_ (a' := ?_) ?_ ?_
               rotate_left
               ·show Act.put _ (some 49) _ = _
                simp only [Act.put, zL, zM, zN, i64_w, i32_w]
                rfl
               refine two_ (i := 5) (j := 7) (Ni := some 54) (Nj := some 56) #[true, true, true, true, true, true, true, false, false, true, true, true, true, false, false, false] #[true, true, true, true, true, false, true, true, false, true, true, true, true, false, false, false] rfl rfl rfl rfl (two_of HT_.out (by kernel_rfl)) (by decide) (by decide) (fun K hK => ?_) (fun K hK => ?_)
               ·skip
                refine Kd.N_append_rows_step k33 w.heap.size rfl (.tmp 49) (.tmp 53) 31 33 (.agg #[(.int .i64 0), (.int .i64 0), (.int .i64 0), (.string ⟨#[]⟩), (.slice none 0 0), (.slice none 0 0)]) 88 rfl Tryd.underlying31 info33 rfl (by decide) (by omega) v188 y187 y190 _ _ _ (fun k_ => ((P0_5_ k_ ∨ P0_4_ k_ ∨ P2_4_ k_ ∨ P2_5_ k_) ∨ w.heap.size ≤ k_) ∧ zn (.slice Ao20 l0_5.length co20) k_ ∧ zn (.slice Ao69 y173.length co69) k_ ∧ zn (.slice Ao71 y184.length co71) k_ ∧ k_ ≠ gb156 ∧ k_ ≠ gb157 ∧ k_ ≠ gb158 ∧ k_ ≠ gb161) (fun k_ => ((fun k_ => ((P0_5_ k_ ∨ P0_4_ k_ ∨ P2_4_ k_ ∨ P2_5_ k_) ∨ w.heap.size ≤ k_) ∧ zn (.slice Ao20 l0_5.length co20) k_ ∧ zn (.slice Ao69 y173.length co69) k_ ∧ zn (.slice Ao71 y184.length co71) k_ ∧ k_ ≠ gb156 ∧ k_ ≠ gb157 ∧ k_ ≠ gb158 ∧ k_ ≠ gb161)) k_ ∧ some k_ ≠ (v188 : Value).ownBlock) rfl rfl ?aO ?aR (fun _ hk => hk) ?aF (yG _ _) ?aS ?aL ?_
                (case aR => exact (by skip; exact Kd.V_F (Kd.V_mono (ok' := (fun k_ => ((fun k_ => ((P0_5_ k_ ∨ P0_4_ k_ ∨ P2_4_ k_ ∨ P2_5_ k_) ∨ w.heap.size ≤ k_) ∧ zn (.slice Ao20 l0_5.length co20) k_ ∧ zn (.slice Ao69 y173.length co69) k_ ∧ zn (.slice Ao71 y184.length co71) k_ ∧ k_ ≠ gb156 ∧ k_ ≠ gb157 ∧ k_ ≠ gb158 ∧ k_ ≠ gb161)) k_ ∧ some k_ ≠ (v188 : Value).ownBlock)) (HO194.out) (fun k_ hk => ⟨⟨hk.1.1, ⟨hk.1.2.1, ⟨hk.1.2.2.1, ⟨hk.1.2.2.2.1, ⟨hk.1.2.2.2.2.1, ⟨hk.1.2.2.2.2.2.1, ⟨hk.1.2.2.2.2.2.2.1, hk.1.2.2.2.2.2.2.2⟩⟩⟩⟩⟩⟩⟩, hk.2⟩))))
                (case aF => exact (fun k_ hk => ⟨(.inr (Nat.le_trans apV hk)), Kd.fresh' (Kd.R_lt (vwR HO_157005.out)) k_ hk, Kd.fresh' (Kd.R_lt (vwR HO175.out)) k_ hk, Kd.fresh' (Kd.R_lt (vwR HO186.out)) k_ hk, Kd.freshB (g := gb156) (o := .cells #[.int .i64 a0_0, .int .i64 a0_1, .int .i64 a0_2, .string a0_3, .slice A0_4 l0_4.length c0_4, .slice Ao20 l0_5.length co20] 33 (0, 0)) apG k_ hk, Kd.freshB (g := gb157) (o := .cells #[.int .i64 a2_0, .int .i64 a2_1, .int .i64 a2_2, .string a2_3, .slice A2_4 l2_4.length c2_4, .slice A2_5 l2_5.length c2_5] 33 (0, 0)) apI k_ hk, Kd.freshB (g := gb158) (o := .cells #[.int .i64 0, .int .i64 0, .int .i64 0, .string (⟨#[]⟩ : ByteArray), .slice none 0 0, .slice none 0 0] 33 (0, 0)) apK k_ hk, Kd.freshB (g := gb161) (o := .cells #[.int .i64 6, .int .i64 0, .int .i64 0, .string (⟨#[]⟩ : ByteArray), .slice none 0 0, .slice Ao71 y184.length co71] 33 (0, 0)) apP k_ hk⟩))
                (case aO => exact (vwN HO189.out))
                (case aS => exact apV)
                (case aL => have := LMc48.out; (first | omega | (simp only [ByteArray.size, List.size_toArray, List.length_cons, List.length_nil] at *; omega)))
                intro v196 w79 ho hb hg hat
                rw [← Ny195.out] at ho
                replace HO_157004 := zA (Kd.V_afterv (ok := (fun k_ => ((P0_5_ k_ ∨ P0_4_ k_ ∨ P2_4_ k_ ∨ P2_5_ k_) ∨ w.heap.size ≤ k_) ∧ zn (.slice Ao20 l0_5.length co20) k_ ∧ zn (.slice Ao69 y173.length co69) k_ ∧ zn (.slice Ao71 y184.length co71) k_ ∧ k_ ≠ gb156 ∧ k_ ≠ gb157 ∧ k_ ≠ gb158 ∧ k_ ≠ gb161)) (vwV HO_157004.out) hg hat)
                replace HO_157005 := zA (Kd.R_over' (vwR HO_157005.out) (Kd.N_typed (vwN HO189.out)) (by decide) hg)
                replace HO_158004 := zA (Kd.V_afterv (ok := (fun k_ => ((P0_5_ k_ ∨ P0_4_ k_ ∨ P2_4_ k_ ∨ P2_5_ k_) ∨ w.heap.size ≤ k_) ∧ zn (.slice Ao20 l0_5.length co20) k_ ∧ zn (.slice Ao69 y173.length co69) k_ ∧ zn (.slice Ao71 y184.length co71) k_ ∧ k_ ≠ gb156 ∧ k_ ≠ gb157 ∧ k_ ≠ gb158 ∧ k_ ≠ gb161)) (vwV HO_158004.out) hg hat)
                replace HO_158005 := zA (Kd.V_afterv (ok := (fun k_ => ((P0_5_ k_ ∨ P0_4_ k_ ∨ P2_4_ k_ ∨ P2_5_ k_) ∨ w.heap.size ≤ k_) ∧ zn (.slice Ao20 l0_5.length co20) k_ ∧ zn (.slice Ao69 y173.length co69) k_ ∧ zn (.slice Ao71 y184.length co71) k_ ∧ k_ ≠ gb156 ∧ k_ ≠ gb157 ∧ k_ ≠ gb158 ∧ k_ ≠ gb161)) (vwV HO_158005.out) hg hat)
                replace BK156 := zA (blk_grown (g := gb156) (o := .cells #[.int .i64 a0_0, .int .i64 a0_1, .int .i64 a0_2, .string a0_3, .slice A0_4 l0_4.length c0_4, .slice Ao20 l0_5.length co20] 33 (0, 0)) apG hg (Kd.N_away HO189.out (fun _ hk => hk.2.2.2.2.1)))
                replace BK157 := zA (blk_grown (g := gb157) (o := .cells #[.int .i64 a2_0, .int .i64 a2_1, .int .i64 a2_2, .string a2_3, .slice A2_4 l2_4.length c2_4, .slice A2_5 l2_5.length c2_5] 33 (0, 0)) apI hg (Kd.N_away HO189.out (fun _ hk => hk.2.2.2.2.2.1)))
                replace BK158 := zA (blk_grown (g := gb158) (o := .cells #[.int .i64 0, .int .i64 0, .int .i64 0, .string (⟨#[]⟩ : ByteArray), .slice none 0 0, .slice none 0 0] 33 (0, 0)) apK hg (Kd.N_away HO189.out (fun _ hk => hk.2.2.2.2.2.2.1)))
                replace BK161 := zA (blk_grown (g := gb161) (o := .cells #[.int .i64 6, .int .i64 0, .int .i64 0, .string (⟨#[]⟩ : ByteArray), .slice none 0 0, .slice Ao71 y184.length co71] 33 (0, 0)) apP hg (Kd.N_away HO189.out (fun _ hk => hk.2.2.2.2.2.2.2)))
                replace HO169 := zA (Kd.V_afterv (ok := (fun k_ => ((P0_5_ k_ ∨ P0_4_ k_ ∨ P2_4_ k_ ∨ P2_5_ k_) ∨ w.heap.size ≤ k_) ∧ zn (.slice Ao69 y173.length co69) k_ ∧ zn (.slice Ao71 y184.length co71) k_ ∧ k_ ≠ gb156 ∧ k_ ≠ gb157 ∧ k_ ≠ gb158 ∧ k_ ≠ gb161)) (vwV HO169.out) hg hat)
                replace HO183 := zA (Kd.V_afterv (ok := (fun k_ => ((P0_5_ k_ ∨ P0_4_ k_ ∨ P2_4_ k_ ∨ P2_5_ k_) ∨ w.heap.size ≤ k_) ∧ zn (.slice Ao69 y173.length co69) k_ ∧ zn (.slice Ao71 y184.length co71) k_ ∧ k_ ≠ gb156 ∧ k_ ≠ gb157 ∧ k_ ≠ gb158 ∧ k_ ≠ gb161)) (vwV HO183.out) hg hat)
                replace HO175 := zA (Kd.R_over' (vwR HO175.out) (Kd.N_typed (vwN HO189.out)) (by decide) hg)
                replace HO186 := zA (Kd.R_over' (vwR HO186.out) (Kd.N_typed (vwN HO189.out)) (by decide) hg)
                replace HO194 := zA (Kd.V_afterv (ok := (fun k_ => ((P0_5_ k_ ∨ P0_4_ k_ ∨ P2_4_ k_ ∨ P2_5_ k_) ∨ w.heap.size ≤ k_) ∧ zn (.slice Ao20 l0_5.length co20) k_ ∧ zn (.slice Ao69 y173.length co69) k_ ∧ zn (.slice Ao71 y184.length co71) k_ ∧ k_ ≠ gb156 ∧ k_ ≠ gb157 ∧ k_ ≠ gb158 ∧ k_ ≠ gb161)) (vwV HO194.out) hg hat)
                replace HO208 := zA (Kd.V_afterv (ok := (fun k_ => ((P0_5_ k_ ∨ P0_4_ k_ ∨ P2_4_ k_ ∨ P2_5_ k_) ∨ w.heap.size ≤ k_) ∧ zn (.slice Ao20 l0_5.length co20) k_ ∧ zn (.slice Ao69 y173.length co69) k_ ∧ zn (.slice Ao71 y184.length co71) k_ ∧ k_ ≠ gb156 ∧ k_ ≠ gb157 ∧ k_ ≠ gb158 ∧ k_ ≠ gb161)) (vwV HO208.out) hg hat)
                replace HB := zA (below_weaken apN HW0.out hb)
                replace HK := zA (Kept.of_grown (S := (fun k_ => P0_5_ k_)) hg apF (fun k_ e_ => .inr (Kd.N_base HO189.out k_ e_)))
                have HO197 := zA (ho)
                clear HO189
                clear ho hb hg hat
                refine hK.out _ _ ⟨(zJ BK156.out 0).trans rfl, (zJ BK156.out 1).trans rfl, (zJ BK156.out 2).trans rfl, (zJ BK156.out 3).trans rfl, (zJ BK156.out 4).trans rfl, (zJ BK156.out 5).trans rfl, (zJ BK157.out 0).trans rfl, (zJ BK157.out 1).trans rfl, (zJ BK157.out 2).trans rfl, (zJ BK157.out 3).trans rfl, (zJ BK157.out 4).trans rfl, (zJ BK157.out 5).trans rfl⟩ (fun hHeld => ?_)
                clear hK K
                refine norm_ (a' := ?_) ?_ ?_
                rotate_left
                ·show Act.put _ (some 54) _ = _
                 simp only [Act.put, zL, zM, zN, i64_w, i32_w]
                 rfl
                refine one_ (i := 7) (N := some 56) #[true, true, true, true, true, true, true, true, false, true, true, true, true, false, false, false] rfl rfl (one_of HT_.out (by kernel_rfl)) (by decide) (fun K hK => ?_)
                refine Kd.N_lit_step k33 _ 33 ?hg (N' := 56) ?hd (xs := ([(⟨a2_0, (⟨a2_1, a2_2⟩ : S30), a2_3, l2_4, l2_5⟩ : S33)] : List (S33))) (inner := [.int .i64 a2_0, .int .i64 a2_1, .int .i64 a2_2, .string a2_3, .slice A2_4 l2_4.length c2_4, .slice A2_5 l2_5.length c2_5]) (ok := (fun k_ => ((P0_5_ k_ ∨ P0_4_ k_ ∨ P2_4_ k_ ∨ P2_5_ k_) ∨ w.heap.size ≤ k_) ∧ zn (.slice Ao20 l0_5.length co20) k_ ∧ zn (.slice Ao69 y173.length co69) k_ ∧ zn (.slice Ao71 y184.length co71) k_ ∧ some k_ ≠ (v196 : Value).ownBlock ∧ k_ ≠ gb156 ∧ k_ ≠ gb157 ∧ k_ ≠ gb158 ∧ k_ ≠ gb161)) (okp := (fun k_ => ((P0_5_ k_ ∨ P0_4_ k_ ∨ P2_4_ k_ ∨ P2_5_ k_) ∨ w.heap.size ≤ k_) ∧ zn (.slice Ao20 l0_5.length co20) k_ ∧ zn (.slice Ao69 y173.length co69) k_ ∧ zn (.slice Ao71 y184.length co71) k_ ∧ some k_ ≠ (v196 : Value).ownBlock ∧ k_ ≠ gb156 ∧ k_ ≠ gb157 ∧ k_ ≠ gb158 ∧ k_ ≠ gb161)) ?hr ?hp (fun _ hk => hk) ((show ∀ k_, w79.heap.size ≤ k_ → (fun k_ => ((P0_5_ k_ ∨ P0_4_ k_ ∨ P2_4_ k_ ∨ P2_5_ k_) ∨ w.heap.size ≤ k_) ∧ zn (.slice Ao20 l0_5.length co20) k_ ∧ zn (.slice Ao69 y173.length co69) k_ ∧ zn (.slice Ao71 y184.length co71) k_ ∧ some k_ ≠ (v196 : Value).ownBlock ∧ k_ ≠ gb156 ∧ k_ ≠ gb157 ∧ k_ ≠ gb158 ∧ k_ ≠ gb161) k_ from fun k_ hk => ⟨(.inr (Nat.le_trans apV hk)), Kd.fresh' (Kd.R_lt (vwR HO_157005.out)) k_ hk, Kd.fresh' (Kd.R_lt (vwR HO175.out)) k_ hk, Kd.fresh' (Kd.R_lt (vwR HO186.out)) k_ hk, Kd.fresh' (Kd.N_lt (vwN HO197.out)) k_ hk, Kd.freshB (g := gb156) (o := .cells #[.int .i64 a0_0, .int .i64 a0_1, .int .i64 a0_2, .string a0_3, .slice A0_4 l0_4.length c0_4, .slice Ao20 l0_5.length co20] 33 (0, 0)) apG k_ hk, Kd.freshB (g := gb157) (o := .cells #[.int .i64 a2_0, .int .i64 a2_1, .int .i64 a2_2, .string a2_3, .slice A2_4 l2_4.length c2_4, .slice A2_5 l2_5.length c2_5] 33 (0, 0)) apI k_ hk, Kd.freshB (g := gb158) (o := .cells #[.int .i64 0, .int .i64 0, .int .i64 0, .string (⟨#[]⟩ : ByteArray), .slice none 0 0, .slice none 0 0] 33 (0, 0)) apK k_ hk, Kd.freshB (g := gb161) (o := .cells #[.int .i64 6, .int .i64 0, .int .i64 0, .string (⟨#[]⟩ : ByteArray), .slice none 0 0, .slice Ao71 y184.length co71] 33 (0, 0)) apP k_ hk⟩) _ (yH _)) (yG _ _) (yH _) (by simp) ?_; (case hd => rfl); (case hg => rfl); (case hr => first | (go_simp; done) | (go_simp; rfl)); (case hp => exact (Reps.c6 (show Kd.FK k33 _ _ (⟨a2_0, (⟨a2_1, a2_2⟩ : S30), a2_3, l2_4, l2_5⟩ : S33) [.int .i64 a2_0, .int .i64 a2_1, .int .i64 a2_2, .string a2_3, .slice A2_4 l2_4.length c2_4, .slice A2_5 l2_5.length c2_5] from (k33_mkF _ _ (⟨a2_0, (⟨a2_1, a2_2⟩ : S30), a2_3, l2_4, l2_5⟩ : S33) (Kd.V_reads' (Kd.V_mono (ok' := (fun k_ => ((P0_5_ k_ ∨ P0_4_ k_ ∨ P2_4_ k_ ∨ P2_5_ k_) ∨ w.heap.size ≤ k_) ∧ zn (.slice Ao20 l0_5.length co20) k_ ∧ zn (.slice Ao69 y173.length co69) k_ ∧ zn (.slice Ao71 y184.length co71) k_ ∧ some k_ ≠ (v196 : Value).ownBlock ∧ k_ ≠ gb156 ∧ k_ ≠ gb157 ∧ k_ ≠ gb158 ∧ k_ ≠ gb161)) (HO_158004.out) (fun k_ hk => ⟨hk.1.1, ⟨hk.1.2.1, ⟨hk.1.2.2.1, ⟨hk.1.2.2.2.1, ⟨hk.2, ⟨hk.1.2.2.2.2.1, ⟨hk.1.2.2.2.2.2.1, ⟨hk.1.2.2.2.2.2.2.1, hk.1.2.2.2.2.2.2.2⟩⟩⟩⟩⟩⟩⟩⟩))).2.1 (Kd.V_F (Kd.V_mono (ok' := (fun k_ => ((P0_5_ k_ ∨ P0_4_ k_ ∨ P2_4_ k_ ∨ P2_5_ k_) ∨ w.heap.size ≤ k_) ∧ zn (.slice Ao20 l0_5.length co20) k_ ∧ zn (.slice Ao69 y173.length co69) k_ ∧ zn (.slice Ao71 y184.length co71) k_ ∧ some k_ ≠ (v196 : Value).ownBlock ∧ k_ ≠ gb156 ∧ k_ ≠ gb157 ∧ k_ ≠ gb158 ∧ k_ ≠ gb161)) (HO_158004.out) (fun k_ hk => ⟨hk.1.1, ⟨hk.1.2.1, ⟨hk.1.2.2.1, ⟨hk.1.2.2.2.1, ⟨hk.2, ⟨hk.1.2.2.2.2.1, ⟨hk.1.2.2.2.2.2.1, ⟨hk.1.2.2.2.2.2.2.1, hk.1.2.2.2.2.2.2.2⟩⟩⟩⟩⟩⟩⟩⟩))) (Kd.V_reads' (Kd.V_mono (ok' := (fun k_ => ((P0_5_ k_ ∨ P0_4_ k_ ∨ P2_4_ k_ ∨ P2_5_ k_) ∨ w.heap.size ≤ k_) ∧ zn (.slice Ao20 l0_5.length co20) k_ ∧ zn (.slice Ao69 y173.length co69) k_ ∧ zn (.slice Ao71 y184.length co71) k_ ∧ some k_ ≠ (v196 : Value).ownBlock ∧ k_ ≠ gb156 ∧ k_ ≠ gb157 ∧ k_ ≠ gb158 ∧ k_ ≠ gb161)) (HO_158005.out) (fun k_ hk => ⟨hk.1.1, ⟨hk.1.2.1, ⟨hk.1.2.2.1, ⟨hk.1.2.2.2.1, ⟨hk.2, ⟨hk.1.2.2.2.2.1, ⟨hk.1.2.2.2.2.2.1, ⟨hk.1.2.2.2.2.2.2.1, hk.1.2.2.2.2.2.2.2⟩⟩⟩⟩⟩⟩⟩⟩))).2.1 (Kd.V_F (Kd.V_mono (ok' := (fun k_ => ((P0_5_ k_ ∨ P0_4_ k_ ∨ P2_4_ k_ ∨ P2_5_ k_) ∨ w.heap.size ≤ k_) ∧ zn (.slice Ao20 l0_5.length co20) k_ ∧ zn (.slice Ao69 y173.length co69) k_ ∧ zn (.slice Ao71 y184.length co71) k_ ∧ some k_ ≠ (v196 : Value).ownBlock ∧ k_ ≠ gb156 ∧ k_ ≠ gb157 ∧ k_ ≠ gb158 ∧ k_ ≠ gb161)) (HO_158005.out) (fun k_ hk => ⟨hk.1.1, ⟨hk.1.2.1, ⟨hk.1.2.2.1, ⟨hk.1.2.2.2.1, ⟨hk.2, ⟨hk.1.2.2.2.2.1, ⟨hk.1.2.2.2.2.2.1, ⟨hk.1.2.2.2.2.2.2.1, hk.1.2.2.2.2.2.2.2⟩⟩⟩⟩⟩⟩⟩⟩))))) (Reps.none _ _)))
                intro v199 w80 ho81 hb hg_ hnew_
                clear hg_ hnew_
                (first | rw [← Ny198.out] at ho81 | (simp only [Int.reduceToNat] at ho81; rw [← Ny198.out] at ho81))
                replace HO_157004 := zA (Kd.V_elder' (vwV HO_157004.out) (Kd.N_base ho81) hb)
                replace HO_157005 := zA (Kd.R_below (vwR HO_157005.out) hb)
                replace HO_158004 := zA (Kd.V_elder' (vwV HO_158004.out) (Kd.N_base ho81) hb)
                replace HO_158005 := zA (Kd.V_elder' (vwV HO_158005.out) (Kd.N_base ho81) hb)
                replace HO169 := zA (Kd.V_elder' (vwV HO169.out) (Kd.N_base ho81) hb)
                replace HO183 := zA (Kd.V_elder' (vwV HO183.out) (Kd.N_base ho81) hb)
                replace HO175 := zA (Kd.R_below (vwR HO175.out) hb)
                replace HO186 := zA (Kd.R_below (vwR HO186.out) hb)
                replace HO194 := zA (Kd.V_elder' (vwV HO194.out) (Kd.N_base ho81) hb)
                replace HO208 := zA (Kd.V_elder' (vwV HO208.out) (Kd.N_base ho81) hb)
                replace HO197 := zA (Kd.N_elder' (vwN HO197.out) (Kd.N_base ho81) hb)
                have HO200 := zA (Kd.N_lower ho81 apV)
                replace BK156 := zA (zP (g := gb156) (o := .cells #[.int .i64 a0_0, .int .i64 a0_1, .int .i64 a0_2, .string a0_3, .slice A0_4 l0_4.length c0_4, .slice Ao20 l0_5.length co20] 33 (0, 0)) apG hb)
                replace BK157 := zA (zP (g := gb157) (o := .cells #[.int .i64 a2_0, .int .i64 a2_1, .int .i64 a2_2, .string a2_3, .slice A2_4 l2_4.length c2_4, .slice A2_5 l2_5.length c2_5] 33 (0, 0)) apI hb)
                replace BK158 := zA (zP (g := gb158) (o := .cells #[.int .i64 0, .int .i64 0, .int .i64 0, .string (⟨#[]⟩ : ByteArray), .slice none 0 0, .slice none 0 0] 33 (0, 0)) apK hb)
                replace BK161 := zA (zP (g := gb161) (o := .cells #[.int .i64 6, .int .i64 0, .int .i64 0, .string (⟨#[]⟩ : ByteArray), .slice none 0 0, .slice Ao71 y184.length co71] 33 (0, 0)) apP hb)
                replace HK := zA (Kept.below (S := (fun k_ => P0_5_ k_)) apF hb)
                replace HB := zA (zQ apN hb)
                clear hb ho81
                refine hK.out _ _ ⟨(zJ BK156.out 0).trans rfl, (zJ BK156.out 1).trans rfl, (zJ BK156.out 2).trans rfl, (zJ BK156.out 3).trans rfl, (zJ BK156.out 4).trans rfl, (zJ BK156.out 5).trans rfl, (zJ BK157.out 0).trans rfl, (zJ BK157.out 1).trans rfl, (zJ BK157.out 2).trans rfl, (zJ BK157.out 3).trans rfl, (zJ BK157.out 4).trans rfl, (zJ BK157.out 5).trans rfl⟩ (fun hHeld => ?_)
                clear hK K
                refine norm_ (a' := ?_) ?_ ?_
                rotate_left
                ·show Act.put _ (some 56) _ = _
                 simp only [Act.put, zL, zM, zN, i64_w, i32_w]
                 rfl
                exact norm_ (by simp only [putAll, Act.put, zL, zM, zN]) (hCont (v188, v196, v199) _ ⟨hHeld, (by (with_reducible repeat (first | apply Kd.V_alloc | apply Kd.V_drewN | apply Kd.V_drew)); exact Kd.V_mono HO169.out (fun _ hk => ⟨hk.1.1.1, ⟨hk.1.1.2.1, ⟨hk.1.1.2.2.1, ⟨hk.1.2, ⟨hk.2, ⟨hk.1.1.2.2.2.1, ⟨hk.1.1.2.2.2.2.1, ⟨hk.1.1.2.2.2.2.2.1, hk.1.1.2.2.2.2.2.2⟩⟩⟩⟩⟩⟩⟩⟩)), (by (with_reducible repeat (first | apply Kd.R_alloc | apply Kd.R_drewN | apply Kd.R_drew)); exact Kd.R_mono HO175.out (fun _ hk => ⟨hk.1, ⟨hk.2.2, hk.2.1⟩⟩)), (by (with_reducible repeat (first | apply Kd.V_alloc | apply Kd.V_drewN | apply Kd.V_drew)); exact Kd.V_mono HO183.out (fun _ hk => ⟨hk.1.1.1, ⟨hk.1.1.2.1, ⟨hk.1.1.2.2.1, ⟨hk.1.2, ⟨hk.2, ⟨hk.1.1.2.2.2.1, ⟨hk.1.1.2.2.2.2.1, ⟨hk.1.1.2.2.2.2.2.1, hk.1.1.2.2.2.2.2.2⟩⟩⟩⟩⟩⟩⟩⟩)), (by (with_reducible repeat (first | apply Kd.R_alloc | apply Kd.R_drewN | apply Kd.R_drew)); exact Kd.R_mono HO186.out (fun _ hk => ⟨hk.1, ⟨hk.2.2, hk.2.1⟩⟩)), (by (with_reducible repeat (first | apply Kd.V_alloc | apply Kd.V_drewN | apply Kd.V_drew)); exact Kd.V_mono HO194.out (fun _ hk => ⟨hk.1.1.1, ⟨hk.1.1.2.2.1, ⟨hk.1.1.2.2.2.1, ⟨hk.1.2, ⟨hk.2, ⟨hk.1.1.2.1, ⟨hk.1.1.2.2.2.2.1, ⟨hk.1.1.2.2.2.2.2.1, ⟨hk.1.1.2.2.2.2.2.2.1, hk.1.1.2.2.2.2.2.2.2⟩⟩⟩⟩⟩⟩⟩⟩⟩)), (by (with_reducible repeat (first | apply Kd.N_alloc | apply Kd.N_drewN | apply Kd.N_drew)); exact Kd.N_mono HO197.out (fun _ hk => ⟨hk.1.1, ⟨hk.1.2.2.1, ⟨hk.1.2.2.2.1, ⟨hk.2, ⟨hk.1.2.1, ⟨hk.1.2.2.2.2.1, ⟨hk.1.2.2.2.2.2.1, ⟨hk.1.2.2.2.2.2.2.1, hk.1.2.2.2.2.2.2.2⟩⟩⟩⟩⟩⟩⟩⟩)), (by (with_reducible repeat (first | apply Kd.N_alloc | apply Kd.N_drewN | apply Kd.N_drew)); exact Kd.N_mono HO200.out (fun _ hk => ⟨hk.1, ⟨hk.2.2.1, ⟨hk.2.2.2.1, ⟨hk.2.2.2.2.1, ⟨hk.2.1, ⟨hk.2.2.2.2.2.1, ⟨hk.2.2.2.2.2.2.1, ⟨hk.2.2.2.2.2.2.2.1, hk.2.2.2.2.2.2.2.2⟩⟩⟩⟩⟩⟩⟩⟩)), (by (with_reducible repeat (first | apply Kd.V_alloc | apply Kd.V_drewN | apply Kd.V_drew)); exact Kd.V_mono HO208.out (fun _ hk => ⟨hk.1.1.1, ⟨hk.1.1.2.2.1, ⟨hk.1.1.2.2.2.1, ⟨hk.1.2, ⟨hk.2, ⟨hk.1.1.2.1, ⟨hk.1.1.2.2.2.2.1, ⟨hk.1.1.2.2.2.2.2.1, ⟨hk.1.1.2.2.2.2.2.2.1, hk.1.1.2.2.2.2.2.2.2⟩⟩⟩⟩⟩⟩⟩⟩⟩)), (by (with_reducible repeat (first | apply Kd.V_alloc | apply Kd.V_drewN | apply Kd.V_drew)); exact Kd.V_mono HO_157004.out (fun _ hk => ⟨hk.1.1.1, ⟨hk.1.1.2.2.1, ⟨hk.1.1.2.2.2.1, ⟨hk.1.2, ⟨hk.2, ⟨hk.1.1.2.1, ⟨hk.1.1.2.2.2.2.1, ⟨hk.1.1.2.2.2.2.2.1, ⟨hk.1.1.2.2.2.2.2.2.1, hk.1.1.2.2.2.2.2.2.2⟩⟩⟩⟩⟩⟩⟩⟩⟩)), (vwR HO_157005.out), (by (with_reducible repeat (first | apply Kd.V_alloc | apply Kd.V_drewN | apply Kd.V_drew)); exact Kd.V_mono HO_158004.out (fun _ hk => ⟨hk.1.1.1, ⟨hk.1.1.2.2.1, ⟨hk.1.1.2.2.2.1, ⟨hk.1.2, ⟨hk.2, ⟨hk.1.1.2.1, ⟨hk.1.1.2.2.2.2.1, ⟨hk.1.1.2.2.2.2.2.1, ⟨hk.1.1.2.2.2.2.2.2.1, hk.1.1.2.2.2.2.2.2.2⟩⟩⟩⟩⟩⟩⟩⟩⟩)), (by (with_reducible repeat (first | apply Kd.V_alloc | apply Kd.V_drewN | apply Kd.V_drew)); exact Kd.V_mono HO_158005.out (fun _ hk => ⟨hk.1.1.1, ⟨hk.1.1.2.2.1, ⟨hk.1.1.2.2.2.1, ⟨hk.1.2, ⟨hk.2, ⟨hk.1.1.2.1, ⟨hk.1.1.2.2.2.2.1, ⟨hk.1.1.2.2.2.2.2.1, ⟨hk.1.1.2.2.2.2.2.2.1, hk.1.1.2.2.2.2.2.2.2⟩⟩⟩⟩⟩⟩⟩⟩⟩)), apG, apI, apK, apP, apF, apN⟩)
               ·skip
                refine Kd.N_lit_step k33 _ 33 ?hg (N' := 56) ?hd (xs := ([(⟨a2_0, (⟨a2_1, a2_2⟩ : S30), a2_3, l2_4, l2_5⟩ : S33)] : List (S33))) (inner := [.int .i64 a2_0, .int .i64 a2_1, .int .i64 a2_2, .string a2_3, .slice A2_4 l2_4.length c2_4, .slice A2_5 l2_5.length c2_5]) (ok := (fun k_ => ((P0_5_ k_ ∨ P0_4_ k_ ∨ P2_4_ k_ ∨ P2_5_ k_) ∨ w.heap.size ≤ k_) ∧ zn (.slice Ao20 l0_5.length co20) k_ ∧ zn (.slice Ao69 y173.length co69) k_ ∧ zn (.slice Ao71 y184.length co71) k_ ∧ some k_ ≠ (v188 : Value).ownBlock ∧ k_ ≠ gb156 ∧ k_ ≠ gb157 ∧ k_ ≠ gb158 ∧ k_ ≠ gb161)) (okp := (fun k_ => ((P0_5_ k_ ∨ P0_4_ k_ ∨ P2_4_ k_ ∨ P2_5_ k_) ∨ w.heap.size ≤ k_) ∧ zn (.slice Ao20 l0_5.length co20) k_ ∧ zn (.slice Ao69 y173.length co69) k_ ∧ zn (.slice Ao71 y184.length co71) k_ ∧ some k_ ≠ (v188 : Value).ownBlock ∧ k_ ≠ gb156 ∧ k_ ≠ gb157 ∧ k_ ≠ gb158 ∧ k_ ≠ gb161)) ?hr ?hp (fun _ hk => hk) ((show ∀ k_, w77.heap.size ≤ k_ → (fun k_ => ((P0_5_ k_ ∨ P0_4_ k_ ∨ P2_4_ k_ ∨ P2_5_ k_) ∨ w.heap.size ≤ k_) ∧ zn (.slice Ao20 l0_5.length co20) k_ ∧ zn (.slice Ao69 y173.length co69) k_ ∧ zn (.slice Ao71 y184.length co71) k_ ∧ some k_ ≠ (v188 : Value).ownBlock ∧ k_ ≠ gb156 ∧ k_ ≠ gb157 ∧ k_ ≠ gb158 ∧ k_ ≠ gb161) k_ from fun k_ hk => ⟨(.inr (Nat.le_trans apV hk)), Kd.fresh' (Kd.R_lt (vwR HO_157005.out)) k_ hk, Kd.fresh' (Kd.R_lt (vwR HO175.out)) k_ hk, Kd.fresh' (Kd.R_lt (vwR HO186.out)) k_ hk, Kd.fresh' (Kd.N_lt (vwN HO189.out)) k_ hk, Kd.freshB (g := gb156) (o := .cells #[.int .i64 a0_0, .int .i64 a0_1, .int .i64 a0_2, .string a0_3, .slice A0_4 l0_4.length c0_4, .slice Ao20 l0_5.length co20] 33 (0, 0)) apG k_ hk, Kd.freshB (g := gb157) (o := .cells #[.int .i64 a2_0, .int .i64 a2_1, .int .i64 a2_2, .string a2_3, .slice A2_4 l2_4.length c2_4, .slice A2_5 l2_5.length c2_5] 33 (0, 0)) apI k_ hk, Kd.freshB (g := gb158) (o := .cells #[.int .i64 0, .int .i64 0, .int .i64 0, .string (⟨#[]⟩ : ByteArray), .slice none 0 0, .slice none 0 0] 33 (0, 0)) apK k_ hk, Kd.freshB (g := gb161) (o := .cells #[.int .i64 6, .int .i64 0, .int .i64 0, .string (⟨#[]⟩ : ByteArray), .slice none 0 0, .slice Ao71 y184.length co71] 33 (0, 0)) apP k_ hk⟩) _ (yH _)) (yG _ _) (yH _) (by simp) ?_; (case hd => rfl); (case hg => rfl); (case hr => first | (go_simp; done) | (go_simp; rfl)); (case hp => exact (Reps.c6 (show Kd.FK k33 _ _ (⟨a2_0, (⟨a2_1, a2_2⟩ : S30), a2_3, l2_4, l2_5⟩ : S33) [.int .i64 a2_0, .int .i64 a2_1, .int .i64 a2_2, .string a2_3, .slice A2_4 l2_4.length c2_4, .slice A2_5 l2_5.length c2_5] from (k33_mkF _ _ (⟨a2_0, (⟨a2_1, a2_2⟩ : S30), a2_3, l2_4, l2_5⟩ : S33) (Kd.V_reads' (Kd.V_mono (ok' := (fun k_ => ((P0_5_ k_ ∨ P0_4_ k_ ∨ P2_4_ k_ ∨ P2_5_ k_) ∨ w.heap.size ≤ k_) ∧ zn (.slice Ao20 l0_5.length co20) k_ ∧ zn (.slice Ao69 y173.length co69) k_ ∧ zn (.slice Ao71 y184.length co71) k_ ∧ some k_ ≠ (v188 : Value).ownBlock ∧ k_ ≠ gb156 ∧ k_ ≠ gb157 ∧ k_ ≠ gb158 ∧ k_ ≠ gb161)) (HO_158004.out) (fun k_ hk => ⟨hk.1.1, ⟨hk.1.2.1, ⟨hk.1.2.2.1, ⟨hk.1.2.2.2.1, ⟨hk.2, ⟨hk.1.2.2.2.2.1, ⟨hk.1.2.2.2.2.2.1, ⟨hk.1.2.2.2.2.2.2.1, hk.1.2.2.2.2.2.2.2⟩⟩⟩⟩⟩⟩⟩⟩))).2.1 (Kd.V_F (Kd.V_mono (ok' := (fun k_ => ((P0_5_ k_ ∨ P0_4_ k_ ∨ P2_4_ k_ ∨ P2_5_ k_) ∨ w.heap.size ≤ k_) ∧ zn (.slice Ao20 l0_5.length co20) k_ ∧ zn (.slice Ao69 y173.length co69) k_ ∧ zn (.slice Ao71 y184.length co71) k_ ∧ some k_ ≠ (v188 : Value).ownBlock ∧ k_ ≠ gb156 ∧ k_ ≠ gb157 ∧ k_ ≠ gb158 ∧ k_ ≠ gb161)) (HO_158004.out) (fun k_ hk => ⟨hk.1.1, ⟨hk.1.2.1, ⟨hk.1.2.2.1, ⟨hk.1.2.2.2.1, ⟨hk.2, ⟨hk.1.2.2.2.2.1, ⟨hk.1.2.2.2.2.2.1, ⟨hk.1.2.2.2.2.2.2.1, hk.1.2.2.2.2.2.2.2⟩⟩⟩⟩⟩⟩⟩⟩))) (Kd.V_reads' (Kd.V_mono (ok' := (fun k_ => ((P0_5_ k_ ∨ P0_4_ k_ ∨ P2_4_ k_ ∨ P2_5_ k_) ∨ w.heap.size ≤ k_) ∧ zn (.slice Ao20 l0_5.length co20) k_ ∧ zn (.slice Ao69 y173.length co69) k_ ∧ zn (.slice Ao71 y184.length co71) k_ ∧ some k_ ≠ (v188 : Value).ownBlock ∧ k_ ≠ gb156 ∧ k_ ≠ gb157 ∧ k_ ≠ gb158 ∧ k_ ≠ gb161)) (HO_158005.out) (fun k_ hk => ⟨hk.1.1, ⟨hk.1.2.1, ⟨hk.1.2.2.1, ⟨hk.1.2.2.2.1, ⟨hk.2, ⟨hk.1.2.2.2.2.1, ⟨hk.1.2.2.2.2.2.1, ⟨hk.1.2.2.2.2.2.2.1, hk.1.2.2.2.2.2.2.2⟩⟩⟩⟩⟩⟩⟩⟩))).2.1 (Kd.V_F (Kd.V_mono (ok' := (fun k_ => ((P0_5_ k_ ∨ P0_4_ k_ ∨ P2_4_ k_ ∨ P2_5_ k_) ∨ w.heap.size ≤ k_) ∧ zn (.slice Ao20 l0_5.length co20) k_ ∧ zn (.slice Ao69 y173.length co69) k_ ∧ zn (.slice Ao71 y184.length co71) k_ ∧ some k_ ≠ (v188 : Value).ownBlock ∧ k_ ≠ gb156 ∧ k_ ≠ gb157 ∧ k_ ≠ gb158 ∧ k_ ≠ gb161)) (HO_158005.out) (fun k_ hk => ⟨hk.1.1, ⟨hk.1.2.1, ⟨hk.1.2.2.1, ⟨hk.1.2.2.2.1, ⟨hk.2, ⟨hk.1.2.2.2.2.1, ⟨hk.1.2.2.2.2.2.1, ⟨hk.1.2.2.2.2.2.2.1, hk.1.2.2.2.2.2.2.2⟩⟩⟩⟩⟩⟩⟩⟩))))) (Reps.none _ _)))
                intro v199 w79 ho80 hb hg_ hnew_
                clear hg_ hnew_
                (first | rw [← Ny198.out] at ho80 | (simp only [Int.reduceToNat] at ho80; rw [← Ny198.out] at ho80))
                replace HO_157004 := zA (Kd.V_elder' (vwV HO_157004.out) (Kd.N_base ho80) hb)
                replace HO_157005 := zA (Kd.R_below (vwR HO_157005.out) hb)
                replace HO_158004 := zA (Kd.V_elder' (vwV HO_158004.out) (Kd.N_base ho80) hb)
                replace HO_158005 := zA (Kd.V_elder' (vwV HO_158005.out) (Kd.N_base ho80) hb)
                replace HO169 := zA (Kd.V_elder' (vwV HO169.out) (Kd.N_base ho80) hb)
                replace HO183 := zA (Kd.V_elder' (vwV HO183.out) (Kd.N_base ho80) hb)
                replace HO175 := zA (Kd.R_below (vwR HO175.out) hb)
                replace HO186 := zA (Kd.R_below (vwR HO186.out) hb)
                replace HO194 := zA (Kd.V_elder' (vwV HO194.out) (Kd.N_base ho80) hb)
                replace HO208 := zA (Kd.V_elder' (vwV HO208.out) (Kd.N_base ho80) hb)
                replace HO189 := zA (Kd.N_elder' (vwN HO189.out) (Kd.N_base ho80) hb)
                have HO200 := zA (Kd.N_lower ho80 apV)
                replace BK156 := zA (zP (g := gb156) (o := .cells #[.int .i64 a0_0, .int .i64 a0_1, .int .i64 a0_2, .string a0_3, .slice A0_4 l0_4.length c0_4, .slice Ao20 l0_5.length co20] 33 (0, 0)) apG hb)
                replace BK157 := zA (zP (g := gb157) (o := .cells #[.int .i64 a2_0, .int .i64 a2_1, .int .i64 a2_2, .string a2_3, .slice A2_4 l2_4.length c2_4, .slice A2_5 l2_5.length c2_5] 33 (0, 0)) apI hb)
                replace BK158 := zA (zP (g := gb158) (o := .cells #[.int .i64 0, .int .i64 0, .int .i64 0, .string (⟨#[]⟩ : ByteArray), .slice none 0 0, .slice none 0 0] 33 (0, 0)) apK hb)
                replace BK161 := zA (zP (g := gb161) (o := .cells #[.int .i64 6, .int .i64 0, .int .i64 0, .string (⟨#[]⟩ : ByteArray), .slice none 0 0, .slice Ao71 y184.length co71] 33 (0, 0)) apP hb)
                replace HK := zA (Kept.below (S := (fun k_ => P0_5_ k_)) apF hb)
                replace HB := zA (zQ apN hb)
                clear hb ho80
                refine hK.out _ _ ⟨(zJ BK156.out 0).trans rfl, (zJ BK156.out 1).trans rfl, (zJ BK156.out 2).trans rfl, (zJ BK156.out 3).trans rfl, (zJ BK156.out 4).trans rfl, (zJ BK156.out 5).trans rfl, (zJ BK157.out 0).trans rfl, (zJ BK157.out 1).trans rfl, (zJ BK157.out 2).trans rfl, (zJ BK157.out 3).trans rfl, (zJ BK157.out 4).trans rfl, (zJ BK157.out 5).trans rfl⟩ (fun hHeld => ?_)
                clear hK K
                refine norm_ (a' := ?_) ?_ ?_
                rotate_left
                ·show Act.put _ (some 56) _ = _
                 simp only [Act.put, zL, zM, zN, i64_w, i32_w]
                 rfl
                refine one_ (i := 5) (N := some 54) #[true, true, true, true, true, true, true, true, false, true, true, true, true, false, false, false] rfl rfl (one_of HT_.out (by kernel_rfl)) (by decide) (fun K hK => ?_)
                refine Kd.N_append_rows_step k33 w.heap.size rfl (.tmp 49) (.tmp 53) 31 33 (.agg #[(.int .i64 0), (.int .i64 0), (.int .i64 0), (.string ⟨#[]⟩), (.slice none 0 0), (.slice none 0 0)]) 88 rfl Tryd.underlying31 info33 rfl (by decide) (by omega) v188 y187 y190 _ _ _ (fun k_ => ((P0_5_ k_ ∨ P0_4_ k_ ∨ P2_4_ k_ ∨ P2_5_ k_) ∨ w.heap.size ≤ k_) ∧ zn (.slice Ao20 l0_5.length co20) k_ ∧ zn (.slice Ao69 y173.length co69) k_ ∧ zn (.slice Ao71 y184.length co71) k_ ∧ some k_ ≠ (v199 : Value).ownBlock ∧ k_ ≠ gb156 ∧ k_ ≠ gb157 ∧ k_ ≠ gb158 ∧ k_ ≠ gb161) (fun k_ => ((fun k_ => ((P0_5_ k_ ∨ P0_4_ k_ ∨ P2_4_ k_ ∨ P2_5_ k_) ∨ w.heap.size ≤ k_) ∧ zn (.slice Ao20 l0_5.length co20) k_ ∧ zn (.slice Ao69 y173.length co69) k_ ∧ zn (.slice Ao71 y184.length co71) k_ ∧ some k_ ≠ (v199 : Value).ownBlock ∧ k_ ≠ gb156 ∧ k_ ≠ gb157 ∧ k_ ≠ gb158 ∧ k_ ≠ gb161)) k_ ∧ some k_ ≠ (v188 : Value).ownBlock) rfl rfl ?aO ?aR (fun _ hk => hk) ?aF (yG _ _) ?aS ?aL ?_
                (case aR => exact (by skip; exact Kd.V_F (Kd.V_mono (ok' := (fun k_ => ((fun k_ => ((P0_5_ k_ ∨ P0_4_ k_ ∨ P2_4_ k_ ∨ P2_5_ k_) ∨ w.heap.size ≤ k_) ∧ zn (.slice Ao20 l0_5.length co20) k_ ∧ zn (.slice Ao69 y173.length co69) k_ ∧ zn (.slice Ao71 y184.length co71) k_ ∧ some k_ ≠ (v199 : Value).ownBlock ∧ k_ ≠ gb156 ∧ k_ ≠ gb157 ∧ k_ ≠ gb158 ∧ k_ ≠ gb161)) k_ ∧ some k_ ≠ (v188 : Value).ownBlock)) (HO194.out) (fun k_ hk => ⟨⟨hk.1.1.1, ⟨hk.1.1.2.1, ⟨hk.1.1.2.2.1, ⟨hk.1.1.2.2.2.1, ⟨hk.2, ⟨hk.1.1.2.2.2.2.1, ⟨hk.1.1.2.2.2.2.2.1, ⟨hk.1.1.2.2.2.2.2.2.1, hk.1.1.2.2.2.2.2.2.2⟩⟩⟩⟩⟩⟩⟩⟩, hk.1.2⟩))))
                (case aF => exact (fun k_ hk => ⟨(.inr (Nat.le_trans apV hk)), Kd.fresh' (Kd.R_lt (vwR HO_157005.out)) k_ hk, Kd.fresh' (Kd.R_lt (vwR HO175.out)) k_ hk, Kd.fresh' (Kd.R_lt (vwR HO186.out)) k_ hk, Kd.fresh' (Kd.N_lt (vwN HO200.out)) k_ hk, Kd.freshB (g := gb156) (o := .cells #[.int .i64 a0_0, .int .i64 a0_1, .int .i64 a0_2, .string a0_3, .slice A0_4 l0_4.length c0_4, .slice Ao20 l0_5.length co20] 33 (0, 0)) apG k_ hk, Kd.freshB (g := gb157) (o := .cells #[.int .i64 a2_0, .int .i64 a2_1, .int .i64 a2_2, .string a2_3, .slice A2_4 l2_4.length c2_4, .slice A2_5 l2_5.length c2_5] 33 (0, 0)) apI k_ hk, Kd.freshB (g := gb158) (o := .cells #[.int .i64 0, .int .i64 0, .int .i64 0, .string (⟨#[]⟩ : ByteArray), .slice none 0 0, .slice none 0 0] 33 (0, 0)) apK k_ hk, Kd.freshB (g := gb161) (o := .cells #[.int .i64 6, .int .i64 0, .int .i64 0, .string (⟨#[]⟩ : ByteArray), .slice none 0 0, .slice Ao71 y184.length co71] 33 (0, 0)) apP k_ hk⟩))
                (case aO => exact (by (with_reducible repeat (first | apply Kd.N_alloc | apply Kd.N_drewN | apply Kd.N_drew)); exact Kd.N_mono HO189.out (fun _ hk => ⟨hk.1.1, ⟨hk.1.2.1, ⟨hk.1.2.2.1, ⟨hk.1.2.2.2.1, ⟨hk.2, ⟨hk.1.2.2.2.2.1, ⟨hk.1.2.2.2.2.2.1, ⟨hk.1.2.2.2.2.2.2.1, hk.1.2.2.2.2.2.2.2⟩⟩⟩⟩⟩⟩⟩⟩)))
                (case aS => exact apV)
                (case aL => have := LMc48.out; (first | omega | (simp only [ByteArray.size, List.size_toArray, List.length_cons, List.length_nil] at *; omega)))
                intro v196 w81 ho hb hg hat
                rw [← Ny195.out] at ho
                replace HO_157004 := zA (Kd.V_afterv (ok := (fun k_ => ((P0_5_ k_ ∨ P0_4_ k_ ∨ P2_4_ k_ ∨ P2_5_ k_) ∨ w.heap.size ≤ k_) ∧ zn (.slice Ao20 l0_5.length co20) k_ ∧ zn (.slice Ao69 y173.length co69) k_ ∧ zn (.slice Ao71 y184.length co71) k_ ∧ some k_ ≠ (v199 : Value).ownBlock ∧ k_ ≠ gb156 ∧ k_ ≠ gb157 ∧ k_ ≠ gb158 ∧ k_ ≠ gb161)) (by (with_reducible repeat (first | apply Kd.V_alloc | apply Kd.V_drewN | apply Kd.V_drew)); exact Kd.V_mono HO_157004.out (fun _ hk => ⟨⟨hk.1.1.1, ⟨hk.1.1.2.1, ⟨hk.1.1.2.2.1, ⟨hk.1.1.2.2.2.1, ⟨hk.2, ⟨hk.1.1.2.2.2.2.1, ⟨hk.1.1.2.2.2.2.2.1, ⟨hk.1.1.2.2.2.2.2.2.1, hk.1.1.2.2.2.2.2.2.2⟩⟩⟩⟩⟩⟩⟩⟩, hk.1.2⟩)) hg hat)
                replace HO_157005 := zA (Kd.R_over' (vwR HO_157005.out) (Kd.N_typed (vwN HO189.out)) (by decide) hg)
                replace HO_158004 := zA (Kd.V_afterv (ok := (fun k_ => ((P0_5_ k_ ∨ P0_4_ k_ ∨ P2_4_ k_ ∨ P2_5_ k_) ∨ w.heap.size ≤ k_) ∧ zn (.slice Ao20 l0_5.length co20) k_ ∧ zn (.slice Ao69 y173.length co69) k_ ∧ zn (.slice Ao71 y184.length co71) k_ ∧ some k_ ≠ (v199 : Value).ownBlock ∧ k_ ≠ gb156 ∧ k_ ≠ gb157 ∧ k_ ≠ gb158 ∧ k_ ≠ gb161)) (by (with_reducible repeat (first | apply Kd.V_alloc | apply Kd.V_drewN | apply Kd.V_drew)); exact Kd.V_mono HO_158004.out (fun _ hk => ⟨⟨hk.1.1.1, ⟨hk.1.1.2.1, ⟨hk.1.1.2.2.1, ⟨hk.1.1.2.2.2.1, ⟨hk.2, ⟨hk.1.1.2.2.2.2.1, ⟨hk.1.1.2.2.2.2.2.1, ⟨hk.1.1.2.2.2.2.2.2.1, hk.1.1.2.2.2.2.2.2.2⟩⟩⟩⟩⟩⟩⟩⟩, hk.1.2⟩)) hg hat)
                replace HO_158005 := zA (Kd.V_afterv (ok := (fun k_ => ((P0_5_ k_ ∨ P0_4_ k_ ∨ P2_4_ k_ ∨ P2_5_ k_) ∨ w.heap.size ≤ k_) ∧ zn (.slice Ao20 l0_5.length co20) k_ ∧ zn (.slice Ao69 y173.length co69) k_ ∧ zn (.slice Ao71 y184.length co71) k_ ∧ some k_ ≠ (v199 : Value).ownBlock ∧ k_ ≠ gb156 ∧ k_ ≠ gb157 ∧ k_ ≠ gb158 ∧ k_ ≠ gb161)) (by (with_reducible repeat (first | apply Kd.V_alloc | apply Kd.V_drewN | apply Kd.V_drew)); exact Kd.V_mono HO_158005.out (fun _ hk => ⟨⟨hk.1.1.1, ⟨hk.1.1.2.1, ⟨hk.1.1.2.2.1, ⟨hk.1.1.2.2.2.1, ⟨hk.2, ⟨hk.1.1.2.2.2.2.1, ⟨hk.1.1.2.2.2.2.2.1, ⟨hk.1.1.2.2.2.2.2.2.1, hk.1.1.2.2.2.2.2.2.2⟩⟩⟩⟩⟩⟩⟩⟩, hk.1.2⟩)) hg hat)
                replace BK156 := zA (blk_grown (g := gb156) (o := .cells #[.int .i64 a0_0, .int .i64 a0_1, .int .i64 a0_2, .string a0_3, .slice A0_4 l0_4.length c0_4, .slice Ao20 l0_5.length co20] 33 (0, 0)) apG hg (Kd.N_away HO189.out (fun _ hk => hk.1.2.2.2.2.1)))
                replace BK157 := zA (blk_grown (g := gb157) (o := .cells #[.int .i64 a2_0, .int .i64 a2_1, .int .i64 a2_2, .string a2_3, .slice A2_4 l2_4.length c2_4, .slice A2_5 l2_5.length c2_5] 33 (0, 0)) apI hg (Kd.N_away HO189.out (fun _ hk => hk.1.2.2.2.2.2.1)))
                replace BK158 := zA (blk_grown (g := gb158) (o := .cells #[.int .i64 0, .int .i64 0, .int .i64 0, .string (⟨#[]⟩ : ByteArray), .slice none 0 0, .slice none 0 0] 33 (0, 0)) apK hg (Kd.N_away HO189.out (fun _ hk => hk.1.2.2.2.2.2.2.1)))
                replace BK161 := zA (blk_grown (g := gb161) (o := .cells #[.int .i64 6, .int .i64 0, .int .i64 0, .string (⟨#[]⟩ : ByteArray), .slice none 0 0, .slice Ao71 y184.length co71] 33 (0, 0)) apP hg (Kd.N_away HO189.out (fun _ hk => hk.1.2.2.2.2.2.2.2)))
                replace HO169 := zA (Kd.V_afterv (ok := (fun k_ => ((P0_5_ k_ ∨ P0_4_ k_ ∨ P2_4_ k_ ∨ P2_5_ k_) ∨ w.heap.size ≤ k_) ∧ zn (.slice Ao69 y173.length co69) k_ ∧ zn (.slice Ao71 y184.length co71) k_ ∧ some k_ ≠ (v199 : Value).ownBlock ∧ k_ ≠ gb156 ∧ k_ ≠ gb157 ∧ k_ ≠ gb158 ∧ k_ ≠ gb161)) (by (with_reducible repeat (first | apply Kd.V_alloc | apply Kd.V_drewN | apply Kd.V_drew)); exact Kd.V_mono HO169.out (fun _ hk => ⟨⟨hk.1.1.1, ⟨hk.1.1.2.1, ⟨hk.1.1.2.2.1, ⟨hk.2, ⟨hk.1.1.2.2.2.1, ⟨hk.1.1.2.2.2.2.1, ⟨hk.1.1.2.2.2.2.2.1, hk.1.1.2.2.2.2.2.2⟩⟩⟩⟩⟩⟩⟩, hk.1.2⟩)) hg hat)
                replace HO183 := zA (Kd.V_afterv (ok := (fun k_ => ((P0_5_ k_ ∨ P0_4_ k_ ∨ P2_4_ k_ ∨ P2_5_ k_) ∨ w.heap.size ≤ k_) ∧ zn (.slice Ao69 y173.length co69) k_ ∧ zn (.slice Ao71 y184.length co71) k_ ∧ some k_ ≠ (v199 : Value).ownBlock ∧ k_ ≠ gb156 ∧ k_ ≠ gb157 ∧ k_ ≠ gb158 ∧ k_ ≠ gb161)) (by (with_reducible repeat (first | apply Kd.V_alloc | apply Kd.V_drewN | apply Kd.V_drew)); exact Kd.V_mono HO183.out (fun _ hk => ⟨⟨hk.1.1.1, ⟨hk.1.1.2.1, ⟨hk.1.1.2.2.1, ⟨hk.2, ⟨hk.1.1.2.2.2.1, ⟨hk.1.1.2.2.2.2.1, ⟨hk.1.1.2.2.2.2.2.1, hk.1.1.2.2.2.2.2.2⟩⟩⟩⟩⟩⟩⟩, hk.1.2⟩)) hg hat)
                replace HO175 := zA (Kd.R_over' (vwR HO175.out) (Kd.N_typed (vwN HO189.out)) (by decide) hg)
                replace HO186 := zA (Kd.R_over' (vwR HO186.out) (Kd.N_typed (vwN HO189.out)) (by decide) hg)
                replace HO194 := zA (Kd.V_afterv (ok := (fun k_ => ((P0_5_ k_ ∨ P0_4_ k_ ∨ P2_4_ k_ ∨ P2_5_ k_) ∨ w.heap.size ≤ k_) ∧ zn (.slice Ao20 l0_5.length co20) k_ ∧ zn (.slice Ao69 y173.length co69) k_ ∧ zn (.slice Ao71 y184.length co71) k_ ∧ some k_ ≠ (v199 : Value).ownBlock ∧ k_ ≠ gb156 ∧ k_ ≠ gb157 ∧ k_ ≠ gb158 ∧ k_ ≠ gb161)) (by (with_reducible repeat (first | apply Kd.V_alloc | apply Kd.V_drewN | apply Kd.V_drew)); exact Kd.V_mono HO194.out (fun _ hk => ⟨⟨hk.1.1.1, ⟨hk.1.1.2.1, ⟨hk.1.1.2.2.1, ⟨hk.1.1.2.2.2.1, ⟨hk.2, ⟨hk.1.1.2.2.2.2.1, ⟨hk.1.1.2.2.2.2.2.1, ⟨hk.1.1.2.2.2.2.2.2.1, hk.1.1.2.2.2.2.2.2.2⟩⟩⟩⟩⟩⟩⟩⟩, hk.1.2⟩)) hg hat)
                replace HO208 := zA (Kd.V_afterv (ok := (fun k_ => ((P0_5_ k_ ∨ P0_4_ k_ ∨ P2_4_ k_ ∨ P2_5_ k_) ∨ w.heap.size ≤ k_) ∧ zn (.slice Ao20 l0_5.length co20) k_ ∧ zn (.slice Ao69 y173.length co69) k_ ∧ zn (.slice Ao71 y184.length co71) k_ ∧ some k_ ≠ (v199 : Value).ownBlock ∧ k_ ≠ gb156 ∧ k_ ≠ gb157 ∧ k_ ≠ gb158 ∧ k_ ≠ gb161)) (by (with_reducible repeat (first | apply Kd.V_alloc | apply Kd.V_drewN | apply Kd.V_drew)); exact Kd.V_mono HO208.out (fun _ hk => ⟨⟨hk.1.1.1, ⟨hk.1.1.2.1, ⟨hk.1.1.2.2.1, ⟨hk.1.1.2.2.2.1, ⟨hk.2, ⟨hk.1.1.2.2.2.2.1, ⟨hk.1.1.2.2.2.2.2.1, ⟨hk.1.1.2.2.2.2.2.2.1, hk.1.1.2.2.2.2.2.2.2⟩⟩⟩⟩⟩⟩⟩⟩, hk.1.2⟩)) hg hat)
                replace HO200 := zA (Kd.N_afterv (ok := (fun k_ => ((P0_5_ k_ ∨ P0_4_ k_ ∨ P2_4_ k_ ∨ P2_5_ k_) ∨ w.heap.size ≤ k_) ∧ zn (.slice Ao20 l0_5.length co20) k_ ∧ zn (.slice Ao69 y173.length co69) k_ ∧ zn (.slice Ao71 y184.length co71) k_ ∧ k_ ≠ gb156 ∧ k_ ≠ gb157 ∧ k_ ≠ gb158 ∧ k_ ≠ gb161)) (by (with_reducible repeat (first | apply Kd.N_alloc | apply Kd.N_drewN | apply Kd.N_drew)); exact Kd.N_mono HO200.out (fun _ hk => ⟨⟨hk.1, ⟨hk.2.1, ⟨hk.2.2.1, ⟨hk.2.2.2.1, ⟨hk.2.2.2.2.2.1, ⟨hk.2.2.2.2.2.2.1, ⟨hk.2.2.2.2.2.2.2.1, hk.2.2.2.2.2.2.2.2⟩⟩⟩⟩⟩⟩⟩, hk.2.2.2.2.1⟩)) hg hat)
                replace HB := zA (below_weaken apN HW0.out hb)
                replace HK := zA (Kept.of_grown (S := (fun k_ => P0_5_ k_)) hg apF (fun k_ e_ => .inr (Kd.N_base HO189.out k_ e_)))
                have HO197 := zA (ho)
                clear HO189
                clear ho hb hg hat
                refine hK.out _ _ ⟨(zJ BK156.out 0).trans rfl, (zJ BK156.out 1).trans rfl, (zJ BK156.out 2).trans rfl, (zJ BK156.out 3).trans rfl, (zJ BK156.out 4).trans rfl, (zJ BK156.out 5).trans rfl, (zJ BK157.out 0).trans rfl, (zJ BK157.out 1).trans rfl, (zJ BK157.out 2).trans rfl, (zJ BK157.out 3).trans rfl, (zJ BK157.out 4).trans rfl, (zJ BK157.out 5).trans rfl⟩ (fun hHeld => ?_)
                clear hK K
                refine norm_ (a' := ?_) ?_ ?_
                rotate_left
                ·show Act.put _ (some 54) _ = _
                 simp only [Act.put, zL, zM, zN, i64_w, i32_w]
                 rfl
                exact norm_ (by simp only [putAll, Act.put, zL, zM, zN]) (hCont (v188, v196, v199) _ ⟨hHeld, (by (with_reducible repeat (first | apply Kd.V_alloc | apply Kd.V_drewN | apply Kd.V_drew)); exact Kd.V_mono HO169.out (fun _ hk => ⟨hk.1.1, ⟨hk.1.2.1, ⟨hk.1.2.2.1, ⟨hk.2, ⟨hk.1.2.2.2.1, ⟨hk.1.2.2.2.2.1, ⟨hk.1.2.2.2.2.2.1, ⟨hk.1.2.2.2.2.2.2.1, hk.1.2.2.2.2.2.2.2⟩⟩⟩⟩⟩⟩⟩⟩)), (by (with_reducible repeat (first | apply Kd.R_alloc | apply Kd.R_drewN | apply Kd.R_drew)); exact Kd.R_mono HO175.out (fun _ hk => ⟨hk.1, ⟨hk.2.2, hk.2.1⟩⟩)), (by (with_reducible repeat (first | apply Kd.V_alloc | apply Kd.V_drewN | apply Kd.V_drew)); exact Kd.V_mono HO183.out (fun _ hk => ⟨hk.1.1, ⟨hk.1.2.1, ⟨hk.1.2.2.1, ⟨hk.2, ⟨hk.1.2.2.2.1, ⟨hk.1.2.2.2.2.1, ⟨hk.1.2.2.2.2.2.1, ⟨hk.1.2.2.2.2.2.2.1, hk.1.2.2.2.2.2.2.2⟩⟩⟩⟩⟩⟩⟩⟩)), (by (with_reducible repeat (first | apply Kd.R_alloc | apply Kd.R_drewN | apply Kd.R_drew)); exact Kd.R_mono HO186.out (fun _ hk => ⟨hk.1, ⟨hk.2.2, hk.2.1⟩⟩)), (by (with_reducible repeat (first | apply Kd.V_alloc | apply Kd.V_drewN | apply Kd.V_drew)); exact Kd.V_mono HO194.out (fun _ hk => ⟨hk.1.1, ⟨hk.1.2.2.1, ⟨hk.1.2.2.2.1, ⟨hk.2, ⟨hk.1.2.2.2.2.1, ⟨hk.1.2.1, ⟨hk.1.2.2.2.2.2.1, ⟨hk.1.2.2.2.2.2.2.1, ⟨hk.1.2.2.2.2.2.2.2.1, hk.1.2.2.2.2.2.2.2.2⟩⟩⟩⟩⟩⟩⟩⟩⟩)), (by (with_reducible repeat (first | apply Kd.N_alloc | apply Kd.N_drewN | apply Kd.N_drew)); exact Kd.N_mono HO197.out (fun _ hk => ⟨hk.1, ⟨hk.2.2.1, ⟨hk.2.2.2.1, ⟨hk.2.2.2.2.1, ⟨hk.2.1, ⟨hk.2.2.2.2.2.1, ⟨hk.2.2.2.2.2.2.1, ⟨hk.2.2.2.2.2.2.2.1, hk.2.2.2.2.2.2.2.2⟩⟩⟩⟩⟩⟩⟩⟩)), (by (with_reducible repeat (first | apply Kd.N_alloc | apply Kd.N_drewN | apply Kd.N_drew)); exact Kd.N_mono HO200.out (fun _ hk => ⟨hk.1.1, ⟨hk.1.2.2.1, ⟨hk.1.2.2.2.1, ⟨hk.2, ⟨hk.1.2.1, ⟨hk.1.2.2.2.2.1, ⟨hk.1.2.2.2.2.2.1, ⟨hk.1.2.2.2.2.2.2.1, hk.1.2.2.2.2.2.2.2⟩⟩⟩⟩⟩⟩⟩⟩)), (by (with_reducible repeat (first | apply Kd.V_alloc | apply Kd.V_drewN | apply Kd.V_drew)); exact Kd.V_mono HO208.out (fun _ hk => ⟨hk.1.1, ⟨hk.1.2.2.1, ⟨hk.1.2.2.2.1, ⟨hk.2, ⟨hk.1.2.2.2.2.1, ⟨hk.1.2.1, ⟨hk.1.2.2.2.2.2.1, ⟨hk.1.2.2.2.2.2.2.1, ⟨hk.1.2.2.2.2.2.2.2.1, hk.1.2.2.2.2.2.2.2.2⟩⟩⟩⟩⟩⟩⟩⟩⟩)), (by (with_reducible repeat (first | apply Kd.V_alloc | apply Kd.V_drewN | apply Kd.V_drew)); exact Kd.V_mono HO_157004.out (fun _ hk => ⟨hk.1.1, ⟨hk.1.2.2.1, ⟨hk.1.2.2.2.1, ⟨hk.2, ⟨hk.1.2.2.2.2.1, ⟨hk.1.2.1, ⟨hk.1.2.2.2.2.2.1, ⟨hk.1.2.2.2.2.2.2.1, ⟨hk.1.2.2.2.2.2.2.2.1, hk.1.2.2.2.2.2.2.2.2⟩⟩⟩⟩⟩⟩⟩⟩⟩)), (vwR HO_157005.out), (by (with_reducible repeat (first | apply Kd.V_alloc | apply Kd.V_drewN | apply Kd.V_drew)); exact Kd.V_mono HO_158004.out (fun _ hk => ⟨hk.1.1, ⟨hk.1.2.2.1, ⟨hk.1.2.2.2.1, ⟨hk.2, ⟨hk.1.2.2.2.2.1, ⟨hk.1.2.1, ⟨hk.1.2.2.2.2.2.1, ⟨hk.1.2.2.2.2.2.2.1, ⟨hk.1.2.2.2.2.2.2.2.1, hk.1.2.2.2.2.2.2.2.2⟩⟩⟩⟩⟩⟩⟩⟩⟩)), (by (with_reducible repeat (first | apply Kd.V_alloc | apply Kd.V_drewN | apply Kd.V_drew)); exact Kd.V_mono HO_158005.out (fun _ hk => ⟨hk.1.1, ⟨hk.1.2.2.1, ⟨hk.1.2.2.2.1, ⟨hk.2, ⟨hk.1.2.2.2.2.1, ⟨hk.1.2.1, ⟨hk.1.2.2.2.2.2.1, ⟨hk.1.2.2.2.2.2.2.1, ⟨hk.1.2.2.2.2.2.2.2.1, hk.1.2.2.2.2.2.2.2.2⟩⟩⟩⟩⟩⟩⟩⟩⟩)), apG, apI, apK, apP, apF, apN⟩)
              ·skip
               refine Kd.N_lit_step k33 _ 33 ?hg (N' := 56) ?hd (xs := ([(⟨a2_0, (⟨a2_1, a2_2⟩ : S30), a2_3, l2_4, l2_5⟩ : S33)] : List (S33))) (inner := [.int .i64 a2_0, .int .i64 a2_1, .int .i64 a2_2, .string a2_3, .slice A2_4 l2_4.length c2_4, .slice A2_5 l2_5.length c2_5]) (ok := (fun k_ => ((P0_5_ k_ ∨ P0_4_ k_ ∨ P2_4_ k_ ∨ P2_5_ k_) ∨ w.heap.size ≤ k_) ∧ zn (.slice Ao20 l0_5.length co20) k_ ∧ zn (.slice Ao69 y173.length co69) k_ ∧ zn (.slice Ao71 y184.length co71) k_ ∧ k_ ≠ gb156 ∧ k_ ≠ gb157 ∧ k_ ≠ gb158 ∧ k_ ≠ gb161)) (okp := (fun k_ => ((P0_5_ k_ ∨ P0_4_ k_ ∨ P2_4_ k_ ∨ P2_5_ k_) ∨ w.heap.size ≤ k_) ∧ zn (.slice Ao20 l0_5.length co20) k_ ∧ zn (.slice Ao69 y173.length co69) k_ ∧ zn (.slice Ao71 y184.length co71) k_ ∧ k_ ≠ gb156 ∧ k_ ≠ gb157 ∧ k_ ≠ gb158 ∧ k_ ≠ gb161)) ?hr ?hp (fun _ hk => hk) ((show ∀ k_, w74.heap.size ≤ k_ → (fun k_ => ((P0_5_ k_ ∨ P0_4_ k_ ∨ P2_4_ k_ ∨ P2_5_ k_) ∨ w.heap.size ≤ k_) ∧ zn (.slice Ao20 l0_5.length co20) k_ ∧ zn (.slice Ao69 y173.length co69) k_ ∧ zn (.slice Ao71 y184.length co71) k_ ∧ k_ ≠ gb156 ∧ k_ ≠ gb157 ∧ k_ ≠ gb158 ∧ k_ ≠ gb161) k_ from fun k_ hk => ⟨(.inr (Nat.le_trans apV hk)), Kd.fresh' (Kd.R_lt (vwR HO_157005.out)) k_ hk, Kd.fresh' (Kd.R_lt (vwR HO175.out)) k_ hk, Kd.fresh' (Kd.R_lt (vwR HO186.out)) k_ hk, Kd.freshB (g := gb156) (o := .cells #[.int .i64 a0_0, .int .i64 a0_1, .int .i64 a0_2, .string a0_3, .slice A0_4 l0_4.length c0_4, .slice Ao20 l0_5.length co20] 33 (0, 0)) apG k_ hk, Kd.freshB (g := gb157) (o := .cells #[.int .i64 a2_0, .int .i64 a2_1, .int .i64 a2_2, .string a2_3, .slice A2_4 l2_4.length c2_4, .slice A2_5 l2_5.length c2_5] 33 (0, 0)) apI k_ hk, Kd.freshB (g := gb158) (o := .cells #[.int .i64 0, .int .i64 0, .int .i64 0, .string (⟨#[]⟩ : ByteArray), .slice none 0 0, .slice none 0 0] 33 (0, 0)) apK k_ hk, Kd.freshB (g := gb161) (o := .cells #[.int .i64 6, .int .i64 0, .int .i64 0, .string (⟨#[]⟩ : ByteArray), .slice none 0 0, .slice Ao71 y184.length co71] 33 (0, 0)) apP k_ hk⟩) _ (yH _)) (yG _ _) (yH _) (by simp) ?_; (case hd => rfl); (case hg => rfl); (case hr => first | (go_simp; done) | (go_simp; rfl)); (case hp => exact (Reps.c6 (show Kd.FK k33 _ _ (⟨a2_0, (⟨a2_1, a2_2⟩ : S30), a2_3, l2_4, l2_5⟩ : S33) [.int .i64 a2_0, .int .i64 a2_1, .int .i64 a2_2, .string a2_3, .slice A2_4 l2_4.length c2_4, .slice A2_5 l2_5.length c2_5] from (k33_mkF _ _ (⟨a2_0, (⟨a2_1, a2_2⟩ : S30), a2_3, l2_4, l2_5⟩ : S33) (Kd.V_reads' (Kd.V_mono (ok' := (fun k_ => ((P0_5_ k_ ∨ P0_4_ k_ ∨ P2_4_ k_ ∨ P2_5_ k_) ∨ w.heap.size ≤ k_) ∧ zn (.slice Ao20 l0_5.length co20) k_ ∧ zn (.slice Ao69 y173.length co69) k_ ∧ zn (.slice Ao71 y184.length co71) k_ ∧ k_ ≠ gb156 ∧ k_ ≠ gb157 ∧ k_ ≠ gb158 ∧ k_ ≠ gb161)) (HO_158004.out) (fun k_ hk => ⟨hk.1, ⟨hk.2.1, ⟨hk.2.2.1, ⟨hk.2.2.2.1, ⟨hk.2.2.2.2.1, ⟨hk.2.2.2.2.2.1, ⟨hk.2.2.2.2.2.2.1, hk.2.2.2.2.2.2.2⟩⟩⟩⟩⟩⟩⟩))).2.1 (Kd.V_F (Kd.V_mono (ok' := (fun k_ => ((P0_5_ k_ ∨ P0_4_ k_ ∨ P2_4_ k_ ∨ P2_5_ k_) ∨ w.heap.size ≤ k_) ∧ zn (.slice Ao20 l0_5.length co20) k_ ∧ zn (.slice Ao69 y173.length co69) k_ ∧ zn (.slice Ao71 y184.length co71) k_ ∧ k_ ≠ gb156 ∧ k_ ≠ gb157 ∧ k_ ≠ gb158 ∧ k_ ≠ gb161)) (HO_158004.out) (fun k_ hk => ⟨hk.1, ⟨hk.2.1, ⟨hk.2.2.1, ⟨hk.2.2.2.1, ⟨hk.2.2.2.2.1, ⟨hk.2.2.2.2.2.1, ⟨hk.2.2.2.2.2.2.1, hk.2.2.2.2.2.2.2⟩⟩⟩⟩⟩⟩⟩))) (Kd.V_reads' (Kd.V_mono (ok' := (fun k_ => ((P0_5_ k_ ∨ P0_4_ k_ ∨ P2_4_ k_ ∨ P2_5_ k_) ∨ w.heap.size ≤ k_) ∧ zn (.slice Ao20 l0_5.length co20) k_ ∧ zn (.slice Ao69 y173.length co69) k_ ∧ zn (.slice Ao71 y184.length co71) k_ ∧ k_ ≠ gb156 ∧ k_ ≠ gb157 ∧ k_ ≠ gb158 ∧ k_ ≠ gb161)) (HO_158005.out) (fun k_ hk => ⟨hk.1, ⟨hk.2.1, ⟨hk.2.2.1, ⟨hk.2.2.2.1, ⟨hk.2.2.2.2.1, ⟨hk.2.2.2.2.2.1, ⟨hk.2.2.2.2.2.2.1, hk.2.2.2.2.2.2.2⟩⟩⟩⟩⟩⟩⟩))).2.1 (Kd.V_F (Kd.V_mono (ok' := (fun k_ => ((P0_5_ k_ ∨ P0_4_ k_ ∨ P2_4_ k_ ∨ P2_5_ k_) ∨ w.heap.size ≤ k_) ∧ zn (.slice Ao20 l0_5.length co20) k_ ∧ zn (.slice Ao69 y173.length co69) k_ ∧ zn (.slice Ao71 y184.length co71) k_ ∧ k_ ≠ gb156 ∧ k_ ≠ gb157 ∧ k_ ≠ gb158 ∧ k_ ≠ gb161)) (HO_158005.out) (fun k_ hk => ⟨hk.1, ⟨hk.2.1, ⟨hk.2.2.1, ⟨hk.2.2.2.1, ⟨hk.2.2.2.2.1, ⟨hk.2.2.2.2.2.1, ⟨hk.2.2.2.2.2.2.1, hk.2.2.2.2.2.2.2⟩⟩⟩⟩⟩⟩⟩))))) (Reps.none _ _)))
               intro v199 w77 ho78 hb hg_ hnew_
               clear hg_ hnew_
               (first | rw [← Ny198.out] at ho78 | (simp only [Int.reduceToNat] at ho78; rw [← Ny198.out] at ho78))
               replace HO_157004 := zA (Kd.V_elder' (vwV HO_157004.out) (Kd.N_base ho78) hb)
               replace HO_157005 := zA (Kd.R_below (vwR HO_157005.out) hb)
               replace HO_158004 := zA (Kd.V_elder' (vwV HO_158004.out) (Kd.N_base ho78) hb)
               replace HO_158005 := zA (Kd.V_elder' (vwV HO_158005.out) (Kd.N_base ho78) hb)
               replace HO169 := zA (Kd.V_elder' (vwV HO169.out) (Kd.N_base ho78) hb)
               replace HO183 := zA (Kd.V_elder' (vwV HO183.out) (Kd.N_base ho78) hb)
               replace HO175 := zA (Kd.R_below (vwR HO175.out) hb)
               replace HO186 := zA (Kd.R_below (vwR HO186.out) hb)
               replace HO194 := zA (Kd.V_elder' (vwV HO194.out) (Kd.N_base ho78) hb)
               replace HO208 := zA (Kd.V_elder' (vwV HO208.out) (Kd.N_base ho78) hb)
               have HO200 := zA (Kd.N_lower ho78 apV)
               replace BK156 := zA (zP (g := gb156) (o := .cells #[.int .i64 a0_0, .int .i64 a0_1, .int .i64 a0_2, .string a0_3, .slice A0_4 l0_4.length c0_4, .slice Ao20 l0_5.length co20] 33 (0, 0)) apG hb)
               replace BK157 := zA (zP (g := gb157) (o := .cells #[.int .i64 a2_0, .int .i64 a2_1, .int .i64 a2_2, .string a2_3, .slice A2_4 l2_4.length c2_4, .slice A2_5 l2_5.length c2_5] 33 (0, 0)) apI hb)
               replace BK158 := zA (zP (g := gb158) (o := .cells #[.int .i64 0, .int .i64 0, .int .i64 0, .string (⟨#[]⟩ : ByteArray), .slice none 0 0, .slice none 0 0] 33 (0, 0)) apK hb)
               replace BK161 := zA (zP (g := gb161) (o := .cells #[.int .i64 6, .int .i64 0, .int .i64 0, .string (⟨#[]⟩ : ByteArray), .slice none 0 0, .slice Ao71 y184.length co71] 33 (0, 0)) apP hb)
               replace HK := zA (Kept.below (S := (fun k_ => P0_5_ k_)) apF hb)
               replace HB := zA (zQ apN hb)
               clear hb ho78
               refine hK.out _ _ ⟨(zJ BK156.out 0).trans rfl, (zJ BK156.out 1).trans rfl, (zJ BK156.out 2).trans rfl, (zJ BK156.out 3).trans rfl, (zJ BK156.out 4).trans rfl, (zJ BK156.out 5).trans rfl, (zJ BK157.out 0).trans rfl, (zJ BK157.out 1).trans rfl, (zJ BK157.out 2).trans rfl, (zJ BK157.out 3).trans rfl, (zJ BK157.out 4).trans rfl, (zJ BK157.out 5).trans rfl⟩ (fun hHeld => ?_)
               clear hK K
               refine norm_ (a' := ?_) ?_ ?_
               rotate_left
               ·show Act.put _ (some 56) _ = _
                simp only [Act.put, zL, zM, zN, i64_w, i32_w]
                rfl
               refine one_ (i := 0) (N := some 49) #[true, true, true, true, true, false, true, true, false, true, true, true, true, false, false, false] rfl rfl (one_of HT_.out (by kernel_rfl)) (by decide) (fun K hK => ?_)
               refine Kd.N_lit_step k33 _ 33 ?hg (N' := 49) ?hd (xs := ([] : List (S33))) (inner := []) (ok := (fun k_ => ((P0_5_ k_ ∨ P0_4_ k_ ∨ P2_4_ k_ ∨ P2_5_ k_) ∨ w.heap.size ≤ k_) ∧ zn (.slice Ao20 l0_5.length co20) k_ ∧ zn (.slice Ao69 y173.length co69) k_ ∧ zn (.slice Ao71 y184.length co71) k_ ∧ some k_ ≠ (v199 : Value).ownBlock ∧ k_ ≠ gb156 ∧ k_ ≠ gb157 ∧ k_ ≠ gb158 ∧ k_ ≠ gb161)) (okp := (fun k_ => ((P0_5_ k_ ∨ P0_4_ k_ ∨ P2_4_ k_ ∨ P2_5_ k_) ∨ w.heap.size ≤ k_) ∧ zn (.slice Ao20 l0_5.length co20) k_ ∧ zn (.slice Ao69 y173.length co69) k_ ∧ zn (.slice Ao71 y184.length co71) k_ ∧ some k_ ≠ (v199 : Value).ownBlock ∧ k_ ≠ gb156 ∧ k_ ≠ gb157 ∧ k_ ≠ gb158 ∧ k_ ≠ gb161)) ?hr ?hp (fun _ hk => hk) ((show ∀ k_, w77.heap.size ≤ k_ → (fun k_ => ((P0_5_ k_ ∨ P0_4_ k_ ∨ P2_4_ k_ ∨ P2_5_ k_) ∨ w.heap.size ≤ k_) ∧ zn (.slice Ao20 l0_5.length co20) k_ ∧ zn (.slice Ao69 y173.length co69) k_ ∧ zn (.slice Ao71 y184.length co71) k_ ∧ some k_ ≠ (v199 : Value).ownBlock ∧ k_ ≠ gb156 ∧ k_ ≠ gb157 ∧ k_ ≠ gb158 ∧ k_ ≠ gb161) k_ from fun k_ hk => ⟨(.inr (Nat.le_trans apV hk)), Kd.fresh' (Kd.R_lt (vwR HO_157005.out)) k_ hk, Kd.fresh' (Kd.R_lt (vwR HO175.out)) k_ hk, Kd.fresh' (Kd.R_lt (vwR HO186.out)) k_ hk, Kd.fresh' (Kd.N_lt (vwN HO200.out)) k_ hk, Kd.freshB (g := gb156) (o := .cells #[.int .i64 a0_0, .int .i64 a0_1, .int .i64 a0_2, .string a0_3, .slice A0_4 l0_4.length c0_4, .slice Ao20 l0_5.length co20] 33 (0, 0)) apG k_ hk, Kd.freshB (g := gb157) (o := .cells #[.int .i64 a2_0, .int .i64 a2_1, .int .i64 a2_2, .string a2_3, .slice A2_4 l2_4.length c2_4, .slice A2_5 l2_5.length c2_5] 33 (0, 0)) apI k_ hk, Kd.freshB (g := gb158) (o := .cells #[.int .i64 0, .int .i64 0, .int .i64 0, .string (⟨#[]⟩ : ByteArray), .slice none 0 0, .slice none 0 0] 33 (0, 0)) apK k_ hk, Kd.freshB (g := gb161) (o := .cells #[.int .i64 6, .int .i64 0, .int .i64 0, .string (⟨#[]⟩ : ByteArray), .slice none 0 0, .slice Ao71 y184.length co71] 33 (0, 0)) apP k_ hk⟩) _ (yH _)) (yG _ _) (yH _) (by simp) ?_; (case hd => rfl); (case hg => rfl); (case hr => first | (go_simp; done) | (go_simp; rfl)); (case hp => exact (Reps.none _ _))
               intro v188 w79 ho80 hb hg_ hnew_
               clear hg_ hnew_
               (first | rw [← Ny187.out] at ho80 | (simp only [Int.reduceToNat] at ho80; rw [← Ny187.out] at ho80))
               replace HO_157004 := zA (Kd.V_elder' (vwV HO_157004.out) (Kd.N_base ho80) hb)
               replace HO_157005 := zA (Kd.R_below (vwR HO_157005.out) hb)
               replace HO_158004 := zA (Kd.V_elder' (vwV HO_158004.out) (Kd.N_base ho80) hb)
               replace HO_158005 := zA (Kd.V_elder' (vwV HO_158005.out) (Kd.N_base ho80) hb)
               replace HO169 := zA (Kd.V_elder' (vwV HO169.out) (Kd.N_base ho80) hb)
               replace HO183 := zA (Kd.V_elder' (vwV HO183.out) (Kd.N_base ho80) hb)
               replace HO175 := zA (Kd.R_below (vwR HO175.out) hb)
               replace HO186 := zA (Kd.R_below (vwR HO186.out) hb)
               replace HO194 := zA (Kd.V_elder' (vwV HO194.out) (Kd.N_base ho80) hb)
               replace HO208 := zA (Kd.V_elder' (vwV HO208.out) (Kd.N_base ho80) hb)
               replace HO200 := zA (Kd.N_elder' (vwN HO200.out) (Kd.N_base ho80) hb)
               have HO189 := zA (Kd.N_lower ho80 apV)
               replace BK156 := zA (zP (g := gb156) (o := .cells #[.int .i64 a0_0, .int .i64 a0_1, .int .i64 a0_2, .string a0_3, .slice A0_4 l0_4.length c0_4, .slice Ao20 l0_5.length co20] 33 (0, 0)) apG hb)
               replace BK157 := zA (zP (g := gb157) (o := .cells #[.int .i64 a2_0, .int .i64 a2_1, .int .i64 a2_2, .string a2_3, .slice A2_4 l2_4.length c2_4, .slice A2_5 l2_5.length c2_5] 33 (0, 0)) apI hb)
               replace BK158 := zA (zP (g := gb158) (o := .cells #[.int .i64 0, .int .i64 0, .int .i64 0, .string (⟨#[]⟩ : ByteArray), .slice none 0 0, .slice none 0 0] 33 (0, 0)) apK hb)
               replace BK161 := zA (zP (g := gb161) (o := .cells #[.int .i64 6, .int .i64 0, .int .i64 0, .string (⟨#[]⟩ : ByteArray), .slice none 0 0, .slice Ao71 y184.length co71] 33 (0, 0)) apP hb)
               replace HK := zA (Kept.below (S := (fun k_ => P0_5_ k_)) apF hb)
               replace HB := zA (zQ apN hb)
               clear hb ho80
               refine hK.out _ _ ⟨(zJ BK156.out 0).trans rfl, (zJ BK156.out 1).trans rfl, (zJ BK156.out 2).trans rfl, (zJ BK156.out 3).trans rfl, (zJ BK156.out 4).trans rfl, (zJ BK156.out 5).trans rfl, (zJ BK157.out 0).trans rfl, (zJ BK157.out 1).trans rfl, (zJ BK157.out 2).trans rfl, (zJ BK157.out 3).trans rfl, (zJ BK157.out 4).trans rfl, (zJ BK157.out 5).trans rfl⟩ (fun hHeld => ?_)
               clear hK K
               refine norm_ (a' := ?_) ?_ ?_
               rotate_left
               ·show Act.put _ (some 49) _ = _
                simp only [Act.put, zL, zM, zN, i64_w, i32_w]
                rfl
               refine one_ (i := 5) (N := some 54) #[true, true, true, true, true, true, true, true, false, true, true, true, true, false, false, false] rfl rfl (one_of HT_.out (by kernel_rfl)) (by decide) (fun K hK => ?_)
               refine Kd.N_append_rows_step k33 w.heap.size rfl (.tmp 49) (.tmp 53) 31 33 (.agg #[(.int .i64 0), (.int .i64 0), (.int .i64 0), (.string ⟨#[]⟩), (.slice none 0 0), (.slice none 0 0)]) 88 rfl Tryd.underlying31 info33 rfl (by decide) (by omega) v188 y187 y190 _ _ _ (fun k_ => ((P0_5_ k_ ∨ P0_4_ k_ ∨ P2_4_ k_ ∨ P2_5_ k_) ∨ w.heap.size ≤ k_) ∧ zn (.slice Ao20 l0_5.length co20) k_ ∧ zn (.slice Ao69 y173.length co69) k_ ∧ zn (.slice Ao71 y184.length co71) k_ ∧ some k_ ≠ (v199 : Value).ownBlock ∧ k_ ≠ gb156 ∧ k_ ≠ gb157 ∧ k_ ≠ gb158 ∧ k_ ≠ gb161) (fun k_ => ((fun k_ => ((P0_5_ k_ ∨ P0_4_ k_ ∨ P2_4_ k_ ∨ P2_5_ k_) ∨ w.heap.size ≤ k_) ∧ zn (.slice Ao20 l0_5.length co20) k_ ∧ zn (.slice Ao69 y173.length co69) k_ ∧ zn (.slice Ao71 y184.length co71) k_ ∧ some k_ ≠ (v199 : Value).ownBlock ∧ k_ ≠ gb156 ∧ k_ ≠ gb157 ∧ k_ ≠ gb158 ∧ k_ ≠ gb161)) k_ ∧ some k_ ≠ (v188 : Value).ownBlock) rfl rfl ?aO ?aR (fun _ hk => hk) ?aF (yG _ _) ?aS ?aL ?_
               (case aR => exact (by skip; exact Kd.V_F (Kd.V_mono (ok' := (fun k_ => ((fun k_ => ((P0_5_ k_ ∨ P0_4_ k_ ∨ P2_4_ k_ ∨ P2_5_ k_) ∨ w.heap.size ≤ k_) ∧ zn (.slice Ao20 l0_5.length co20) k_ ∧ zn (.slice Ao69 y173.length co69) k_ ∧ zn (.slice Ao71 y184.length co71) k_ ∧ some k_ ≠ (v199 : Value).ownBlock ∧ k_ ≠ gb156 ∧ k_ ≠ gb157 ∧ k_ ≠ gb158 ∧ k_ ≠ gb161)) k_ ∧ some k_ ≠ (v188 : Value).ownBlock)) (HO194.out) (fun k_ hk => ⟨⟨hk.1.1.1, ⟨hk.1.1.2.1, ⟨hk.1.1.2.2.1, ⟨hk.1.1.2.2.2.1, ⟨hk.1.2, ⟨hk.1.1.2.2.2.2.1, ⟨hk.1.1.2.2.2.2.2.1, ⟨hk.1.1.2.2.2.2.2.2.1, hk.1.1.2.2.2.2.2.2.2⟩⟩⟩⟩⟩⟩⟩⟩, hk.2⟩))))
               (case aF => exact (fun k_ hk => ⟨(.inr (Nat.le_trans apV hk)), Kd.fresh' (Kd.R_lt (vwR HO_157005.out)) k_ hk, Kd.fresh' (Kd.R_lt (vwR HO175.out)) k_ hk, Kd.fresh' (Kd.R_lt (vwR HO186.out)) k_ hk, Kd.fresh' (Kd.N_lt (vwN HO200.out)) k_ hk, Kd.freshB (g := gb156) (o := .cells #[.int .i64 a0_0, .int .i64 a0_1, .int .i64 a0_2, .string a0_3, .slice A0_4 l0_4.length c0_4, .slice Ao20 l0_5.length co20] 33 (0, 0)) apG k_ hk, Kd.freshB (g := gb157) (o := .cells #[.int .i64 a2_0, .int .i64 a2_1, .int .i64 a2_2, .string a2_3, .slice A2_4 l2_4.length c2_4, .slice A2_5 l2_5.length c2_5] 33 (0, 0)) apI k_ hk, Kd.freshB (g := gb158) (o := .cells #[.int .i64 0, .int .i64 0, .int .i64 0, .string (⟨#[]⟩ : ByteArray), .slice none 0 0, .slice none 0 0] 33 (0, 0)) apK k_ hk, Kd.freshB (g := gb161) (o := .cells #[.int .i64 6, .int .i64 0, .int .i64 0, .string (⟨#[]⟩ : ByteArray), .slice none 0 0, .slice Ao71 y184.length co71] 33 (0, 0)) apP k_ hk⟩))
               (case aO => exact (vwN HO189.out))
               (case aS => exact apV)
               (case aL => have := LMc48.out; (first | omega | (simp only [ByteArray.size, List.size_toArray, List.length_cons, List.length_nil] at *; omega)))
               intro v196 w81 ho hb hg hat
               rw [← Ny195.out] at ho
               replace HO_157004 := zA (Kd.V_afterv (ok := (fun k_ => ((P0_5_ k_ ∨ P0_4_ k_ ∨ P2_4_ k_ ∨ P2_5_ k_) ∨ w.heap.size ≤ k_) ∧ zn (.slice Ao20 l0_5.length co20) k_ ∧ zn (.slice Ao69 y173.length co69) k_ ∧ zn (.slice Ao71 y184.length co71) k_ ∧ some k_ ≠ (v199 : Value).ownBlock ∧ k_ ≠ gb156 ∧ k_ ≠ gb157 ∧ k_ ≠ gb158 ∧ k_ ≠ gb161)) (by (with_reducible repeat (first | apply Kd.V_alloc | apply Kd.V_drewN | apply Kd.V_drew)); exact Kd.V_mono HO_157004.out (fun _ hk => ⟨⟨hk.1.1.1, ⟨hk.1.1.2.1, ⟨hk.1.1.2.2.1, ⟨hk.1.1.2.2.2.1, ⟨hk.1.2, ⟨hk.1.1.2.2.2.2.1, ⟨hk.1.1.2.2.2.2.2.1, ⟨hk.1.1.2.2.2.2.2.2.1, hk.1.1.2.2.2.2.2.2.2⟩⟩⟩⟩⟩⟩⟩⟩, hk.2⟩)) hg hat)
               replace HO_157005 := zA (Kd.R_over' (vwR HO_157005.out) (Kd.N_typed (vwN HO189.out)) (by decide) hg)
               replace HO_158004 := zA (Kd.V_afterv (ok := (fun k_ => ((P0_5_ k_ ∨ P0_4_ k_ ∨ P2_4_ k_ ∨ P2_5_ k_) ∨ w.heap.size ≤ k_) ∧ zn (.slice Ao20 l0_5.length co20) k_ ∧ zn (.slice Ao69 y173.length co69) k_ ∧ zn (.slice Ao71 y184.length co71) k_ ∧ some k_ ≠ (v199 : Value).ownBlock ∧ k_ ≠ gb156 ∧ k_ ≠ gb157 ∧ k_ ≠ gb158 ∧ k_ ≠ gb161)) (by (with_reducible repeat (first | apply Kd.V_alloc | apply Kd.V_drewN | apply Kd.V_drew)); exact Kd.V_mono HO_158004.out (fun _ hk => ⟨⟨hk.1.1.1, ⟨hk.1.1.2.1, ⟨hk.1.1.2.2.1, ⟨hk.1.1.2.2.2.1, ⟨hk.1.2, ⟨hk.1.1.2.2.2.2.1, ⟨hk.1.1.2.2.2.2.2.1, ⟨hk.1.1.2.2.2.2.2.2.1, hk.1.1.2.2.2.2.2.2.2⟩⟩⟩⟩⟩⟩⟩⟩, hk.2⟩)) hg hat)
               replace HO_158005 := zA (Kd.V_afterv (ok := (fun k_ => ((P0_5_ k_ ∨ P0_4_ k_ ∨ P2_4_ k_ ∨ P2_5_ k_) ∨ w.heap.size ≤ k_) ∧ zn (.slice Ao20 l0_5.length co20) k_ ∧ zn (.slice Ao69 y173.length co69) k_ ∧ zn (.slice Ao71 y184.length co71) k_ ∧ some k_ ≠ (v199 : Value).ownBlock ∧ k_ ≠ gb156 ∧ k_ ≠ gb157 ∧ k_ ≠ gb158 ∧ k_ ≠ gb161)) (by (with_reducible repeat (first | apply Kd.V_alloc | apply Kd.V_drewN | apply Kd.V_drew)); exact Kd.V_mono HO_158005.out (fun _ hk => ⟨⟨hk.1.1.1, ⟨hk.1.1.2.1, ⟨hk.1.1.2.2.1, ⟨hk.1.1.2.2.2.1, ⟨hk.1.2, ⟨hk.1.1.2.2.2.2.1, ⟨hk.1.1.2.2.2.2.2.1, ⟨hk.1.1.2.2.2.2.2.2.1, hk.1.1.2.2.2.2.2.2.2⟩⟩⟩⟩⟩⟩⟩⟩, hk.2⟩)) hg hat)
               replace BK156 := zA (blk_grown (g := gb156) (o := .cells #[.int .i64 a0_0, .int .i64 a0_1, .int .i64 a0_2, .string a0_3, .slice A0_4 l0_4.length c0_4, .slice Ao20 l0_5.length co20] 33 (0, 0)) apG hg (Kd.N_away HO189.out (fun _ hk => hk.2.2.2.2.2.1)))
               replace BK157 := zA (blk_grown (g := gb157) (o := .cells #[.int .i64 a2_0, .int .i64 a2_1, .int .i64 a2_2, .string a2_3, .slice A2_4 l2_4.length c2_4, .slice A2_5 l2_5.length c2_5] 33 (0, 0)) apI hg (Kd.N_away HO189.out (fun _ hk => hk.2.2.2.2.2.2.1)))
               replace BK158 := zA (blk_grown (g := gb158) (o := .cells #[.int .i64 0, .int .i64 0, .int .i64 0, .string (⟨#[]⟩ : ByteArray), .slice none 0 0, .slice none 0 0] 33 (0, 0)) apK hg (Kd.N_away HO189.out (fun _ hk => hk.2.2.2.2.2.2.2.1)))
               replace BK161 := zA (blk_grown (g := gb161) (o := .cells #[.int .i64 6, .int .i64 0, .int .i64 0, .string (⟨#[]⟩ : ByteArray), .slice none 0 0, .slice Ao71 y184.length co71] 33 (0, 0)) apP hg (Kd.N_away HO189.out (fun _ hk => hk.2.2.2.2.2.2.2.2)))
               replace HO169 := zA (Kd.V_afterv (ok := (fun k_ => ((P0_5_ k_ ∨ P0_4_ k_ ∨ P2_4_ k_ ∨ P2_5_ k_) ∨ w.heap.size ≤ k_) ∧ zn (.slice Ao69 y173.length co69) k_ ∧ zn (.slice Ao71 y184.length co71) k_ ∧ some k_ ≠ (v199 : Value).ownBlock ∧ k_ ≠ gb156 ∧ k_ ≠ gb157 ∧ k_ ≠ gb158 ∧ k_ ≠ gb161)) (by (with_reducible repeat (first | apply Kd.V_alloc | apply Kd.V_drewN | apply Kd.V_drew)); exact Kd.V_mono HO169.out (fun _ hk => ⟨⟨hk.1.1.1, ⟨hk.1.1.2.1, ⟨hk.1.1.2.2.1, ⟨hk.1.2, ⟨hk.1.1.2.2.2.1, ⟨hk.1.1.2.2.2.2.1, ⟨hk.1.1.2.2.2.2.2.1, hk.1.1.2.2.2.2.2.2⟩⟩⟩⟩⟩⟩⟩, hk.2⟩)) hg hat)
               replace HO183 := zA (Kd.V_afterv (ok := (fun k_ => ((P0_5_ k_ ∨ P0_4_ k_ ∨ P2_4_ k_ ∨ P2_5_ k_) ∨ w.heap.size ≤ k_) ∧ zn (.slice Ao69 y173.length co69) k_ ∧ zn (.slice Ao71 y184.length co71) k_ ∧ some k_ ≠ (v199 : Value).ownBlock ∧ k_ ≠ gb156 ∧ k_ ≠ gb157 ∧ k_ ≠ gb158 ∧ k_ ≠ gb161)) (by (with_reducible repeat (first | apply Kd.V_alloc | apply Kd.V_drewN | apply Kd.V_drew)); exact Kd.V_mono HO183.out (fun _ hk => ⟨⟨hk.1.1.1, ⟨hk.1.1.2.1, ⟨hk.1.1.2.2.1, ⟨hk.1.2, ⟨hk.1.1.2.2.2.1, ⟨hk.1.1.2.2.2.2.1, ⟨hk.1.1.2.2.2.2.2.1, hk.1.1.2.2.2.2.2.2⟩⟩⟩⟩⟩⟩⟩, hk.2⟩)) hg hat)
               replace HO175 := zA (Kd.R_over' (vwR HO175.out) (Kd.N_typed (vwN HO189.out)) (by decide) hg)
               replace HO186 := zA (Kd.R_over' (vwR HO186.out) (Kd.N_typed (vwN HO189.out)) (by decide) hg)
               replace HO194 := zA (Kd.V_afterv (ok := (fun k_ => ((P0_5_ k_ ∨ P0_4_ k_ ∨ P2_4_ k_ ∨ P2_5_ k_) ∨ w.heap.size ≤ k_) ∧ zn (.slice Ao20 l0_5.length co20) k_ ∧ zn (.slice Ao69 y173.length co69) k_ ∧ zn (.slice Ao71 y184.length co71) k_ ∧ some k_ ≠ (v199 : Value).ownBlock ∧ k_ ≠ gb156 ∧ k_ ≠ gb157 ∧ k_ ≠ gb158 ∧ k_ ≠ gb161)) (by (with_reducible repeat (first | apply Kd.V_alloc | apply Kd.V_drewN | apply Kd.V_drew)); exact Kd.V_mono HO194.out (fun _ hk => ⟨⟨hk.1.1.1, ⟨hk.1.1.2.1, ⟨hk.1.1.2.2.1, ⟨hk.1.1.2.2.2.1, ⟨hk.1.2, ⟨hk.1.1.2.2.2.2.1, ⟨hk.1.1.2.2.2.2.2.1, ⟨hk.1.1.2.2.2.2.2.2.1, hk.1.1.2.2.2.2.2.2.2⟩⟩⟩⟩⟩⟩⟩⟩, hk.2⟩)) hg hat)
               replace HO208 := zA (Kd.V_afterv (ok := (fun k_ => ((P0_5_ k_ ∨ P0_4_ k_ ∨ P2_4_ k_ ∨ P2_5_ k_) ∨ w.heap.size ≤ k_) ∧ zn (.slice Ao20 l0_5.length co20) k_ ∧ zn (.slice Ao69 y173.length co69) k_ ∧ zn (.slice Ao71 y184.length co71) k_ ∧ some k_ ≠ (v199 : Value).ownBlock ∧ k_ ≠ gb156 ∧ k_ ≠ gb157 ∧ k_ ≠ gb158 ∧ k_ ≠ gb161)) (by (with_reducible repeat (first | apply Kd.V_alloc | apply Kd.V_drewN | apply Kd.V_drew)); exact Kd.V_mono HO208.out (fun _ hk => ⟨⟨hk.1.1.1, ⟨hk.1.1.2.1, ⟨hk.1.1.2.2.1, ⟨hk.1.1.2.2.2.1, ⟨hk.1.2, ⟨hk.1.1.2.2.2.2.1, ⟨hk.1.1.2.2.2.2.2.1, ⟨hk.1.1.2.2.2.2.2.2.1, hk.1.1.2.2.2.2.2.2.2⟩⟩⟩⟩⟩⟩⟩⟩, hk.2⟩)) hg hat)
               replace HO200 := zA (Kd.N_afterv (ok := (fun k_ => ((P0_5_ k_ ∨ P0_4_ k_ ∨ P2_4_ k_ ∨ P2_5_ k_) ∨ w.heap.size ≤ k_) ∧ zn (.slice Ao20 l0_5.length co20) k_ ∧ zn (.slice Ao69 y173.length co69) k_ ∧ zn (.slice Ao71 y184.length co71) k_ ∧ k_ ≠ gb156 ∧ k_ ≠ gb157 ∧ k_ ≠ gb158 ∧ k_ ≠ gb161)) (vwN HO200.out) hg hat)
               replace HB := zA (below_weaken apN HW0.out hb)
               replace HK := zA (Kept.of_grown (S := (fun k_ => P0_5_ k_)) hg apF (fun k_ e_ => .inr (Kd.N_base HO189.out k_ e_)))
               have HO197 := zA (ho)
               clear HO189
               clear ho hb hg hat
               refine hK.out _ _ ⟨(zJ BK156.out 0).trans rfl, (zJ BK156.out 1).trans rfl, (zJ BK156.out 2).trans rfl, (zJ BK156.out 3).trans rfl, (zJ BK156.out 4).trans rfl, (zJ BK156.out 5).trans rfl, (zJ BK157.out 0).trans rfl, (zJ BK157.out 1).trans rfl, (zJ BK157.out 2).trans rfl, (zJ BK157.out 3).trans rfl, (zJ BK157.out 4).trans rfl, (zJ BK157.out 5).trans rfl⟩ (fun hHeld => ?_)
               clear hK K
               refine norm_ (a' := ?_) ?_ ?_
               rotate_left
               ·show Act.put _ (some 54) _ = _
                simp only [Act.put, zL, zM, zN, i64_w, i32_w]
                rfl
               exact norm_ (by simp only [putAll, Act.put, zL, zM, zN]) (hCont (v188, v196, v199) _ ⟨hHeld, (by (with_reducible repeat (first | apply Kd.V_alloc | apply Kd.V_drewN | apply Kd.V_drew)); exact Kd.V_mono HO169.out (fun _ hk => ⟨hk.1.1, ⟨hk.1.2.1, ⟨hk.1.2.2.1, ⟨hk.2, ⟨hk.1.2.2.2.1, ⟨hk.1.2.2.2.2.1, ⟨hk.1.2.2.2.2.2.1, ⟨hk.1.2.2.2.2.2.2.1, hk.1.2.2.2.2.2.2.2⟩⟩⟩⟩⟩⟩⟩⟩)), (by (with_reducible repeat (first | apply Kd.R_alloc | apply Kd.R_drewN | apply Kd.R_drew)); exact Kd.R_mono HO175.out (fun _ hk => ⟨hk.1, ⟨hk.2.2, hk.2.1⟩⟩)), (by (with_reducible repeat (first | apply Kd.V_alloc | apply Kd.V_drewN | apply Kd.V_drew)); exact Kd.V_mono HO183.out (fun _ hk => ⟨hk.1.1, ⟨hk.1.2.1, ⟨hk.1.2.2.1, ⟨hk.2, ⟨hk.1.2.2.2.1, ⟨hk.1.2.2.2.2.1, ⟨hk.1.2.2.2.2.2.1, ⟨hk.1.2.2.2.2.2.2.1, hk.1.2.2.2.2.2.2.2⟩⟩⟩⟩⟩⟩⟩⟩)), (by (with_reducible repeat (first | apply Kd.R_alloc | apply Kd.R_drewN | apply Kd.R_drew)); exact Kd.R_mono HO186.out (fun _ hk => ⟨hk.1, ⟨hk.2.2, hk.2.1⟩⟩)), (by (with_reducible repeat (first | apply Kd.V_alloc | apply Kd.V_drewN | apply Kd.V_drew)); exact Kd.V_mono HO194.out (fun _ hk => ⟨hk.1.1, ⟨hk.1.2.2.1, ⟨hk.1.2.2.2.1, ⟨hk.2, ⟨hk.1.2.2.2.2.1, ⟨hk.1.2.1, ⟨hk.1.2.2.2.2.2.1, ⟨hk.1.2.2.2.2.2.2.1, ⟨hk.1.2.2.2.2.2.2.2.1, hk.1.2.2.2.2.2.2.2.2⟩⟩⟩⟩⟩⟩⟩⟩⟩)), (by (with_reducible repeat (first | apply Kd.N_alloc | apply Kd.N_drewN | apply Kd.N_drew)); exact Kd.N_mono HO197.out (fun _ hk => ⟨hk.1, ⟨hk.2.2.1, ⟨hk.2.2.2.1, ⟨hk.2.2.2.2.1, ⟨hk.2.1, ⟨hk.2.2.2.2.2.1, ⟨hk.2.2.2.2.2.2.1, ⟨hk.2.2.2.2.2.2.2.1, hk.2.2.2.2.2.2.2.2⟩⟩⟩⟩⟩⟩⟩⟩)), (by (with_reducible repeat (first | apply Kd.N_alloc | apply Kd.N_drewN | apply Kd.N_drew)); exact Kd.N_mono HO200.out (fun _ hk => ⟨hk.1.1, ⟨hk.1.2.2.1, ⟨hk.1.2.2.2.1, ⟨hk.2, ⟨hk.1.2.1, ⟨hk.1.2.2.2.2.1, ⟨hk.1.2.2.2.2.2.1, ⟨hk.1.2.2.2.2.2.2.1, hk.1.2.2.2.2.2.2.2⟩⟩⟩⟩⟩⟩⟩⟩)), (by (with_reducible repeat (first | apply Kd.V_alloc | apply Kd.V_drewN | apply Kd.V_drew)); exact Kd.V_mono HO208.out (fun _ hk => ⟨hk.1.1, ⟨hk.1.2.2.1, ⟨hk.1.2.2.2.1, ⟨hk.2, ⟨hk.1.2.2.2.2.1, ⟨hk.1.2.1, ⟨hk.1.2.2.2.2.2.1, ⟨hk.1.2.2.2.2.2.2.1, ⟨hk.1.2.2.2.2.2.2.2.1, hk.1.2.2.2.2.2.2.2.2⟩⟩⟩⟩⟩⟩⟩⟩⟩)), (by (with_reducible repeat (first | apply Kd.V_alloc | apply Kd.V_drewN | apply Kd.V_drew)); exact Kd.V_mono HO_157004.out (fun _ hk => ⟨hk.1.1, ⟨hk.1.2.2.1, ⟨hk.1.2.2.2.1, ⟨hk.2, ⟨hk.1.2.2.2.2.1, ⟨hk.1.2.1, ⟨hk.1.2.2.2.2.2.1, ⟨hk.1.2.2.2.2.2.2.1, ⟨hk.1.2.2.2.2.2.2.2.1, hk.1.2.2.2.2.2.2.2.2⟩⟩⟩⟩⟩⟩⟩⟩⟩)), (vwR HO_157005.out), (by (with_reducible repeat (first | apply Kd.V_alloc | apply Kd.V_drewN | apply Kd.V_drew)); exact Kd.V_mono HO_158004.out (fun _ hk => ⟨hk.1.1, ⟨hk.1.2.2.1, ⟨hk.1.2.2.2.1, ⟨hk.2, ⟨hk.1.2.2.2.2.1, ⟨hk.1.2.1, ⟨hk.1.2.2.2.2.2.1, ⟨hk.1.2.2.2.2.2.2.1, ⟨hk.1.2.2.2.2.2.2.2.1, hk.1.2.2.2.2.2.2.2.2⟩⟩⟩⟩⟩⟩⟩⟩⟩)), (by (with_reducible repeat (first | apply Kd.V_alloc | apply Kd.V_drewN | apply Kd.V_drew)); exact Kd.V_mono HO_158005.out (fun _ hk => ⟨hk.1.1, ⟨hk.1.2.2.1, ⟨hk.1.2.2.2.1, ⟨hk.2, ⟨hk.1.2.2.2.2.1, ⟨hk.1.2.1, ⟨hk.1.2.2.2.2.2.1, ⟨hk.1.2.2.2.2.2.2.1, ⟨hk.1.2.2.2.2.2.2.2.1, hk.1.2.2.2.2.2.2.2.2⟩⟩⟩⟩⟩⟩⟩⟩⟩)), apG, apI, apK, apP, apF, apN⟩)
             rintro ⟨v188, v196, v199⟩ w82 ⟨hS_, h0_, h1_, h2_, h3_, h4_, h5_, h6_, h7_, h8_, h9_, h10_, h11_, h12_, h13_, h14_, h15_, h16_, h17_⟩
             have n0_ : Aside0 (Kd.V Kd.string 9 w82 w0.heap.size (fun k_ => ((P0_5_ k_ ∨ P0_4_ k_ ∨ P2_4_ k_ ∨ P2_5_ k_) ∨ w.heap.size ≤ k_) ∧ zn (.slice Ao69 y173.length co69) k_ ∧ zn (.slice Ao71 y184.length co71) k_ ∧ some k_ ≠ (v196 : Value).ownBlock ∧ some k_ ≠ (v199 : Value).ownBlock ∧ k_ ≠ gb156 ∧ k_ ≠ gb157 ∧ k_ ≠ gb158 ∧ k_ ≠ gb161) (.slice Ao20 y165.length co20) y165) := ⟨h0_⟩
             have n1_ : Aside0 (Kd.R Kd.string 9 w82 w0.heap.size (fun k_ => (P0_5_ k_ ∨ w.heap.size ≤ k_) ∧ zn (.slice Ao71 y184.length co71) k_ ∧ zn (.slice Ao20 l0_5.length co20) k_) (.slice Ao69 y173.length co69) y173) := ⟨h1_⟩
             have n2_ : Aside0 (Kd.V Kd.string 9 w82 w0.heap.size (fun k_ => ((P0_5_ k_ ∨ P0_4_ k_ ∨ P2_4_ k_ ∨ P2_5_ k_) ∨ w.heap.size ≤ k_) ∧ zn (.slice Ao69 y173.length co69) k_ ∧ zn (.slice Ao71 y184.length co71) k_ ∧ some k_ ≠ (v196 : Value).ownBlock ∧ some k_ ≠ (v199 : Value).ownBlock ∧ k_ ≠ gb156 ∧ k_ ≠ gb157 ∧ k_ ≠ gb158 ∧ k_ ≠ gb161) (.slice A61 y179.length c61) y179) := ⟨h2_⟩
             have n3_ : Aside0 (Kd.R Kd.string 9 w82 w0.heap.size (fun k_ => (P0_5_ k_ ∨ w.heap.size ≤ k_) ∧ zn (.slice Ao69 y173.length co69) k_ ∧ zn (.slice Ao20 l0_5.length co20) k_) (.slice Ao71 y184.length co71) y184) := ⟨h3_⟩
             have n4_ : Aside0 (Kd.V k33 33 w82 w0.heap.size (fun k_ => ((P0_5_ k_ ∨ P0_4_ k_ ∨ P2_4_ k_ ∨ P2_5_ k_) ∨ w.heap.size ≤ k_) ∧ zn (.slice Ao69 y173.length co69) k_ ∧ zn (.slice Ao71 y184.length co71) k_ ∧ some k_ ≠ (v196 : Value).ownBlock ∧ some k_ ≠ (v199 : Value).ownBlock ∧ zn (.slice Ao20 l0_5.length co20) k_ ∧ k_ ≠ gb156 ∧ k_ ≠ gb157 ∧ k_ ≠ gb158 ∧ k_ ≠ gb161) (.slice A0_4 y190.length c0_4) y190) := ⟨h4_⟩
             have n5_ : Aside0 (Kd.N k33 33 w82 w.heap.size (fun k_ => ((P0_5_ k_ ∨ P0_4_ k_ ∨ P2_4_ k_ ∨ P2_5_ k_) ∨ w.heap.size ≤ k_) ∧ zn (.slice Ao69 y173.length co69) k_ ∧ zn (.slice Ao71 y184.length co71) k_ ∧ some k_ ≠ (v199 : Value).ownBlock ∧ zn (.slice Ao20 l0_5.length co20) k_ ∧ k_ ≠ gb156 ∧ k_ ≠ gb157 ∧ k_ ≠ gb158 ∧ k_ ≠ gb161) v196 y195) := ⟨h5_⟩
             have n6_ : Aside0 (Kd.N k33 33 w82 w.heap.size (fun k_ => ((P0_5_ k_ ∨ P0_4_ k_ ∨ P2_4_ k_ ∨ P2_5_ k_) ∨ w.heap.size ≤ k_) ∧ zn (.slice Ao69 y173.length co69) k_ ∧ zn (.slice Ao71 y184.length co71) k_ ∧ some k_ ≠ (v196 : Value).ownBlock ∧ zn (.slice Ao20 l0_5.length co20) k_ ∧ k_ ≠ gb156 ∧ k_ ≠ gb157 ∧ k_ ≠ gb158 ∧ k_ ≠ gb161) v199 y198) := ⟨h6_⟩
             have n7_ : Aside0 (Kd.V k33 33 w82 w0.heap.size (fun k_ => ((P0_5_ k_ ∨ P0_4_ k_ ∨ P2_4_ k_ ∨ P2_5_ k_) ∨ w.heap.size ≤ k_) ∧ zn (.slice Ao69 y173.length co69) k_ ∧ zn (.slice Ao71 y184.length co71) k_ ∧ some k_ ≠ (v196 : Value).ownBlock ∧ some k_ ≠ (v199 : Value).ownBlock ∧ zn (.slice Ao20 l0_5.length co20) k_ ∧ k_ ≠ gb156 ∧ k_ ≠ gb157 ∧ k_ ≠ gb158 ∧ k_ ≠ gb161) (.slice A76 y204.length c76) y204) := ⟨h7_⟩
             have n8_ : Aside0 (Kd.V k33 33 w82 w0.heap.size (fun k_ => ((P0_5_ k_ ∨ P0_4_ k_ ∨ P2_4_ k_ ∨ P2_5_ k_) ∨ w.heap.size ≤ k_) ∧ zn (.slice Ao69 y173.length co69) k_ ∧ zn (.slice Ao71 y184.length co71) k_ ∧ some k_ ≠ (v196 : Value).ownBlock ∧ some k_ ≠ (v199 : Value).ownBlock ∧ zn (.slice Ao20 l0_5.length co20) k_ ∧ k_ ≠ gb156 ∧ k_ ≠ gb157 ∧ k_ ≠ gb158 ∧ k_ ≠ gb161) (.slice A0_4 l0_4.length c0_4) l0_4) := ⟨h8_⟩
             have n9_ : Aside0 (Kd.R Kd.string 9 w82 w0.heap.size (fun k_ => (P0_5_ k_ ∨ w.heap.size ≤ k_) ∧ zn (.slice Ao69 y173.length co69) k_ ∧ zn (.slice Ao71 y184.length co71) k_) (.slice Ao20 l0_5.length co20) l0_5) := ⟨h9_⟩
             have n10_ : Aside0 (Kd.V k33 33 w82 w0.heap.size (fun k_ => ((P0_5_ k_ ∨ P0_4_ k_ ∨ P2_4_ k_ ∨ P2_5_ k_) ∨ w.heap.size ≤ k_) ∧ zn (.slice Ao69 y173.length co69) k_ ∧ zn (.slice Ao71 y184.length co71) k_ ∧ some k_ ≠ (v196 : Value).ownBlock ∧ some k_ ≠ (v199 : Value).ownBlock ∧ zn (.slice Ao20 l0_5.length co20) k_ ∧ k_ ≠ gb156 ∧ k_ ≠ gb157 ∧ k_ ≠ gb158 ∧ k_ ≠ gb161) (.slice A2_4 l2_4.length c2_4) l2_4) := ⟨h10_⟩
             have n11_ : Aside0 (Kd.V Kd.string 9 w82 w0.heap.size (fun k_ => ((P0_5_ k_ ∨ P0_4_ k_ ∨ P2_4_ k_ ∨ P2_5_ k_) ∨ w.heap.size ≤ k_) ∧ zn (.slice Ao69 y173.length co69) k_ ∧ zn (.slice Ao71 y184.length co71) k_ ∧ some k_ ≠ (v196 : Value).ownBlock ∧ some k_ ≠ (v199 : Value).ownBlock ∧ zn (.slice Ao20 l0_5.length co20) k_ ∧ k_ ≠ gb156 ∧ k_ ≠ gb157 ∧ k_ ≠ gb158 ∧ k_ ≠ gb161) (.slice A2_5 l2_5.length c2_5) l2_5) := ⟨h11_⟩
             have n12_ : Aside0 (w82.heap[gb156]? = some (.cells #[.int .i64 a0_0, .int .i64 a0_1, .int .i64 a0_2, .string a0_3, .slice A0_4 l0_4.length c0_4, .slice Ao20 l0_5.length co20] 33 (0, 0))) := ⟨h12_⟩
             have n13_ : Aside0 (w82.heap[gb157]? = some (.cells #[.int .i64 a2_0, .int .i64 a2_1, .int .i64 a2_2, .string a2_3, .slice A2_4 l2_4.length c2_4, .slice A2_5 l2_5.length c2_5] 33 (0, 0))) := ⟨h13_⟩
             have n14_ : Aside0 (w82.heap[gb158]? = some (.cells #[.int .i64 0, .int .i64 0, .int .i64 0, .string (⟨#[]⟩ : ByteArray), .slice none 0 0, .slice none 0 0] 33 (0, 0))) := ⟨h14_⟩
             have n15_ : Aside0 (w82.heap[gb161]? = some (.cells #[.int .i64 6, .int .i64 0, .int .i64 0, .string (⟨#[]⟩ : ByteArray), .slice none 0 0, .slice Ao71 y184.length co71] 33 (0, 0))) := ⟨h15_⟩
             have n16_ : Aside0 (Kept w w82 (fun k_ => P0_5_ k_)) := ⟨h16_⟩
             have n17_ : Aside0 (Below w0.heap.size w0 w82) := ⟨h17_⟩
             clear HO_157004
             clear HO_157005
             clear HO_158004
             clear HO_158005
             clear HO169
             clear HO183
             clear HO175
             clear HO186
             clear BK156
             clear BK157
             clear BK158
             clear BK161
             clear HK
             clear HB
             clear h0_ h1_ h2_ h3_ h4_ h5_ h6_ h7_ h8_ h9_ h10_ h11_ h12_ h13_ h14_ h15_ h16_ h17_
             have HO169 := n0_
             have HO175 := n1_
             have HO183 := n2_
             have HO186 := n3_
             have HO194 := n4_
             have HO197 := n5_
             have HO200 := n6_
             have HO208 := n7_
             have HO_157004 := n8_
             have HO_157005 := n9_
             have HO_158004 := n10_
             have HO_158005 := n11_
             have BK156 := n12_
             have BK157 := n13_
             have BK158 := n14_
             have BK161 := n15_
             have HK := n16_
             have HB := n17_
             clear n0_ n1_ n2_ n3_ n4_ n5_ n6_ n7_ n8_ n9_ n10_ n11_ n12_ n13_ n14_ n15_ n16_ n17_
             have hHeld : w82.cell? ⟨gb156, 0, none⟩ = some (.int .i64 a0_0) ∧ w82.cell? ⟨gb156, 1, none⟩ = some (.int .i64 a0_1) ∧ w82.cell? ⟨gb156, 2, none⟩ = some (.int .i64 a0_2) ∧ w82.cell? ⟨gb156, 3, none⟩ = some (.string a0_3) ∧ w82.cell? ⟨gb156, 4, none⟩ = some (.slice A0_4 l0_4.length c0_4) ∧ w82.cell? ⟨gb156, 5, none⟩ = some (.slice Ao20 l0_5.length co20) ∧ w82.cell? ⟨gb157, 0, none⟩ = some (.int .i64 a2_0) ∧ w82.cell? ⟨gb157, 1, none⟩ = some (.int .i64 a2_1) ∧ w82.cell? ⟨gb157, 2, none⟩ = some (.int .i64 a2_2) ∧ w82.cell? ⟨gb157, 3, none⟩ = some (.string a2_3) ∧ w82.cell? ⟨gb157, 4, none⟩ = some (.slice A2_4 l2_4.length c2_4) ∧ w82.cell? ⟨gb157, 5, none⟩ = some (.slice A2_5 l2_5.length c2_5) := hS_
             obtain ⟨Ao84, co84, eo84⟩ := Kd.N_slice HO200.out
             (first | subst eo84 | (injection eo84 with f1_ f2_ f3_; have f4_ := f1_.symm; have f5_ := f3_.symm; clear f1_ f2_ f3_; subst f4_; subst f5_))
             refine norm_ (a' := ?_) ?_ ?_
             rotate_left
             ·simp only [putAll, Act.put, zL, zM, zN]
              rfl
             refine one_ (i := 8) (N := some 57) #[true, true, true, true, true, true, true, true, true, true, true, true, true, false, false, false] rfl rfl (one_of HT_.out (by kernel_rfl)) (by decide) (fun K hK => ?_)
             refine Kd.N_append_rows_step k33 w.heap.size rfl (.tmp 54) (.tmp 56) 31 33 (.agg #[(.int .i64 0), (.int .i64 0), (.int .i64 0), (.string ⟨#[]⟩), (.slice none 0 0), (.slice none 0 0)]) 88 rfl Tryd.underlying31 info33 rfl (by decide) (by omega) v196 y195 y198 _ _ _ (fun k_ => ((P0_5_ k_ ∨ P0_4_ k_ ∨ P2_4_ k_ ∨ P2_5_ k_) ∨ w.heap.size ≤ k_) ∧ zn (.slice Ao20 l0_5.length co20) k_ ∧ zn (.slice Ao69 y173.length co69) k_ ∧ zn (.slice Ao71 y184.length co71) k_ ∧ k_ ≠ gb156 ∧ k_ ≠ gb157 ∧ k_ ≠ gb158 ∧ k_ ≠ gb161) (fun k_ => ((fun k_ => ((P0_5_ k_ ∨ P0_4_ k_ ∨ P2_4_ k_ ∨ P2_5_ k_) ∨ w.heap.size ≤ k_) ∧ zn (.slice Ao20 l0_5.length co20) k_ ∧ zn (.slice Ao69 y173.length co69) k_ ∧ zn (.slice Ao71 y184.length co71) k_ ∧ k_ ≠ gb156 ∧ k_ ≠ gb157 ∧ k_ ≠ gb158 ∧ k_ ≠ gb161)) k_ ∧ some k_ ≠ (v196 : Value).ownBlock) rfl rfl ?aO ?aR (fun _ hk => hk) ?aF (yG _ _) ?aS ?aL ?_
             (case aR => exact (by skip; exact Kd.N_F (Kd.N_mono (ok' := (fun k_ => ((fun k_ => ((P0_5_ k_ ∨ P0_4_ k_ ∨ P2_4_ k_ ∨ P2_5_ k_) ∨ w.heap.size ≤ k_) ∧ zn (.slice Ao20 l0_5.length co20) k_ ∧ zn (.slice Ao69 y173.length co69) k_ ∧ zn (.slice Ao71 y184.length co71) k_ ∧ k_ ≠ gb156 ∧ k_ ≠ gb157 ∧ k_ ≠ gb158 ∧ k_ ≠ gb161)) k_ ∧ some k_ ≠ (v196 : Value).ownBlock)) (HO200.out) (fun k_ hk => ⟨⟨hk.1, ⟨hk.2.2.2.2.1, ⟨hk.2.1, ⟨hk.2.2.1, ⟨hk.2.2.2.2.2.1, ⟨hk.2.2.2.2.2.2.1, ⟨hk.2.2.2.2.2.2.2.1, hk.2.2.2.2.2.2.2.2⟩⟩⟩⟩⟩⟩⟩, hk.2.2.2.1⟩))))
             (case aF => exact (fun k_ hk => ⟨(.inr (Nat.le_trans apV hk)), Kd.fresh' (Kd.R_lt (vwR HO_157005.out)) k_ hk, Kd.fresh' (Kd.R_lt (vwR HO175.out)) k_ hk, Kd.fresh' (Kd.R_lt (vwR HO186.out)) k_ hk, Kd.freshB (g := gb156) (o := .cells #[.int .i64 a0_0, .int .i64 a0_1, .int .i64 a0_2, .string a0_3, .slice A0_4 l0_4.length c0_4, .slice Ao20 l0_5.length co20] 33 (0, 0)) apG k_ hk, Kd.freshB (g := gb157) (o := .cells #[.int .i64 a2_0, .int .i64 a2_1, .int .i64 a2_2, .string a2_3, .slice A2_4 l2_4.length c2_4, .slice A2_5 l2_5.length c2_5] 33 (0, 0)) apI k_ hk, Kd.freshB (g := gb158) (o := .cells #[.int .i64 0, .int .i64 0, .int .i64 0, .string (⟨#[]⟩ : ByteArray), .slice none 0 0, .slice none 0 0] 33 (0, 0)) apK k_ hk, Kd.freshB (g := gb161) (o := .cells #[.int .i64 6, .int .i64 0, .int .i64 0, .string (⟨#[]⟩ : ByteArray), .slice none 0 0, .slice Ao71 y184.length co71] 33 (0, 0)) apP k_ hk⟩))
             (case aO => exact (by (with_reducible repeat (first | apply Kd.N_alloc | apply Kd.N_drewN | apply Kd.N_drew)); exact Kd.N_mono HO197.out (fun _ hk => ⟨hk.1, ⟨hk.2.2.2.2.1, ⟨hk.2.1, ⟨hk.2.2.1, ⟨hk.2.2.2.2.2.1, ⟨hk.2.2.2.2.2.2.1, ⟨hk.2.2.2.2.2.2.2.1, hk.2.2.2.2.2.2.2.2⟩⟩⟩⟩⟩⟩⟩)))
             (case aS => exact apV)
             (case aL => have := LMc49.out; (first | omega | (simp only [ByteArray.size, List.size_toArray, List.length_cons, List.length_nil] at *; omega)))
             intro v202 w83 ho hb hg hat
             rw [← Ny201.out] at ho
             replace HO_157004 := zA (Kd.V_afterv (ok := (fun k_ => ((P0_5_ k_ ∨ P0_4_ k_ ∨ P2_4_ k_ ∨ P2_5_ k_) ∨ w.heap.size ≤ k_) ∧ zn (.slice Ao20 l0_5.length co20) k_ ∧ zn (.slice Ao69 y173.length co69) k_ ∧ zn (.slice Ao71 y184.length co71) k_ ∧ zn (.slice Ao84 y198.length co84) k_ ∧ k_ ≠ gb156 ∧ k_ ≠ gb157 ∧ k_ ≠ gb158 ∧ k_ ≠ gb161)) (by (with_reducible repeat (first | apply Kd.V_alloc | apply Kd.V_drewN | apply Kd.V_drew)); exact Kd.V_mono HO_157004.out (fun _ hk => ⟨⟨hk.1, ⟨hk.2.2.2.2.2.1, ⟨hk.2.1, ⟨hk.2.2.1, ⟨hk.2.2.2.2.1, ⟨hk.2.2.2.2.2.2.1, ⟨hk.2.2.2.2.2.2.2.1, ⟨hk.2.2.2.2.2.2.2.2.1, hk.2.2.2.2.2.2.2.2.2⟩⟩⟩⟩⟩⟩⟩⟩, hk.2.2.2.1⟩)) hg hat)
             replace HO_157005 := zA (Kd.R_over' (vwR HO_157005.out) (Kd.N_typed (vwN HO197.out)) (by decide) hg)
             replace HO_158004 := zA (Kd.V_afterv (ok := (fun k_ => ((P0_5_ k_ ∨ P0_4_ k_ ∨ P2_4_ k_ ∨ P2_5_ k_) ∨ w.heap.size ≤ k_) ∧ zn (.slice Ao20 l0_5.length co20) k_ ∧ zn (.slice Ao69 y173.length co69) k_ ∧ zn (.slice Ao71 y184.length co71) k_ ∧ zn (.slice Ao84 y198.length co84) k_ ∧ k_ ≠ gb156 ∧ k_ ≠ gb157 ∧ k_ ≠ gb158 ∧ k_ ≠ gb161)) (by (with_reducible repeat (first | apply Kd.V_alloc | apply Kd.V_drewN | apply Kd.V_drew)); exact Kd.V_mono HO_158004.out (fun _ hk => ⟨⟨hk.1, ⟨hk.2.2.2.2.2.1, ⟨hk.2.1, ⟨hk.2.2.1, ⟨hk.2.2.2.2.1, ⟨hk.2.2.2.2.2.2.1, ⟨hk.2.2.2.2.2.2.2.1, ⟨hk.2.2.2.2.2.2.2.2.1, hk.2.2.2.2.2.2.2.2.2⟩⟩⟩⟩⟩⟩⟩⟩, hk.2.2.2.1⟩)) hg hat)
             replace HO_158005 := zA (Kd.V_afterv (ok := (fun k_ => ((P0_5_ k_ ∨ P0_4_ k_ ∨ P2_4_ k_ ∨ P2_5_ k_) ∨ w.heap.size ≤ k_) ∧ zn (.slice Ao20 l0_5.length co20) k_ ∧ zn (.slice Ao69 y173.length co69) k_ ∧ zn (.slice Ao71 y184.length co71) k_ ∧ zn (.slice Ao84 y198.length co84) k_ ∧ k_ ≠ gb156 ∧ k_ ≠ gb157 ∧ k_ ≠ gb158 ∧ k_ ≠ gb161)) (by (with_reducible repeat (first | apply Kd.V_alloc | apply Kd.V_drewN | apply Kd.V_drew)); exact Kd.V_mono HO_158005.out (fun _ hk => ⟨⟨hk.1, ⟨hk.2.2.2.2.2.1, ⟨hk.2.1, ⟨hk.2.2.1, ⟨hk.2.2.2.2.1, ⟨hk.2.2.2.2.2.2.1, ⟨hk.2.2.2.2.2.2.2.1, ⟨hk.2.2.2.2.2.2.2.2.1, hk.2.2.2.2.2.2.2.2.2⟩⟩⟩⟩⟩⟩⟩⟩, hk.2.2.2.1⟩)) hg hat)
             replace BK156 := zA (blk_grown (g := gb156) (o := .cells #[.int .i64 a0_0, .int .i64 a0_1, .int .i64 a0_2, .string a0_3, .slice A0_4 l0_4.length c0_4, .slice Ao20 l0_5.length co20] 33 (0, 0)) apG hg (Kd.N_away HO197.out (fun _ hk => hk.2.2.2.2.2.1)))
             replace BK157 := zA (blk_grown (g := gb157) (o := .cells #[.int .i64 a2_0, .int .i64 a2_1, .int .i64 a2_2, .string a2_3, .slice A2_4 l2_4.length c2_4, .slice A2_5 l2_5.length c2_5] 33 (0, 0)) apI hg (Kd.N_away HO197.out (fun _ hk => hk.2.2.2.2.2.2.1)))
             replace BK158 := zA (blk_grown (g := gb158) (o := .cells #[.int .i64 0, .int .i64 0, .int .i64 0, .string (⟨#[]⟩ : ByteArray), .slice none 0 0, .slice none 0 0] 33 (0, 0)) apK hg (Kd.N_away HO197.out (fun _ hk => hk.2.2.2.2.2.2.2.1)))
             replace BK161 := zA (blk_grown (g := gb161) (o := .cells #[.int .i64 6, .int .i64 0, .int .i64 0, .string (⟨#[]⟩ : ByteArray), .slice none 0 0, .slice Ao71 y184.length co71] 33 (0, 0)) apP hg (Kd.N_away HO197.out (fun _ hk => hk.2.2.2.2.2.2.2.2)))
             replace HO169 := zA (Kd.V_afterv (ok := (fun k_ => ((P0_5_ k_ ∨ P0_4_ k_ ∨ P2_4_ k_ ∨ P2_5_ k_) ∨ w.heap.size ≤ k_) ∧ zn (.slice Ao69 y173.length co69) k_ ∧ zn (.slice Ao71 y184.length co71) k_ ∧ zn (.slice Ao84 y198.length co84) k_ ∧ k_ ≠ gb156 ∧ k_ ≠ gb157 ∧ k_ ≠ gb158 ∧ k_ ≠ gb161)) (by (with_reducible repeat (first | apply Kd.V_alloc | apply Kd.V_drewN | apply Kd.V_drew)); exact Kd.V_mono HO169.out (fun _ hk => ⟨⟨hk.1, ⟨hk.2.1, ⟨hk.2.2.1, ⟨hk.2.2.2.2.1, ⟨hk.2.2.2.2.2.1, ⟨hk.2.2.2.2.2.2.1, ⟨hk.2.2.2.2.2.2.2.1, hk.2.2.2.2.2.2.2.2⟩⟩⟩⟩⟩⟩⟩, hk.2.2.2.1⟩)) hg hat)
             replace HO183 := zA (Kd.V_afterv (ok := (fun k_ => ((P0_5_ k_ ∨ P0_4_ k_ ∨ P2_4_ k_ ∨ P2_5_ k_) ∨ w.heap.size ≤ k_) ∧ zn (.slice Ao69 y173.length co69) k_ ∧ zn (.slice Ao71 y184.length co71) k_ ∧ zn (.slice Ao84 y198.length co84) k_ ∧ k_ ≠ gb156 ∧ k_ ≠ gb157 ∧ k_ ≠ gb158 ∧ k_ ≠ gb161)) (by (with_reducible repeat (first | apply Kd.V_alloc | apply Kd.V_drewN | apply Kd.V_drew)); exact Kd.V_mono HO183.out (fun _ hk => ⟨⟨hk.1, ⟨hk.2.1, ⟨hk.2.2.1, ⟨hk.2.2.2.2.1, ⟨hk.2.2.2.2.2.1, ⟨hk.2.2.2.2.2.2.1, ⟨hk.2.2.2.2.2.2.2.1, hk.2.2.2.2.2.2.2.2⟩⟩⟩⟩⟩⟩⟩, hk.2.2.2.1⟩)) hg hat)
             replace HO175 := zA (Kd.R_over' (vwR HO175.out) (Kd.N_typed (vwN HO197.out)) (by decide) hg)
             replace HO186 := zA (Kd.R_over' (vwR HO186.out) (Kd.N_typed (vwN HO197.out)) (by decide) hg)
             replace HO194 := zA (Kd.V_afterv (ok := (fun k_ => ((P0_5_ k_ ∨ P0_4_ k_ ∨ P2_4_ k_ ∨ P2_5_ k_) ∨ w.heap.size ≤ k_) ∧ zn (.slice Ao20 l0_5.length co20) k_ ∧ zn (.slice Ao69 y173.length co69) k_ ∧ zn (.slice Ao71 y184.length co71) k_ ∧ zn (.slice Ao84 y198.length co84) k_ ∧ k_ ≠ gb156 ∧ k_ ≠ gb157 ∧ k_ ≠ gb158 ∧ k_ ≠ gb161)) (by (with_reducible repeat (first | apply Kd.V_alloc | apply Kd.V_drewN | apply Kd.V_drew)); exact Kd.V_mono HO194.out (fun _ hk => ⟨⟨hk.1, ⟨hk.2.2.2.2.2.1, ⟨hk.2.1, ⟨hk.2.2.1, ⟨hk.2.2.2.2.1, ⟨hk.2.2.2.2.2.2.1, ⟨hk.2.2.2.2.2.2.2.1, ⟨hk.2.2.2.2.2.2.2.2.1, hk.2.2.2.2.2.2.2.2.2⟩⟩⟩⟩⟩⟩⟩⟩, hk.2.2.2.1⟩)) hg hat)
             replace HO208 := zA (Kd.V_afterv (ok := (fun k_ => ((P0_5_ k_ ∨ P0_4_ k_ ∨ P2_4_ k_ ∨ P2_5_ k_) ∨ w.heap.size ≤ k_) ∧ zn (.slice Ao20 l0_5.length co20) k_ ∧ zn (.slice Ao69 y173.length co69) k_ ∧ zn (.slice Ao71 y184.length co71) k_ ∧ zn (.slice Ao84 y198.length co84) k_ ∧ k_ ≠ gb156 ∧ k_ ≠ gb157 ∧ k_ ≠ gb158 ∧ k_ ≠ gb161)) (by (with_reducible repeat (first | apply Kd.V_alloc | apply Kd.V_drewN | apply Kd.V_drew)); exact Kd.V_mono HO208.out (fun _ hk => ⟨⟨hk.1, ⟨hk.2.2.2.2.2.1, ⟨hk.2.1, ⟨hk.2.2.1, ⟨hk.2.2.2.2.1, ⟨hk.2.2.2.2.2.2.1, ⟨hk.2.2.2.2.2.2.2.1, ⟨hk.2.2.2.2.2.2.2.2.1, hk.2.2.2.2.2.2.2.2.2⟩⟩⟩⟩⟩⟩⟩⟩, hk.2.2.2.1⟩)) hg hat)
             replace HO200 := zA (Kd.N_afterv (ok := (fun k_ => ((P0_5_ k_ ∨ P0_4_ k_ ∨ P2_4_ k_ ∨ P2_5_ k_) ∨ w.heap.size ≤ k_) ∧ zn (.slice Ao20 l0_5.length co20) k_ ∧ zn (.slice Ao69 y173.length co69) k_ ∧ zn (.slice Ao71 y184.length co71) k_ ∧ k_ ≠ gb156 ∧ k_ ≠ gb157 ∧ k_ ≠ gb158 ∧ k_ ≠ gb161)) (by (with_reducible repeat (first | apply Kd.N_alloc | apply Kd.N_drewN | apply Kd.N_drew)); exact Kd.N_mono HO200.out (fun _ hk => ⟨⟨hk.1, ⟨hk.2.2.2.2.1, ⟨hk.2.1, ⟨hk.2.2.1, ⟨hk.2.2.2.2.2.1, ⟨hk.2.2.2.2.2.2.1, ⟨hk.2.2.2.2.2.2.2.1, hk.2.2.2.2.2.2.2.2⟩⟩⟩⟩⟩⟩⟩, hk.2.2.2.1⟩)) hg hat)
             replace HB := zA (below_weaken apN HW0.out hb)
             replace HK := zA (Kept.of_grown (S := (fun k_ => P0_5_ k_)) hg apF (fun k_ e_ => .inr (Kd.N_base HO197.out k_ e_)))
             have HO203 := zA (ho)
             clear HO197
             clear ho hb hg hat
             refine hK.out _ _ ⟨(zJ BK156.out 0).trans rfl, (zJ BK156.out 1).trans rfl, (zJ BK156.out 2).trans rfl, (zJ BK156.out 3).trans rfl, (zJ BK156.out 4).trans rfl, (zJ BK156.out 5).trans rfl, (zJ BK157.out 0).trans rfl, (zJ BK157.out 1).trans rfl, (zJ BK157.out 2).trans rfl, (zJ BK157.out 3).trans rfl, (zJ BK157.out 4).trans rfl, (zJ BK157.out 5).trans rfl⟩ (fun hHeld => ?_)
             clear hK K
             refine norm_ (a' := ?_) ?_ ?_
             rotate_left
             ·show Act.put _ (some 57) _ = _
              simp only [Act.put, zL, zM, zN, i64_w, i32_w]
              rfl
             refine one_ (i := 13) (N := some 62) #[true, true, true, true, true, true, true, true, true, true, true, true, true, true, false, false] rfl rfl (one_of HT_.out (by kernel_rfl)) (by decide) (fun K hK => ?_)
             refine Kd.N_append_rows_step k33 w.heap.size rfl (.tmp 57) (.tmp 61) 31 33 (.agg #[(.int .i64 0), (.int .i64 0), (.int .i64 0), (.string ⟨#[]⟩), (.slice none 0 0), (.slice none 0 0)]) 88 rfl Tryd.underlying31 info33 rfl (by decide) (by omega) v202 y201 y204 _ _ _ (fun k_ => ((P0_5_ k_ ∨ P0_4_ k_ ∨ P2_4_ k_ ∨ P2_5_ k_) ∨ w.heap.size ≤ k_) ∧ zn (.slice Ao20 l0_5.length co20) k_ ∧ zn (.slice Ao69 y173.length co69) k_ ∧ zn (.slice Ao71 y184.length co71) k_ ∧ k_ ≠ gb156 ∧ k_ ≠ gb157 ∧ k_ ≠ gb158 ∧ k_ ≠ gb161) (fun k_ => ((fun k_ => ((P0_5_ k_ ∨ P0_4_ k_ ∨ P2_4_ k_ ∨ P2_5_ k_) ∨ w.heap.size ≤ k_) ∧ zn (.slice Ao20 l0_5.length co20) k_ ∧ zn (.slice Ao69 y173.length co69) k_ ∧ zn (.slice Ao71 y184.length co71) k_ ∧ k_ ≠ gb156 ∧ k_ ≠ gb157 ∧ k_ ≠ gb158 ∧ k_ ≠ gb161)) k_ ∧ some k_ ≠ (v202 : Value).ownBlock) rfl rfl ?aO ?aR (fun _ hk => hk) ?aF (yG _ _) ?aS ?aL ?_
             (case aR => exact (by skip; exact Kd.V_F (Kd.V_mono (ok' := (fun k_ => ((fun k_ => ((P0_5_ k_ ∨ P0_4_ k_ ∨ P2_4_ k_ ∨ P2_5_ k_) ∨ w.heap.size ≤ k_) ∧ zn (.slice Ao20 l0_5.length co20) k_ ∧ zn (.slice Ao69 y173.length co69) k_ ∧ zn (.slice Ao71 y184.length co71) k_ ∧ k_ ≠ gb156 ∧ k_ ≠ gb157 ∧ k_ ≠ gb158 ∧ k_ ≠ gb161)) k_ ∧ some k_ ≠ (v202 : Value).ownBlock)) (HO208.out) (fun k_ hk => ⟨⟨hk.1.1, ⟨hk.1.2.1, ⟨hk.1.2.2.1, ⟨hk.1.2.2.2.1, ⟨hk.1.2.2.2.2.2.1, ⟨hk.1.2.2.2.2.2.2.1, ⟨hk.1.2.2.2.2.2.2.2.1, hk.1.2.2.2.2.2.2.2.2⟩⟩⟩⟩⟩⟩⟩, hk.2⟩))))
             (case aF => exact (fun k_ hk => ⟨(.inr (Nat.le_trans apV hk)), Kd.fresh' (Kd.R_lt (vwR HO_157005.out)) k_ hk, Kd.fresh' (Kd.R_lt (vwR HO175.out)) k_ hk, Kd.fresh' (Kd.R_lt (vwR HO186.out)) k_ hk, Kd.freshB (g := gb156) (o := .cells #[.int .i64 a0_0, .int .i64 a0_1, .int .i64 a0_2, .string a0_3, .slice A0_4 l0_4.length c0_4, .slice Ao20 l0_5.length co20] 33 (0, 0)) apG k_ hk, Kd.freshB (g := gb157) (o := .cells #[.int .i64 a2_0, .int .i64 a2_1, .int .i64 a2_2, .string a2_3, .slice A2_4 l2_4.length c2_4, .slice A2_5 l2_5.length c2_5] 33 (0, 0)) apI k_ hk, Kd.freshB (g := gb158) (o := .cells #[.int .i64 0, .int .i64 0, .int .i64 0, .string (⟨#[]⟩ : ByteArray), .slice none 0 0, .slice none 0 0] 33 (0, 0)) apK k_ hk, Kd.freshB (g := gb161) (o := .cells #[.int .i64 6, .int .i64 0, .int .i64 0, .string (⟨#[]⟩ : ByteArray), .slice none 0 0, .slice Ao71 y184.length co71] 33 (0, 0)) apP k_ hk⟩))
             (case aO => exact (vwN HO203.out))
             (case aS => exact apV)
             (case aL => have := LMc52.out; (first | omega | (simp only [ByteArray.size, List.size_toArray, List.length_cons, List.length_nil] at *; omega)))
             intro v210 w85 ho hb hg hat
             rw [← Ny209.out] at ho
             replace HO_157004 := zA (Kd.V_afterv (ok := (fun k_ => ((P0_5_ k_ ∨ P0_4_ k_ ∨ P2_4_ k_ ∨ P2_5_ k_) ∨ w.heap.size ≤ k_) ∧ zn (.slice Ao20 l0_5.length co20) k_ ∧ zn (.slice Ao69 y173.length co69) k_ ∧ zn (.slice Ao71 y184.length co71) k_ ∧ zn (.slice Ao84 y198.length co84) k_ ∧ k_ ≠ gb156 ∧ k_ ≠ gb157 ∧ k_ ≠ gb158 ∧ k_ ≠ gb161)) (vwV HO_157004.out) hg hat)
             replace HO_157005 := zA (Kd.R_over' (vwR HO_157005.out) (Kd.N_typed (vwN HO203.out)) (by decide) hg)
             replace HO_158004 := zA (Kd.V_afterv (ok := (fun k_ => ((P0_5_ k_ ∨ P0_4_ k_ ∨ P2_4_ k_ ∨ P2_5_ k_) ∨ w.heap.size ≤ k_) ∧ zn (.slice Ao20 l0_5.length co20) k_ ∧ zn (.slice Ao69 y173.length co69) k_ ∧ zn (.slice Ao71 y184.length co71) k_ ∧ zn (.slice Ao84 y198.length co84) k_ ∧ k_ ≠ gb156 ∧ k_ ≠ gb157 ∧ k_ ≠ gb158 ∧ k_ ≠ gb161)) (vwV HO_158004.out) hg hat)
             replace HO_158005 := zA (Kd.V_afterv (ok := (fun k_ => ((P0_5_ k_ ∨ P0_4_ k_ ∨ P2_4_ k_ ∨ P2_5_ k_) ∨ w.heap.size ≤ k_) ∧ zn (.slice Ao20 l0_5.length co20) k_ ∧ zn (.slice Ao69 y173.length co69) k_ ∧ zn (.slice Ao71 y184.length co71) k_ ∧ zn (.slice Ao84 y198.length co84) k_ ∧ k_ ≠ gb156 ∧ k_ ≠ gb157 ∧ k_ ≠ gb158 ∧ k_ ≠ gb161)) (vwV HO_158005.out) hg hat)
             replace BK156 := zA (blk_grown (g := gb156) (o := .cells #[.int .i64 a0_0, .int .i64 a0_1, .int .i64 a0_2, .string a0_3, .slice A0_4 l0_4.length c0_4, .slice Ao20 l0_5.length co20] 33 (0, 0)) apG hg (Kd.N_away HO203.out (fun _ hk => hk.2.2.2.2.1)))
             replace BK157 := zA (blk_grown (g := gb157) (o := .cells #[.int .i64 a2_0, .int .i64 a2_1, .int .i64 a2_2, .string a2_3, .slice A2_4 l2_4.length c2_4, .slice A2_5 l2_5.length c2_5] 33 (0, 0)) apI hg (Kd.N_away HO203.out (fun _ hk => hk.2.2.2.2.2.1)))
             replace BK158 := zA (blk_grown (g := gb158) (o := .cells #[.int .i64 0, .int .i64 0, .int .i64 0, .string (⟨#[]⟩ : ByteArray), .slice none 0 0, .slice none 0 0] 33 (0, 0)) apK hg (Kd.N_away HO203.out (fun _ hk => hk.2.2.2.2.2.2.1)))
             replace BK161 := zA (blk_grown (g := gb161) (o := .cells #[.int .i64 6, .int .i64 0, .int .i64 0, .string (⟨#[]⟩ : ByteArray), .slice none 0 0, .slice Ao71 y184.length co71] 33 (0, 0)) apP hg (Kd.N_away HO203.out (fun _ hk => hk.2.2.2.2.2.2.2)))
             replace HO169 := zA (Kd.V_afterv (ok := (fun k_ => ((P0_5_ k_ ∨ P0_4_ k_ ∨ P2_4_ k_ ∨ P2_5_ k_) ∨ w.heap.size ≤ k_) ∧ zn (.slice Ao69 y173.length co69) k_ ∧ zn (.slice Ao71 y184.length co71) k_ ∧ zn (.slice Ao84 y198.length co84) k_ ∧ k_ ≠ gb156 ∧ k_ ≠ gb157 ∧ k_ ≠ gb158 ∧ k_ ≠ gb161)) (vwV HO169.out) hg hat)
             replace HO183 := zA (Kd.V_afterv (ok := (fun k_ => ((P0_5_ k_ ∨ P0_4_ k_ ∨ P2_4_ k_ ∨ P2_5_ k_) ∨ w.heap.size ≤ k_) ∧ zn (.slice Ao69 y173.length co69) k_ ∧ zn (.slice Ao71 y184.length co71) k_ ∧ zn (.slice Ao84 y198.length co84) k_ ∧ k_ ≠ gb156 ∧ k_ ≠ gb157 ∧ k_ ≠ gb158 ∧ k_ ≠ gb161)) (vwV HO183.out) hg hat)
             replace HO175 := zA (Kd.R_over' (vwR HO175.out) (Kd.N_typed (vwN HO203.out)) (by decide) hg)
             replace HO186 := zA (Kd.R_over' (vwR HO186.out) (Kd.N_typed (vwN HO203.out)) (by decide) hg)
             replace HO194 := zA (Kd.V_afterv (ok := (fun k_ => ((P0_5_ k_ ∨ P0_4_ k_ ∨ P2_4_ k_ ∨ P2_5_ k_) ∨ w.heap.size ≤ k_) ∧ zn (.slice Ao20 l0_5.length co20) k_ ∧ zn (.slice Ao69 y173.length co69) k_ ∧ zn (.slice Ao71 y184.length co71) k_ ∧ zn (.slice Ao84 y198.length co84) k_ ∧ k_ ≠ gb156 ∧ k_ ≠ gb157 ∧ k_ ≠ gb158 ∧ k_ ≠ gb161)) (vwV HO194.out) hg hat)
             replace HO208 := zA (Kd.V_afterv (ok := (fun k_ => ((P0_5_ k_ ∨ P0_4_ k_ ∨ P2_4_ k_ ∨ P2_5_ k_) ∨ w.heap.size ≤ k_) ∧ zn (.slice Ao20 l0_5.length co20) k_ ∧ zn (.slice Ao69 y173.length co69) k_ ∧ zn (.slice Ao71 y184.length co71) k_ ∧ zn (.slice Ao84 y198.length co84) k_ ∧ k_ ≠ gb156 ∧ k_ ≠ gb157 ∧ k_ ≠ gb158 ∧ k_ ≠ gb161)) (vwV HO208.out) hg hat)
             replace HO200 := zA (Kd.N_afterv (ok := (fun k_ => ((P0_5_ k_ ∨ P0_4_ k_ ∨ P2_4_ k_ ∨ P2_5_ k_) ∨ w.heap.size ≤ k_) ∧ zn (.slice Ao20 l0_5.length co20) k_ ∧ zn (.slice Ao69 y173.length co69) k_ ∧ zn (.slice Ao71 y184.length co71) k_ ∧ k_ ≠ gb156 ∧ k_ ≠ gb157 ∧ k_ ≠ gb158 ∧ k_ ≠ gb161)) (vwN HO200.out) hg hat)
             replace HB := zA (below_weaken apN HW0.out hb)
             replace HK := zA (Kept.of_grown (S := (fun k_ => P0_5_ k_)) hg apF (fun k_ e_ => .inr (Kd.N_base HO203.out k_ e_)))
             have HO211 := zA (ho)
             clear HO203
             clear ho hb hg hat
             obtain ⟨Ao86, co86, eo86⟩ := Kd.N_slice HO211.out
             (first | subst eo86 | (injection eo86 with f1_ f2_ f3_; have f4_ := f1_.symm; have f5_ := f3_.symm; clear f1_ f2_ f3_; subst f4_; subst f5_))
             refine hK.out _ _ ⟨(zJ BK156.out 0).trans rfl, (zJ BK156.out 1).trans rfl, (zJ BK156.out 2).trans rfl, (zJ BK156.out 3).trans rfl, (zJ BK156.out 4).trans rfl, (zJ BK156.out 5).trans rfl, (zJ BK157.out 0).trans rfl, (zJ BK157.out 1).trans rfl, (zJ BK157.out 2).trans rfl, (zJ BK157.out 3).trans rfl, (zJ BK157.out 4).trans rfl, (zJ BK157.out 5).trans rfl⟩ (fun hHeld => ?_)
             clear hK K
             refine norm_ (a' := ?_) ?_ ?_
             rotate_left
             ·show Act.put _ (some 62) _ = _
              simp only [Act.put, zL, zM, zN, i64_w, i32_w]
              rfl
             refine pure_ (i := 14) (N := some 63) (v := ?_) (a' := ?_) #[true, true, true, true, true, true, true, true, true, true, true, true, true, true, true, false] rfl rfl (any_of HT_.out (by kernel_rfl)) (fun _ _ _ h => h) (Or.inl ⟨by rfl, ?_⟩) ?_ ?_
             rotate_left
             ·intro w'
              go_simp
              with_reducible rfl
             rotate_left
             ·simp only [Act.put, zL, zM, zN, i64_w, i32_w]
              rfl
             refine one_ (i := 15) (N := none) #[true, true, true, true, true, true, true, true, true, true, true, true, true, true, true, true] rfl rfl (one_of HT_.out (by kernel_rfl)) (by decide) (fun K hK => ?_)
             have hs87 : w85.cell? ⟨gb161, 4, none⟩ = some (.slice none 0 0) := (zJ BK161.out 4).trans rfl
             have hfs87 := zK BK161.out 4
             have hns87_0 := NB156_161.out
             have hns87_1 := NB157_161.out
             have hns87_2 := NB158_161.out
             have hms87_0 := NB161_156.out
             have hms87_1 := NB161_157.out
             have hms87_2 := NB161_158.out
             refine skip_ (w1 := ?_) (by rfl) rfl ?_ ?_
             rotate_left
             ·go_simp
              rfl
             refine hK.out _ _ ⟨((cell_far (p := ⟨gb161, _, none⟩) NB156_161.out _).trans (hHeld.1)), ((cell_far (p := ⟨gb161, _, none⟩) NB156_161.out _).trans (hHeld.2.1)), ((cell_far (p := ⟨gb161, _, none⟩) NB156_161.out _).trans (hHeld.2.2.1)), ((cell_far (p := ⟨gb161, _, none⟩) NB156_161.out _).trans (hHeld.2.2.2.1)), ((cell_far (p := ⟨gb161, _, none⟩) NB156_161.out _).trans (hHeld.2.2.2.2.1)), ((cell_far (p := ⟨gb161, _, none⟩) NB156_161.out _).trans (hHeld.2.2.2.2.2.1)), ((cell_far (p := ⟨gb161, _, none⟩) NB157_161.out _).trans (hHeld.2.2.2.2.2.2.1)), ((cell_far (p := ⟨gb161, _, none⟩) NB157_161.out _).trans (hHeld.2.2.2.2.2.2.2.1)), ((cell_far (p := ⟨gb161, _, none⟩) NB157_161.out _).trans (hHeld.2.2.2.2.2.2.2.2.1)), ((cell_far (p := ⟨gb161, _, none⟩) NB157_161.out _).trans (hHeld.2.2.2.2.2.2.2.2.2.1)), ((cell_far (p := ⟨gb161, _, none⟩) NB157_161.out _).trans (hHeld.2.2.2.2.2.2.2.2.2.2.1)), ((cell_far (p := ⟨gb161, _, none⟩) NB157_161.out _).trans (hHeld.2.2.2.2.2.2.2.2.2.2.2))⟩ (fun hHeld => ?_)
             clear hK K
             refine done_ (done_of HT_.out (by kernel_rfl)) ?_
             obtain ⟨hcz88_0, hcz88_1, hcz88_2, hcz88_3, hcz88_4, hcz88_5, hfz88_0, hfz88_1, hfz88_2, hfz88_3, hfz88_4, hfz88_5⟩ := zb6 BK161.out
             have hnb89 := NB158_156.out
             have hnc89 := NB156_158.out
             have hnb90 := NB158_157.out
             have hnc90 := NB157_158.out
             obtain ⟨hcz91_0, hcz91_1, hcz91_2, hcz91_3, hcz91_4, hcz91_5, hfz91_0, hfz91_1, hfz91_2, hfz91_3, hfz91_4, hfz91_5⟩ := zb6 BK158.out
             try go_wp2
             refine bodyPost_ret (results_ct rfl _ _ gb158 33 #[.int .i64 6, .int .i64 0, .int .i64 0, .string (⟨#[]⟩ : ByteArray), .slice Ao86 y209.length co86, .slice Ao71 y184.length co71] (0, 0) _ rfl (by (with_reducible repeat (first | refine zB ?_ _ | refine zD ?_ | refine zC ?_ _)); refine blk_put (cs := #[.int .i64 6, .int .i64 0, .int .i64 0, .string (⟨#[]⟩ : ByteArray), .slice Ao86 y209.length co86, .slice none 0 0]) ?_ 5 _ rfl; (with_reducible repeat (first | refine zB ?_ _ | refine zD ?_ | refine zC ?_ _)); refine blk_put (cs := #[.int .i64 6, .int .i64 0, .int .i64 0, .string (⟨#[]⟩ : ByteArray), .slice none 0 0, .slice none 0 0]) ?_ 4 _ rfl; (with_reducible repeat (first | refine zB ?_ _ | refine zD ?_ | refine zC ?_ _)); refine blk_put (cs := #[.int .i64 6, .int .i64 0, .int .i64 0, .string (⟨#[]⟩ : ByteArray), .slice none 0 0, .slice none 0 0]) ?_ 3 _ rfl; (with_reducible repeat (first | refine zB ?_ _ | refine zD ?_ | refine zC ?_ _)); refine blk_put (cs := #[.int .i64 6, .int .i64 0, .int .i64 0, .string (⟨#[]⟩ : ByteArray), .slice none 0 0, .slice none 0 0]) ?_ 2 _ rfl; (with_reducible repeat (first | refine zB ?_ _ | refine zD ?_ | refine zC ?_ _)); refine blk_put (cs := #[.int .i64 6, .int .i64 0, .int .i64 0, .string (⟨#[]⟩ : ByteArray), .slice none 0 0, .slice none 0 0]) ?_ 1 _ rfl; (with_reducible repeat (first | refine zB ?_ _ | refine zD ?_ | refine zC ?_ _)); refine blk_put (cs := #[.int .i64 0, .int .i64 0, .int .i64 0, .string (⟨#[]⟩ : ByteArray), .slice none 0 0, .slice none 0 0]) ?_ 0 _ rfl; (with_reducible repeat (first | refine zB ?_ _ | refine zD ?_ | refine zC ?_ _)); refine blk_far ?_ NB158_161.out _; (with_reducible repeat (first | refine zB ?_ _ | refine zD ?_ | refine zC ?_ _)); exact BK158.out) Tryd.underlying33 rfl (by kernel_rfl)) rfl ?_
             exact ⟨_, _, apE, Kd.N_V (by (with_reducible repeat (first | apply Kd.N_alloc | apply Kd.N_drewN | apply Kd.N_drew)); exact Kd.N_mono (Kd.N_far (p := ⟨gb158, 5, none⟩) (Kd.N_far (p := ⟨gb158, 4, none⟩) (Kd.N_far (p := ⟨gb158, 3, none⟩) (Kd.N_far (p := ⟨gb158, 2, none⟩) (Kd.N_far (p := ⟨gb158, 1, none⟩) (Kd.N_far (p := ⟨gb158, 0, none⟩) (Kd.N_far (p := ⟨gb161, 4, none⟩) (Kd.N_mono (Kd.N_mono HO211.out (fun k_ hk => (⟨hk, hk.2.2.2.2.2.2.2⟩ : _ ∧ k_ ≠ gb161))) (fun k_ hk => (⟨hk, hk.1.2.2.2.2.2.2.1⟩ : _ ∧ k_ ≠ gb158))) (fun _ hk => hk.1.2) (.slice Ao86 y209.length co86)) (fun _ hk => hk.2) (.int .i64 6)) (fun _ hk => hk.2) (.int .i64 0)) (fun _ hk => hk.2) (.int .i64 0)) (fun _ hk => hk.2) (.string (⟨#[]⟩ : ByteArray))) (fun _ hk => hk.2) (.slice Ao86 y209.length co86)) (fun _ hk => hk.2) (.slice Ao71 y184.length co71)) (fun _ hk => ⟨hk.1.1.1, hk.1.1.2.2.2.1⟩)), by (with_reducible repeat (first | apply Kd.R_alloc | apply Kd.R_drewN | apply Kd.R_drew)); exact Kd.R_mono (Kd.R_far (p := ⟨gb158, 5, none⟩) (Kd.R_far (p := ⟨gb158, 4, none⟩) (Kd.R_far (p := ⟨gb158, 3, none⟩) (Kd.R_far (p := ⟨gb158, 2, none⟩) (Kd.R_far (p := ⟨gb158, 1, none⟩) (Kd.R_far (p := ⟨gb158, 0, none⟩) (Kd.R_far (p := ⟨gb161, 4, none⟩) (Kd.R_types (Kd.R_types HO186.out BK161.out (by decide)) BK158.out (by decide)) (fun _ hk => hk.1.2) (.slice Ao86 y209.length co86)) (fun _ hk => hk.2) (.int .i64 6)) (fun _ hk => hk.2) (.int .i64 0)) (fun _ hk => hk.2) (.int .i64 0)) (fun _ hk => hk.2) (.string (⟨#[]⟩ : ByteArray))) (fun _ hk => hk.2) (.slice Ao86 y209.length co86)) (fun _ hk => hk.2) (.slice Ao71 y184.length co71)) (fun _ hk => hk.1.1.1), apN, apF⟩
            ·rw [if_neg c52] at H
             exact absurd H (by simp)
           ·rw [if_neg c49] at H
            exact absurd H (by simp)
          ·rw [if_neg c48] at H
           exact absurd H (by simp)
         ·rw [if_neg c47] at H
          exact absurd H (by simp)
        ·rw [if_neg c45] at H
         exact absurd H (by simp)
       ·rw [if_neg c42] at H
        exact absurd H (by simp)
      ·rw [if_neg c41] at H
       exact absurd H (by simp)
     ·rw [if_neg c40] at H
      exact absurd H (by simp)
    ·rw [if_neg c39] at H
     exact absurd H (by simp)

end Go.Proofs.YtoajejdicfabmaaDoor.Q
