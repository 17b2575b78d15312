-- laid by a program of this session (wip/tools) out of the translation; Lean checks it
import Derived.Test.YthaceblepbkjjaaDoorBFnExactIniPutq0
namespace Go.Proofs.YthaceblepbkjjaaDoor.Q
open Go.RowKit Go.Proofs.YthaceblepbkjjaaDoorW.PrintWords Go.Proofs.YthaceblepbkjjaaDoorW.PrintLast Go.Proofs.YthaceblepbkjjaaDoorW.PrintMore Go.Proofs.YthaceblepbkjjaaDoorX
attribute [local go_sem] max2_int min2_int max_two min_two max_three min_three max_four min_four   -- for this text's walks alone
set_option linter.unusedVariables false
set_option linter.unusedSimpArgs false

def spec_DecOk.f (a0_0 : Int) (a0_1 : Int) : Option (Bool) := if a0_0 = 0 then (some (a0_1 == 0)) else ((spec_l1In.f a0_0 (-99999999) 99999999).bind fun t148 => (if t148 = true then ((spec_l1In.f a0_1 (-8) 8).bind fun t149 => (if t149 = true then (some ((Int.tmod a0_0 10) != 0)) else (some false))) else (some false)))
set_option maxHeartbeats 8000000 in
set_option maxRecDepth 100000 in
theorem spec_DecOk.calls (a0_0 : Int) (a0_1 : Int) (r : Bool) (w : World) (h : spec_DecOk.f a0_0 a0_1 = some r) :
  Calls Tryd.prog 42 #[.agg #[.int .i64 a0_0, .int .i64 a0_1]] w fun e w' => e = .returned (.bool r) ∧ Below w.heap.size w w' := by
 have hu31 := Tryd.underlying31
 have HB := zA (yH w.heap.size w)
 have H : (if a0_0 = 0 then (some (a0_1 == 0)) else ((spec_l1In.f a0_0 (-99999999) 99999999).bind fun t148 => (if t148 = true then ((spec_l1In.f a0_1 (-8) 8).bind fun t149 => (if t149 = true then (some ((Int.tmod a0_0 10) != 0)) else (some false))) else (some false)))) = some r := h
 clear h
 by_cases c2 : a0_0 = 0
 ·rw [if_pos c2] at H
  have c2b0 : (a0_0 == 0) = true := beq_iff_eq.mpr c2
  have c2b1 : (a0_0 != 0) = false := bne_eq_false_iff_eq.mpr c2
  clear c2
  obtain rfl := yG H
  go_enter Tryd.func42, Tryd.ntmps42
  go_wp2_with (first | ((with_reducible refine zS (N := 1) rfl ?_); refine zW ?hg (N := 1) ?hd (cs := #[.int .i64 a0_0, .int .i64 a0_1]) (t := 31) ?hr ?_; (case hd => rfl); (case hg => rfl); (case hr => first | (go_simp; done) | (go_simp; rfl)); intro gb147 hg w3 hbox hb; have BK147 := zA (hbox); have GW147 := zA ((by rw [hg]; exact (zQ apA) : w.heap.size ≤ gb147)); have GE147 := zA ((by rw [hg]; exact (zQ apA) : w.heap.size ≤ gb147)); replace HB := zA (zP apA hb); clear hb hbox hg; obtain ⟨hcz4_0, hcz4_1, hfz4_0, hfz4_1⟩ := zb2 BK147.out))
  go_ret
  exact ⟨apD, by repeat (first | (with_reducible first | exact HB.out | apply zG | apply zE | apply zF | refine zH ?_ GE147.out) | exact HB.out)⟩
 ·rw [if_neg c2] at H
  have c2b0 : (a0_0 == 0) = false := beq_eq_false_iff_ne.mpr c2
  have c2b1 : (a0_0 != 0) = true := bne_iff_ne.mpr c2
  replace H := Option.bind_eq_some_iff.mp H
  obtain ⟨t148, A50, H⟩ := H
  have A5 := zA A50
  clear A50
  by_cases c6 : t148 = true
  ·subst c6
   have H1 := H; rw [if_pos rfl] at H1
   clear H
   have H := H1
   clear H1
   replace H := Option.bind_eq_some_iff.mp H
   obtain ⟨t149, A70, H⟩ := H
   have A7 := zA A70
   clear A70
   by_cases c8 : t149 = true
   ·subst c8
    have H1 := H; rw [if_pos rfl] at H1
    clear H
    have H := H1
    clear H1
    obtain rfl := yG H
    go_enter Tryd.func42, Tryd.ntmps42
    go_wp2_with (first | ((with_reducible refine zS (N := 1) rfl ?_); refine zW ?hg (N := 1) ?hd (cs := #[.int .i64 a0_0, .int .i64 a0_1]) (t := 31) ?hr ?_; (case hd => rfl); (case hg => rfl); (case hr => first | (go_simp; done) | (go_simp; rfl)); intro gb147 hg w9 hbox hb; have BK147 := zA (hbox); have GW147 := zA ((by rw [hg]; exact (zQ apA) : w.heap.size ≤ gb147)); have GE147 := zA ((by rw [hg]; exact (zQ apA) : w.heap.size ≤ gb147)); replace HB := zA (zP apA hb); clear hb hbox hg; obtain ⟨hcz10_0, hcz10_1, hfz10_0, hfz10_1⟩ := zb2 BK147.out) | ((with_reducible refine zT (f := 55) rfl ?_); refine goesL_ (some 11) rfl rfl Tryd.func55 (by kernel_rfl) rfl #[.int .i64 a0_0, .int .i64 (-99999999), .int .i64 99999999] rfl apE ?_; (with_reducible refine (spec_l1In.calls a0_0 (-99999999) 99999999 true _ A5.out).mono ?_); rintro e w' ⟨rfl, ⟨nd, rfl⟩⟩; refine ⟨_, rfl, ?_⟩) | (go_at_call 55; (with_reducible refine (spec_l1In.calls a0_1 (-8) 8 true _ A7.out).mono ?_); rintro e w' ⟨rfl, ⟨nd, rfl⟩⟩))
    go_ret
    exact ⟨apD, by repeat (first | (with_reducible first | exact HB.out | apply zG | apply zE | apply zF | refine zH ?_ GE147.out) | exact HB.out)⟩
   ·replace c8 := Bool.eq_false_iff.mpr c8
    subst c8
    have H1 := H; rw [if_neg (show ¬ (false = true) by decide)] at H1
    clear H
    have H := H1
    clear H1
    obtain rfl := yG H
    go_enter Tryd.func42, Tryd.ntmps42
    go_wp2_with (first | ((with_reducible refine zS (N := 1) rfl ?_); refine zW ?hg (N := 1) ?hd (cs := #[.int .i64 a0_0, .int .i64 a0_1]) (t := 31) ?hr ?_; (case hd => rfl); (case hg => rfl); (case hr => first | (go_simp; done) | (go_simp; rfl)); intro gb147 hg w11 hbox hb; have BK147 := zA (hbox); have GW147 := zA ((by rw [hg]; exact (zQ apA) : w.heap.size ≤ gb147)); have GE147 := zA ((by rw [hg]; exact (zQ apA) : w.heap.size ≤ gb147)); replace HB := zA (zP apA hb); clear hb hbox hg; obtain ⟨hcz12_0, hcz12_1, hfz12_0, hfz12_1⟩ := zb2 BK147.out) | ((with_reducible refine zT (f := 55) rfl ?_); refine goesL_ (some 11) rfl rfl Tryd.func55 (by kernel_rfl) rfl #[.int .i64 a0_0, .int .i64 (-99999999), .int .i64 99999999] rfl apE ?_; (with_reducible refine (spec_l1In.calls a0_0 (-99999999) 99999999 true _ A5.out).mono ?_); rintro e w' ⟨rfl, ⟨nd, rfl⟩⟩; refine ⟨_, rfl, ?_⟩) | (go_at_call 55; (with_reducible refine (spec_l1In.calls a0_1 (-8) 8 false _ A7.out).mono ?_); rintro e w' ⟨rfl, ⟨nd, rfl⟩⟩))
    go_ret
    exact ⟨apD, apA⟩
  ·replace c6 := Bool.eq_false_iff.mpr c6
   subst c6
   have H1 := H; rw [if_neg (show ¬ (false = true) by decide)] at H1
   clear H
   have H := H1
   clear H1
   obtain rfl := yG H
   go_enter Tryd.func42, Tryd.ntmps42
   go_wp2_with (first | ((with_reducible refine zS (N := 1) rfl ?_); refine zW ?hg (N := 1) ?hd (cs := #[.int .i64 a0_0, .int .i64 a0_1]) (t := 31) ?hr ?_; (case hd => rfl); (case hg => rfl); (case hr => first | (go_simp; done) | (go_simp; rfl)); intro gb147 hg w13 hbox hb; have BK147 := zA (hbox); have GW147 := zA ((by rw [hg]; exact (zQ apA) : w.heap.size ≤ gb147)); have GE147 := zA ((by rw [hg]; exact (zQ apA) : w.heap.size ≤ gb147)); replace HB := zA (zP apA hb); clear hb hbox hg; obtain ⟨hcz14_0, hcz14_1, hfz14_0, hfz14_1⟩ := zb2 BK147.out) | ((with_reducible refine zT (f := 55) rfl ?_); refine goesL_ (some 11) rfl rfl Tryd.func55 (by kernel_rfl) rfl #[.int .i64 a0_0, .int .i64 (-99999999), .int .i64 99999999] rfl apE ?_; (with_reducible refine (spec_l1In.calls a0_0 (-99999999) 99999999 false _ A5.out).mono ?_); rintro e w' ⟨rfl, ⟨nd, rfl⟩⟩; refine ⟨_, rfl, ?_⟩))
   go_ret
   exact ⟨apD, apA⟩


def spec_l7Names.l0 : Nat → List ByteArray → Int → Option (Bool)
 | 0, _, _ => none
 | k + 1, x0, x3 => if x3 < (x0.length : Int) then (if 0 ≤ x3 then ((spec_NameOk.f k (rdOf ByteArray.empty x0 x3)).bind fun t163 => (if t163 = true then (if x3 > 0 then (if 0 ≤ (wrap64 (x3 - 1)) then (if (wrap64 (x3 - 1)) < (x0.length : Int) then (if ((Op.bytesLess ((rdOf ByteArray.empty x0 (wrap64 (x3 - 1))).toList) ((rdOf ByteArray.empty x0 x3).toList)) = true) then (spec_l7Names.l0 k x0 (wrap64 (x3 + 1))) else (some false)) else (none)) else (none)) else (spec_l7Names.l0 k x0 (wrap64 (x3 + 1)))) else (some false))) else (none)) else (some true)
def spec_l7Names.f (k : Nat) (l0 : List ByteArray) : Option (Bool) := spec_l7Names.l0 k l0 0
theorem spec_l7Names.mono_l : ∀ k, (∀ y0 y1, LeO (spec_l7Names.l0 k y0 y1) (spec_l7Names.l0 (k + 1) y0 y1))
 | 0 => fun _ _ r h => by simp [spec_l7Names.l0] at h
 | k + 1 => by
  have ih0 := spec_l7Names.mono_l k
  ·intro y0 y1
   unfold spec_l7Names.l0
   repeat' first
   | (with_reducible exact ih0 _ _)
   | (with_reducible exact spec_NameOk.mono _ _)
   | (with_reducible exact LeO.refl _)
   | (with_reducible exact LeO.none _)
   | (with_reducible refine LeO.ite ?_ ?_)
   | (with_reducible refine LeO.bind ?_ (fun _ => ?_))
   | exact ih0 _ _
theorem spec_l7Names.mono : ∀ a0 k, LeO (spec_l7Names.f k a0) (spec_l7Names.f (k + 1) a0) := by
 intro a0 k
 have ih0 := spec_l7Names.mono_l k
 unfold spec_l7Names.f
 repeat' first
   | (with_reducible exact ih0 _ _)
   | (with_reducible exact spec_NameOk.mono _ _)
   | (with_reducible exact LeO.refl _)
   | (with_reducible exact LeO.none _)
   | (with_reducible refine LeO.ite ?_ ?_)
   | (with_reducible refine LeO.bind ?_ (fun _ => ?_))
   | exact ih0 _ _
def spec_l7Names.T4 : Bool × List (List Nat × List Nat) := (true, [([], []), ([], []), ([0, 1], [0, 1]), ([2], [2]), ([3], [3]), ([4], [4]), ([5, 4], [5]), ([6], [6]), ([7, 6], [6, 7]), ([8, 6, 6], [6, 8]), ([9], [9]), ([9], [9]), ([11, 9], [9, 11]), ([10, 12, 9], [9, 10, 12]), ([13, 9], [9, 13]), ([9], [9]), ([9], [9]), ([15, 16, 9], [9, 15, 16]), ([17, 9], [9, 17]), ([14, 18, 9], [9, 14, 18]), ([9, 19, 6], [6, 9, 19]), ([6, 20], [6, 20])])
def spec_l7Names.B4 : List Nat := [0, 0, 3, 7, 15, 31, 63, 127, 255, 511, 1023, 1023, 3071, 8191, 16383, 1023, 1023, 99327, 230399, 524287, 1048575, 2097151]
theorem spec_l7Names.tab4 : rtab .any (opsOf Tryd.f43 4) = spec_l7Names.T4 := by kernel_rfl
theorem spec_l7Names.bits4 : waitsOk spec_l7Names.T4.2 spec_l7Names.B4 = true := by kernel_rfl
set_option maxHeartbeats 8000000 in
set_option maxRecDepth 100000 in
theorem spec_l7Names.calls (k : Nat) (A0 : Option Addr) (c0 : Nat) (l0 : List ByteArray) (r : Bool) (w : World) (hr0 : Kd.C Kd.string w A0 l0.length l0) (hc0 : l0.length ≤ c0) (h : spec_l7Names.f k l0 = some r) :
  Calls Tryd.prog 43 #[.slice A0 l0.length c0] w fun e w' => e = .returned (.bool r) ∧ Below w.heap.size w w' := by
 have HR0 := zA hr0
 have HC0 := zA hc0
 clear hr0 hc0
 have HB := zA (yH w.heap.size w)
 have H : (spec_l7Names.l0 k l0 0) = some r := h
 clear h
 have H' := zA H
 clear H
 go_enter Tryd.func43, Tryd.ntmps43
 go_wp2
 go_loopg [3] k (fun kq v3 w' => ∃ (x3_1 : Int), v3 = .int .i64 x3_1 ∧ Aside0 (spec_l7Names.l0 kq l0 x3_1 = some r) ∧ Aside0 (kq ≤ k) ∧ Aside0 (Below w.heap.size w w'))
 case atStart => exact ⟨(0), apC, H', ⟨yJ _⟩, ⟨apA⟩⟩
 case round =>
  clear H'
  obtain ⟨x3_1, rfl, HA, HK1, HB⟩ := hrel
  cases gk with
  | zero => exact absurd HA.out (by simp [spec_l7Names.l0])
  | succ k1 =>
   have H := HA.out
   clear HA
   simp only [spec_l7Names.l0] at H
   by_cases c2 : x3_1 < (l0.length : Int)
   ·rw [if_pos c2] at H
    have c2b0 : decide (x3_1 < (l0.length : Int)) = true := yE c2
    clear c2
    by_cases c3 : 0 ≤ x3_1
    ·rw [if_pos c3] at H
     have c3b0 : decide (0 ≤ x3_1) = true := yE c3
     clear c3
     replace H := Option.bind_eq_some_iff.mp H
     obtain ⟨t163, A40, H⟩ := H
     have A4 := zA A40
     clear A40
     by_cases c5 : t163 = true
     ·subst c5
      have H1 := H; rw [if_pos rfl] at H1
      clear H
      have H := H1
      clear H1
      by_cases c6 : x3_1 > 0
      ·rw [if_pos c6] at H
       have c6b0 : decide (0 < x3_1) = true := yE c6
       clear c6
       obtain ⟨ji7, hji7⟩ : ∃ j_ : Int, (wrap64 (x3_1 - 1)) = j_ := ⟨_, rfl⟩
       replace H : (if 0 ≤ (ji7) then (if (ji7) < (l0.length : Int) then (if ((Op.bytesLess ((rdOf ByteArray.empty l0 (ji7)).toList) ((rdOf ByteArray.empty l0 x3_1).toList)) = true) then (spec_l7Names.l0 k1 l0 (wrap64 (x3_1 + 1))) else (some false)) else (none)) else (none)) = some r := by first | (rw [hji7] at H; exact H) | (simp only [hji7] at H ⊢; exact H)
       (try rw [hji7] at A4)
       have hji7w : (IntKind.i64.wrap (x3_1 - 1)) = ji7 := (i64_w _).trans hji7
       by_cases c8 : 0 ≤ (ji7)
       ·rw [if_pos c8] at H
        have c8b0 : decide (0 ≤ (ji7)) = true := yE c8
        clear c8
        by_cases c9 : (ji7) < (l0.length : Int)
        ·rw [if_pos c9] at H
         have c9b0 : decide ((ji7) < (l0.length : Int)) = true := yE c9
         clear c9
         by_cases c10 : ((Op.bytesLess ((rdOf ByteArray.empty l0 (ji7)).toList) ((rdOf ByteArray.empty l0 x3_1).toList)) = true)
         ·rw [if_pos c10] at H
          have c10b0 : (Op.bytesLess ((rdOf ByteArray.empty l0 (ji7)).toList) ((rdOf ByteArray.empty l0 x3_1).toList)) = true := c10
          clear c10
          have H' := zA H
          clear H
          try go_wp2
          replace HB := zA (zF HB.out)
          have p162 : 0 ≤ (x3_1 : Int) := yF apB
          have q162 : x3_1 < (l0.length : Int) := yF apB
          obtain ⟨ad162, e162, hx162_0⟩ := Kd.at_string HR0.out x3_1 p162 q162
          have hw162_0 := hx162_0
          cases e162
          replace hx162_0 := (HB.out.cell (zR w _ hx162_0)).trans hx162_0
          replace p162 := eq_true p162
          replace q162 := eq_true q162
          have p164 : 0 ≤ ((ji7) : Int) := yF apB
          have q164 : (ji7) < (l0.length : Int) := yF apB
          obtain ⟨ad164, e164, hx164_0⟩ := Kd.at_string HR0.out (ji7) p164 q164
          have hw164_0 := hx164_0
          obtain rfl : ad162 = ad164 := (by injection e164)
          replace hx164_0 := (HB.out.cell (zR w _ hx164_0)).trans hx164_0
          replace p164 := eq_true p164
          replace q164 := eq_true q164
          have p165 : 0 ≤ (x3_1 : Int) := yF apB
          have q165 : x3_1 < (l0.length : Int) := yF apB
          obtain ⟨ad165, e165, hx165_0⟩ := Kd.at_string HR0.out x3_1 p165 q165
          have hw165_0 := hx165_0
          obtain rfl : ad162 = ad165 := (by injection e165)
          replace hx165_0 := (HB.out.cell (zR w _ hx165_0)).trans hx165_0
          replace p165 := eq_true p165
          replace q165 := eq_true q165
          refine start_ (n := 22) (S := fun w' => w'.cell? (ad162.add (x3_1).toNat) = some (.string (rdOf ByteArray.empty l0 x3_1)) ∧ w'.cell? (ad162.add ((ji7)).toNat) = some (.string (rdOf ByteArray.empty l0 (ji7))) ∧ w'.cell? (ad162.add (x3_1).toNat) = some (.string (rdOf ByteArray.empty l0 x3_1))) (ds := []) #[false, false, false, false, false, false, false, false, false, false, false, false, false, false, false, false, false, false, false, false, false, false] (by kernel_rfl) rfl rfl ⟨((HB.out.cell (zR w _ hw162_0)).trans hw162_0), ((HB.out.cell (zR w _ hw164_0)).trans hw164_0), ((HB.out.cell (zR w _ hw165_0)).trans hw165_0)⟩ (fun hHeld => ?_); refine with_tabW spec_l7Names.tab4 spec_l7Names.bits4 (fun HT_ HW_ => ?_)
          generalize wr.drew = w11 at HB hx162_0 hx164_0 hx165_0 hHeld ⊢
          refine pure_ (i := 0) (N := some 10) (v := ?_) (a' := ?_) #[true, false, false, false, false, false, false, false, false, false, false, false, false, false, false, false, false, false, false, false, false, false] rfl rfl (any_of HT_.out (by kernel_rfl)) (fun _ _ _ h => h) (Or.inl ⟨by rfl, ?_⟩) ?_ ?_
          rotate_left
          ·intro w'
           go_simp
           with_reducible rfl
          rotate_left
          ·simp only [Act.put, zK, zL, zM, i64_w, i32_w]
           rfl
          refine pure_ (i := 1) (N := some 11) (v := ?_) (a' := ?_) #[true, true, false, false, false, false, false, false, false, false, false, false, false, false, false, false, false, false, false, false, false, false] rfl rfl (any_of HT_.out (by kernel_rfl)) (fun _ _ _ h => h) (Or.inl ⟨by rfl, ?_⟩) ?_ ?_
          rotate_left
          ·intro w'
           go_simp
           with_reducible rfl
          rotate_left
          ·simp only [Act.put, zK, zL, zM, i64_w, i32_w]
           rfl
          refine pure_ (i := 2) (N := some 12) (v := ?_) (a' := ?_) #[true, true, true, false, false, false, false, false, false, false, false, false, false, false, false, false, false, false, false, false, false, false] rfl rfl (any_of HT_.out (by kernel_rfl)) (fun _ _ _ h => h) (Or.inl ⟨by rfl, ?_⟩) ?_ ?_
          rotate_left
          ·intro w'
           go_simp
           with_reducible rfl
          rotate_left
          ·simp only [Act.put, zK, zL, zM, i64_w, i32_w]
           rfl
          refine take_ (i := 3) (N := some 13) (v := ?_) (a' := ?_) #[true, true, true, true, false, false, false, false, false, false, false, false, false, false, false, false, false, false, false, false, false, false] rfl rfl (take_ofW HT_.out HW_.out (by kernel_rfl)) (fun _ _ _ h => h) (Or.inl ⟨by rfl, ?_⟩) hHeld ?_ ?_
          rotate_left
          ·rintro w' ⟨s0, s1, s2⟩
           go_simp
           with_reducible rfl
          rotate_left
          ·simp only [Act.put, zK, zL, zM, i64_w, i32_w]
           rfl
          refine one_ (i := 4) (N := some 14) #[true, true, true, true, true, false, false, false, false, false, false, false, false, false, false, false, false, false, false, false, false, false] rfl rfl (one_of HT_.out (by kernel_rfl)) (by decide) (fun K hK => ?_)
          refine goes_ Tryd.func56 (by kernel_rfl) rfl #[.string (rdOf ByteArray.empty l0 x3_1)] (by rfl) rfl rfl apE ?_
          with_reducible refine (spec_NameOk.calls k1 (rdOf ByteArray.empty l0 x3_1) true _ A4.out).mono ?_
          rintro e w12 ⟨rfl, hb⟩
          refine ⟨_, rfl, ?_⟩
          replace HB := zA (zP apA hb)
          (try clear hb)
          (try clear hb2)
          (try clear hk)
          (try clear hi)
          refine hK.out _ _ ⟨((HB.out.cell (zR w _ hw162_0)).trans hw162_0), ((HB.out.cell (zR w _ hw164_0)).trans hw164_0), ((HB.out.cell (zR w _ hw165_0)).trans hw165_0)⟩ (fun hHeld => ?_)
          clear hK K
          refine norm_ (a' := ?_) ?_ ?_
          rotate_left
          ·show Act.put _ (some 14) _ = _
           simp only [Act.put, zK, zL, zM, i64_w, i32_w]
           rfl
          refine pure_ (i := 5) (N := some 15) (v := ?_) (a' := ?_) #[true, true, true, true, true, true, false, false, false, false, false, false, false, false, false, false, false, false, false, false, false, false] rfl rfl (any_of HT_.out (by kernel_rfl)) (fun _ _ _ h => h) (Or.inl ⟨by rfl, ?_⟩) ?_ ?_
          rotate_left
          ·intro w'
           go_simp
           with_reducible rfl
          rotate_left
          ·simp only [Act.put, zK, zL, zM, i64_w, i32_w]
           rfl
          refine pure_ (i := 6) (N := some 16) (v := ?_) (a' := ?_) #[true, true, true, true, true, true, true, false, false, false, false, false, false, false, false, false, false, false, false, false, false, false] rfl rfl (any_of HT_.out (by kernel_rfl)) (fun _ _ _ h => h) (Or.inl ⟨by rfl, ?_⟩) ?_ ?_
          rotate_left
          ·intro w'
           go_simp
           with_reducible rfl
          rotate_left
          ·simp only [Act.put, zK, zL, zM, i64_w, i32_w]
           rfl
          refine pure_ (i := 7) (N := some 17) (v := ?_) (a' := ?_) #[true, true, true, true, true, true, true, true, false, false, false, false, false, false, false, false, false, false, false, false, false, false] rfl rfl (any_of HT_.out (by kernel_rfl)) (fun _ _ _ h => h) (Or.inl ⟨by rfl, ?_⟩) ?_ ?_
          rotate_left
          ·intro w'
           go_simp
           with_reducible rfl
          rotate_left
          ·simp only [Act.put, zK, zL, zM, i64_w, i32_w]
           rfl
          refine pure_ (i := 8) (N := some 18) (v := ?_) (a' := ?_) #[true, true, true, true, true, true, true, true, true, false, false, false, false, false, false, false, false, false, false, false, false, false] rfl rfl (any_of HT_.out (by kernel_rfl)) (fun _ _ _ h => h) (Or.inl ⟨by rfl, ?_⟩) ?_ ?_
          rotate_left
          ·intro w'
           go_simp
           with_reducible rfl
          rotate_left
          ·simp only [Act.put, zK, zL, zM, i64_w, i32_w]
           rfl
          refine pure_ (i := 9) (N := some 19) (v := ?_) (a' := ?_) #[true, true, true, true, true, true, true, true, true, true, false, false, false, false, false, false, false, false, false, false, false, false] rfl rfl (any_of HT_.out (by kernel_rfl)) (fun _ _ _ h => h) (Or.inl ⟨by rfl, ?_⟩) ?_ ?_
          rotate_left
          ·intro w'
           go_simp
           with_reducible rfl
          rotate_left
          ·simp only [Act.put, zK, zL, zM, i64_w, i32_w]
           rfl
          refine pure_ (i := 10) (N := some 20) (v := ?_) (a' := ?_) #[true, true, true, true, true, true, true, true, true, true, true, false, false, false, false, false, false, false, false, false, false, false] rfl rfl (any_of HT_.out (by kernel_rfl)) (fun _ _ _ h => h) (Or.inl ⟨by rfl, ?_⟩) ?_ ?_
          rotate_left
          ·intro w'
           go_simp
           with_reducible rfl
          rotate_left
          ·simp only [Act.put, zK, zL, zM, i64_w, i32_w]
           rfl
          refine pure_ (i := 11) (N := some 21) (v := ?_) (a' := ?_) #[true, true, true, true, true, true, true, true, true, true, true, true, false, false, false, false, false, false, false, false, false, false] rfl rfl (any_of HT_.out (by kernel_rfl)) (fun _ _ _ h => h) (Or.inl ⟨by rfl, ?_⟩) ?_ ?_
          rotate_left
          ·intro w'
           go_simp
           with_reducible rfl
          rotate_left
          ·simp only [Act.put, zK, zL, zM, i64_w, i32_w]
           rfl
          refine pure_ (i := 12) (N := some 22) (v := ?_) (a' := ?_) #[true, true, true, true, true, true, true, true, true, true, true, true, true, false, false, false, false, false, false, false, false, false] rfl rfl (any_of HT_.out (by kernel_rfl)) (fun _ _ _ h => h) (Or.inl ⟨by rfl, ?_⟩) ?_ ?_
          rotate_left
          ·intro w'
           go_simp
           with_reducible rfl
          rotate_left
          ·simp only [Act.put, zK, zL, zM, i64_w, i32_w]
           rfl
          refine pure_ (i := 13) (N := some 23) (v := ?_) (a' := ?_) #[true, true, true, true, true, true, true, true, true, true, true, true, true, true, false, false, false, false, false, false, false, false] rfl rfl (any_of HT_.out (by kernel_rfl)) (fun _ _ _ h => h) (Or.inl ⟨by rfl, ?_⟩) ?_ ?_
          rotate_left
          ·intro w'
           go_simp
           with_reducible rfl
          rotate_left
          ·simp only [Act.put, zK, zL, zM, i64_w, i32_w]
           rfl
          refine pure_ (i := 15) (N := some 25) (v := ?_) (a' := ?_) #[true, true, true, true, true, true, true, true, true, true, true, true, true, true, false, true, false, false, false, false, false, false] rfl rfl (any_of HT_.out (by kernel_rfl)) (fun _ _ _ h => h) (Or.inl ⟨by rfl, ?_⟩) ?_ ?_
          rotate_left
          ·intro w'
           go_simp
           with_reducible rfl
          rotate_left
          ·simp only [Act.put, zK, zL, zM, i64_w, i32_w]
           rfl
          refine pure_ (i := 16) (N := some 26) (v := ?_) (a' := ?_) #[true, true, true, true, true, true, true, true, true, true, true, true, true, true, false, true, true, false, false, false, false, false] rfl rfl (any_of HT_.out (by kernel_rfl)) (fun _ _ _ h => h) (Or.inl ⟨by rfl, ?_⟩) ?_ ?_
          rotate_left
          ·intro w'
           go_simp
           with_reducible rfl
          rotate_left
          ·simp only [Act.put, zK, zL, zM, i64_w, i32_w]
           rfl
          refine pure_ (i := 17) (N := some 27) (v := ?_) (a' := ?_) #[true, true, true, true, true, true, true, true, true, true, true, true, true, true, false, true, true, true, false, false, false, false] rfl rfl (any_of HT_.out (by kernel_rfl)) (fun _ _ _ h => h) (Or.inl ⟨by rfl, ?_⟩) ?_ ?_
          rotate_left
          ·intro w'
           go_simp
           with_reducible rfl
          rotate_left
          ·simp only [Act.put, zK, zL, zM, i64_w, i32_w]
           rfl
          refine take_ (i := 14) (N := some 24) (v := ?_) (a' := ?_) #[true, true, true, true, true, true, true, true, true, true, true, true, true, true, true, true, true, true, false, false, false, false] rfl rfl (take_ofW HT_.out HW_.out (by kernel_rfl)) (fun _ _ _ h => h) (Or.inl ⟨by rfl, ?_⟩) hHeld ?_ ?_
          rotate_left
          ·rintro w' ⟨s0, s1, s2⟩
           go_simp
           with_reducible rfl
          rotate_left
          ·simp only [Act.put, zK, zL, zM, i64_w, i32_w]
           rfl
          refine take_ (i := 18) (N := some 28) (v := ?_) (a' := ?_) #[true, true, true, true, true, true, true, true, true, true, true, true, true, true, true, true, true, true, true, false, false, false] rfl rfl (take_ofW HT_.out HW_.out (by kernel_rfl)) (fun _ _ _ h => h) (Or.inl ⟨by rfl, ?_⟩) hHeld ?_ ?_
          rotate_left
          ·rintro w' ⟨s0, s1, s2⟩
           go_simp
           with_reducible rfl
          rotate_left
          ·simp only [Act.put, zK, zL, zM, i64_w, i32_w]
           rfl
          refine pure_ (i := 19) (N := some 29) (v := ?_) (a' := ?_) #[true, true, true, true, true, true, true, true, true, true, true, true, true, true, true, true, true, true, true, true, false, false] rfl rfl (any_of HT_.out (by kernel_rfl)) (fun _ _ _ h => h) (Or.inl ⟨by rfl, ?_⟩) ?_ ?_
          rotate_left
          ·intro w'
           go_simp
           with_reducible rfl
          rotate_left
          ·simp only [Act.put, zK, zL, zM, i64_w, i32_w]
           rfl
          refine pure_ (i := 20) (N := some 30) (v := ?_) (a' := ?_) #[true, true, true, true, true, true, true, true, true, true, true, true, true, true, true, true, true, true, true, true, true, false] rfl rfl (any_of HT_.out (by kernel_rfl)) (fun _ _ _ h => h) (Or.inl ⟨by rfl, ?_⟩) ?_ ?_
          rotate_left
          ·intro w'
           go_simp
           with_reducible rfl
          rotate_left
          ·simp only [Act.put, zK, zL, zM, i64_w, i32_w]
           rfl
          refine pure_ (i := 21) (N := some 31) (v := ?_) (a' := ?_) #[true, true, true, true, true, true, true, true, true, true, true, true, true, true, true, true, true, true, true, true, true, true] rfl rfl (any_of HT_.out (by kernel_rfl)) (fun _ _ _ h => h) (Or.inl ⟨by rfl, ?_⟩) ?_ ?_
          rotate_left
          ·intro w'
           go_simp
           with_reducible rfl
          rotate_left
          ·simp only [Act.put, zK, zL, zM, i64_w, i32_w]
           rfl
          refine done_ (done_of HT_.out (by kernel_rfl)) ?_
          try go_wp2
          go_roundg k1
          case measure => have := HK1.out; omega
          case rel => exact ⟨(wrap64 (x3_1 + 1)), apC, H', ⟨by have := HK1.out; omega⟩, ⟨apA⟩⟩
         ·rw [if_neg c10] at H
          have c10b0 : (Op.bytesLess ((rdOf ByteArray.empty l0 (ji7)).toList) ((rdOf ByteArray.empty l0 x3_1).toList)) = false := by simpa using c10
          clear c10
          obtain rfl := yG H
          try go_wp2
          replace HB := zA (zF HB.out)
          have p162 : 0 ≤ (x3_1 : Int) := yF apB
          have q162 : x3_1 < (l0.length : Int) := yF apB
          obtain ⟨ad162, e162, hx162_0⟩ := Kd.at_string HR0.out x3_1 p162 q162
          have hw162_0 := hx162_0
          cases e162
          replace hx162_0 := (HB.out.cell (zR w _ hx162_0)).trans hx162_0
          replace p162 := eq_true p162
          replace q162 := eq_true q162
          have p164 : 0 ≤ ((ji7) : Int) := yF apB
          have q164 : (ji7) < (l0.length : Int) := yF apB
          obtain ⟨ad164, e164, hx164_0⟩ := Kd.at_string HR0.out (ji7) p164 q164
          have hw164_0 := hx164_0
          obtain rfl : ad162 = ad164 := (by injection e164)
          replace hx164_0 := (HB.out.cell (zR w _ hx164_0)).trans hx164_0
          replace p164 := eq_true p164
          replace q164 := eq_true q164
          have p165 : 0 ≤ (x3_1 : Int) := yF apB
          have q165 : x3_1 < (l0.length : Int) := yF apB
          obtain ⟨ad165, e165, hx165_0⟩ := Kd.at_string HR0.out x3_1 p165 q165
          have hw165_0 := hx165_0
          obtain rfl : ad162 = ad165 := (by injection e165)
          replace hx165_0 := (HB.out.cell (zR w _ hx165_0)).trans hx165_0
          replace p165 := eq_true p165
          replace q165 := eq_true q165
          refine start_ (n := 22) (S := fun w' => w'.cell? (ad162.add (x3_1).toNat) = some (.string (rdOf ByteArray.empty l0 x3_1)) ∧ w'.cell? (ad162.add ((ji7)).toNat) = some (.string (rdOf ByteArray.empty l0 (ji7))) ∧ w'.cell? (ad162.add (x3_1).toNat) = some (.string (rdOf ByteArray.empty l0 x3_1))) (ds := []) #[false, false, false, false, false, false, false, false, false, false, false, false, false, false, false, false, false, false, false, false, false, false] (by kernel_rfl) rfl rfl ⟨((HB.out.cell (zR w _ hw162_0)).trans hw162_0), ((HB.out.cell (zR w _ hw164_0)).trans hw164_0), ((HB.out.cell (zR w _ hw165_0)).trans hw165_0)⟩ (fun hHeld => ?_); refine with_tabW spec_l7Names.tab4 spec_l7Names.bits4 (fun HT_ HW_ => ?_)
          generalize wr.drew = w13 at HB hx162_0 hx164_0 hx165_0 hHeld ⊢
          refine pure_ (i := 0) (N := some 10) (v := ?_) (a' := ?_) #[true, false, false, false, false, false, false, false, false, false, false, false, false, false, false, false, false, false, false, false, false, false] rfl rfl (any_of HT_.out (by kernel_rfl)) (fun _ _ _ h => h) (Or.inl ⟨by rfl, ?_⟩) ?_ ?_
          rotate_left
          ·intro w'
           go_simp
           with_reducible rfl
          rotate_left
          ·simp only [Act.put, zK, zL, zM, i64_w, i32_w]
           rfl
          refine pure_ (i := 1) (N := some 11) (v := ?_) (a' := ?_) #[true, true, false, false, false, false, false, false, false, false, false, false, false, false, false, false, false, false, false, false, false, false] rfl rfl (any_of HT_.out (by kernel_rfl)) (fun _ _ _ h => h) (Or.inl ⟨by rfl, ?_⟩) ?_ ?_
          rotate_left
          ·intro w'
           go_simp
           with_reducible rfl
          rotate_left
          ·simp only [Act.put, zK, zL, zM, i64_w, i32_w]
           rfl
          refine pure_ (i := 2) (N := some 12) (v := ?_) (a' := ?_) #[true, true, true, false, false, false, false, false, false, false, false, false, false, false, false, false, false, false, false, false, false, false] rfl rfl (any_of HT_.out (by kernel_rfl)) (fun _ _ _ h => h) (Or.inl ⟨by rfl, ?_⟩) ?_ ?_
          rotate_left
          ·intro w'
           go_simp
           with_reducible rfl
          rotate_left
          ·simp only [Act.put, zK, zL, zM, i64_w, i32_w]
           rfl
          refine take_ (i := 3) (N := some 13) (v := ?_) (a' := ?_) #[true, true, true, true, false, false, false, false, false, false, false, false, false, false, false, false, false, false, false, false, false, false] rfl rfl (take_ofW HT_.out HW_.out (by kernel_rfl)) (fun _ _ _ h => h) (Or.inl ⟨by rfl, ?_⟩) hHeld ?_ ?_
          rotate_left
          ·rintro w' ⟨s0, s1, s2⟩
           go_simp
           with_reducible rfl
          rotate_left
          ·simp only [Act.put, zK, zL, zM, i64_w, i32_w]
           rfl
          refine one_ (i := 4) (N := some 14) #[true, true, true, true, true, false, false, false, false, false, false, false, false, false, false, false, false, false, false, false, false, false] rfl rfl (one_of HT_.out (by kernel_rfl)) (by decide) (fun K hK => ?_)
          refine goes_ Tryd.func56 (by kernel_rfl) rfl #[.string (rdOf ByteArray.empty l0 x3_1)] (by rfl) rfl rfl apE ?_
          with_reducible refine (spec_NameOk.calls k1 (rdOf ByteArray.empty l0 x3_1) true _ A4.out).mono ?_
          rintro e w14 ⟨rfl, hb⟩
          refine ⟨_, rfl, ?_⟩
          replace HB := zA (zP apA hb)
          (try clear hb)
          (try clear hb2)
          (try clear hk)
          (try clear hi)
          refine hK.out _ _ ⟨((HB.out.cell (zR w _ hw162_0)).trans hw162_0), ((HB.out.cell (zR w _ hw164_0)).trans hw164_0), ((HB.out.cell (zR w _ hw165_0)).trans hw165_0)⟩ (fun hHeld => ?_)
          clear hK K
          refine norm_ (a' := ?_) ?_ ?_
          rotate_left
          ·show Act.put _ (some 14) _ = _
           simp only [Act.put, zK, zL, zM, i64_w, i32_w]
           rfl
          refine pure_ (i := 5) (N := some 15) (v := ?_) (a' := ?_) #[true, true, true, true, true, true, false, false, false, false, false, false, false, false, false, false, false, false, false, false, false, false] rfl rfl (any_of HT_.out (by kernel_rfl)) (fun _ _ _ h => h) (Or.inl ⟨by rfl, ?_⟩) ?_ ?_
          rotate_left
          ·intro w'
           go_simp
           with_reducible rfl
          rotate_left
          ·simp only [Act.put, zK, zL, zM, i64_w, i32_w]
           rfl
          refine pure_ (i := 6) (N := some 16) (v := ?_) (a' := ?_) #[true, true, true, true, true, true, true, false, false, false, false, false, false, false, false, false, false, false, false, false, false, false] rfl rfl (any_of HT_.out (by kernel_rfl)) (fun _ _ _ h => h) (Or.inl ⟨by rfl, ?_⟩) ?_ ?_
          rotate_left
          ·intro w'
           go_simp
           with_reducible rfl
          rotate_left
          ·simp only [Act.put, zK, zL, zM, i64_w, i32_w]
           rfl
          refine pure_ (i := 7) (N := some 17) (v := ?_) (a' := ?_) #[true, true, true, true, true, true, true, true, false, false, false, false, false, false, false, false, false, false, false, false, false, false] rfl rfl (any_of HT_.out (by kernel_rfl)) (fun _ _ _ h => h) (Or.inl ⟨by rfl, ?_⟩) ?_ ?_
          rotate_left
          ·intro w'
           go_simp
           with_reducible rfl
          rotate_left
          ·simp only [Act.put, zK, zL, zM, i64_w, i32_w]
           rfl
          refine pure_ (i := 8) (N := some 18) (v := ?_) (a' := ?_) #[true, true, true, true, true, true, true, true, true, false, false, false, false, false, false, false, false, false, false, false, false, false] rfl rfl (any_of HT_.out (by kernel_rfl)) (fun _ _ _ h => h) (Or.inl ⟨by rfl, ?_⟩) ?_ ?_
          rotate_left
          ·intro w'
           go_simp
           with_reducible rfl
          rotate_left
          ·simp only [Act.put, zK, zL, zM, i64_w, i32_w]
           rfl
          refine pure_ (i := 9) (N := some 19) (v := ?_) (a' := ?_) #[true, true, true, true, true, true, true, true, true, true, false, false, false, false, false, false, false, false, false, false, false, false] rfl rfl (any_of HT_.out (by kernel_rfl)) (fun _ _ _ h => h) (Or.inl ⟨by rfl, ?_⟩) ?_ ?_
          rotate_left
          ·intro w'
           go_simp
           with_reducible rfl
          rotate_left
          ·simp only [Act.put, zK, zL, zM, i64_w, i32_w]
           rfl
          refine pure_ (i := 10) (N := some 20) (v := ?_) (a' := ?_) #[true, true, true, true, true, true, true, true, true, true, true, false, false, false, false, false, false, false, false, false, false, false] rfl rfl (any_of HT_.out (by kernel_rfl)) (fun _ _ _ h => h) (Or.inl ⟨by rfl, ?_⟩) ?_ ?_
          rotate_left
          ·intro w'
           go_simp
           with_reducible rfl
          rotate_left
          ·simp only [Act.put, zK, zL, zM, i64_w, i32_w]
           rfl
          refine pure_ (i := 11) (N := some 21) (v := ?_) (a' := ?_) #[true, true, true, true, true, true, true, true, true, true, true, true, false, false, false, false, false, false, false, false, false, false] rfl rfl (any_of HT_.out (by kernel_rfl)) (fun _ _ _ h => h) (Or.inl ⟨by rfl, ?_⟩) ?_ ?_
          rotate_left
          ·intro w'
           go_simp
           with_reducible rfl
          rotate_left
          ·simp only [Act.put, zK, zL, zM, i64_w, i32_w]
           rfl
          refine pure_ (i := 12) (N := some 22) (v := ?_) (a' := ?_) #[true, true, true, true, true, true, true, true, true, true, true, true, true, false, false, false, false, false, false, false, false, false] rfl rfl (any_of HT_.out (by kernel_rfl)) (fun _ _ _ h => h) (Or.inl ⟨by rfl, ?_⟩) ?_ ?_
          rotate_left
          ·intro w'
           go_simp
           with_reducible rfl
          rotate_left
          ·simp only [Act.put, zK, zL, zM, i64_w, i32_w]
           rfl
          refine pure_ (i := 13) (N := some 23) (v := ?_) (a' := ?_) #[true, true, true, true, true, true, true, true, true, true, true, true, true, true, false, false, false, false, false, false, false, false] rfl rfl (any_of HT_.out (by kernel_rfl)) (fun _ _ _ h => h) (Or.inl ⟨by rfl, ?_⟩) ?_ ?_
          rotate_left
          ·intro w'
           go_simp
           with_reducible rfl
          rotate_left
          ·simp only [Act.put, zK, zL, zM, i64_w, i32_w]
           rfl
          refine pure_ (i := 15) (N := some 25) (v := ?_) (a' := ?_) #[true, true, true, true, true, true, true, true, true, true, true, true, true, true, false, true, false, false, false, false, false, false] rfl rfl (any_of HT_.out (by kernel_rfl)) (fun _ _ _ h => h) (Or.inl ⟨by rfl, ?_⟩) ?_ ?_
          rotate_left
          ·intro w'
           go_simp
           with_reducible rfl
          rotate_left
          ·simp only [Act.put, zK, zL, zM, i64_w, i32_w]
           rfl
          refine pure_ (i := 16) (N := some 26) (v := ?_) (a' := ?_) #[true, true, true, true, true, true, true, true, true, true, true, true, true, true, false, true, true, false, false, false, false, false] rfl rfl (any_of HT_.out (by kernel_rfl)) (fun _ _ _ h => h) (Or.inl ⟨by rfl, ?_⟩) ?_ ?_
          rotate_left
          ·intro w'
           go_simp
           with_reducible rfl
          rotate_left
          ·simp only [Act.put, zK, zL, zM, i64_w, i32_w]
           rfl
          refine pure_ (i := 17) (N := some 27) (v := ?_) (a' := ?_) #[true, true, true, true, true, true, true, true, true, true, true, true, true, true, false, true, true, true, false, false, false, false] rfl rfl (any_of HT_.out (by kernel_rfl)) (fun _ _ _ h => h) (Or.inl ⟨by rfl, ?_⟩) ?_ ?_
          rotate_left
          ·intro w'
           go_simp
           with_reducible rfl
          rotate_left
          ·simp only [Act.put, zK, zL, zM, i64_w, i32_w]
           rfl
          refine take_ (i := 14) (N := some 24) (v := ?_) (a' := ?_) #[true, true, true, true, true, true, true, true, true, true, true, true, true, true, true, true, true, true, false, false, false, false] rfl rfl (take_ofW HT_.out HW_.out (by kernel_rfl)) (fun _ _ _ h => h) (Or.inl ⟨by rfl, ?_⟩) hHeld ?_ ?_
          rotate_left
          ·rintro w' ⟨s0, s1, s2⟩
           go_simp
           with_reducible rfl
          rotate_left
          ·simp only [Act.put, zK, zL, zM, i64_w, i32_w]
           rfl
          refine take_ (i := 18) (N := some 28) (v := ?_) (a' := ?_) #[true, true, true, true, true, true, true, true, true, true, true, true, true, true, true, true, true, true, true, false, false, false] rfl rfl (take_ofW HT_.out HW_.out (by kernel_rfl)) (fun _ _ _ h => h) (Or.inl ⟨by rfl, ?_⟩) hHeld ?_ ?_
          rotate_left
          ·rintro w' ⟨s0, s1, s2⟩
           go_simp
           with_reducible rfl
          rotate_left
          ·simp only [Act.put, zK, zL, zM, i64_w, i32_w]
           rfl
          refine pure_ (i := 19) (N := some 29) (v := ?_) (a' := ?_) #[true, true, true, true, true, true, true, true, true, true, true, true, true, true, true, true, true, true, true, true, false, false] rfl rfl (any_of HT_.out (by kernel_rfl)) (fun _ _ _ h => h) (Or.inl ⟨by rfl, ?_⟩) ?_ ?_
          rotate_left
          ·intro w'
           go_simp
           with_reducible rfl
          rotate_left
          ·simp only [Act.put, zK, zL, zM, i64_w, i32_w]
           rfl
          refine pure_ (i := 20) (N := some 30) (v := ?_) (a' := ?_) #[true, true, true, true, true, true, true, true, true, true, true, true, true, true, true, true, true, true, true, true, true, false] rfl rfl (any_of HT_.out (by kernel_rfl)) (fun _ _ _ h => h) (Or.inl ⟨by rfl, ?_⟩) ?_ ?_
          rotate_left
          ·intro w'
           go_simp
           with_reducible rfl
          rotate_left
          ·simp only [Act.put, zK, zL, zM, i64_w, i32_w]
           rfl
          refine pure_ (i := 21) (N := some 31) (v := ?_) (a' := ?_) #[true, true, true, true, true, true, true, true, true, true, true, true, true, true, true, true, true, true, true, true, true, true] rfl rfl (any_of HT_.out (by kernel_rfl)) (fun _ _ _ h => h) (Or.inl ⟨by rfl, ?_⟩) ?_ ?_
          rotate_left
          ·intro w'
           go_simp
           with_reducible rfl
          rotate_left
          ·simp only [Act.put, zK, zL, zM, i64_w, i32_w]
           rfl
          refine done_ (done_of HT_.out (by kernel_rfl)) ?_
          try go_wp2
          go_ret
          exact ⟨by first | rfl | (simp [errW_none, errW_some] <;> rfl) | (simp only [← hji7]; first | rfl | (simp [errW_none, errW_some] <;> rfl)) | (simp [*, errW_none, errW_some] <;> rfl), apA⟩
        ·rw [if_neg c9] at H
         exact absurd H (by simp)
       ·rw [if_neg c8] at H
        exact absurd H (by simp)
      ·rw [if_neg c6] at H
       have c6b0 : decide (0 < x3_1) = false := decide_eq_false c6
       clear c6
       have H' := zA H
       clear H
       try go_wp2
       replace HB := zA (zF HB.out)
       have p162 : 0 ≤ (x3_1 : Int) := yF apB
       have q162 : x3_1 < (l0.length : Int) := yF apB
       obtain ⟨ad162, e162, hx162_0⟩ := Kd.at_string HR0.out x3_1 p162 q162
       have hw162_0 := hx162_0
       cases e162
       replace hx162_0 := (HB.out.cell (zR w _ hx162_0)).trans hx162_0
       replace p162 := eq_true p162
       replace q162 := eq_true q162
       refine start_ (n := 22) (S := fun w' => w'.cell? (ad162.add (x3_1).toNat) = some (.string (rdOf ByteArray.empty l0 x3_1))) (ds := []) #[false, false, false, false, false, false, false, false, false, false, false, false, false, false, false, false, false, false, false, false, false, false] (by kernel_rfl) rfl rfl (((HB.out.cell (zR w _ hw162_0)).trans hw162_0)) (fun hHeld => ?_); refine with_tabW spec_l7Names.tab4 spec_l7Names.bits4 (fun HT_ HW_ => ?_)
       generalize wr.drew = w15 at HB hx162_0 hHeld ⊢
       refine pure_ (i := 0) (N := some 10) (v := ?_) (a' := ?_) #[true, false, false, false, false, false, false, false, false, false, false, false, false, false, false, false, false, false, false, false, false, false] rfl rfl (any_of HT_.out (by kernel_rfl)) (fun _ _ _ h => h) (Or.inl ⟨by rfl, ?_⟩) ?_ ?_
       rotate_left
       ·intro w'
        go_simp
        with_reducible rfl
       rotate_left
       ·simp only [Act.put, zK, zL, zM, i64_w, i32_w]
        rfl
       refine pure_ (i := 1) (N := some 11) (v := ?_) (a' := ?_) #[true, true, false, false, false, false, false, false, false, false, false, false, false, false, false, false, false, false, false, false, false, false] rfl rfl (any_of HT_.out (by kernel_rfl)) (fun _ _ _ h => h) (Or.inl ⟨by rfl, ?_⟩) ?_ ?_
       rotate_left
       ·intro w'
        go_simp
        with_reducible rfl
       rotate_left
       ·simp only [Act.put, zK, zL, zM, i64_w, i32_w]
        rfl
       refine pure_ (i := 2) (N := some 12) (v := ?_) (a' := ?_) #[true, true, true, false, false, false, false, false, false, false, false, false, false, false, false, false, false, false, false, false, false, false] rfl rfl (any_of HT_.out (by kernel_rfl)) (fun _ _ _ h => h) (Or.inl ⟨by rfl, ?_⟩) ?_ ?_
       rotate_left
       ·intro w'
        go_simp
        with_reducible rfl
       rotate_left
       ·simp only [Act.put, zK, zL, zM, i64_w, i32_w]
        rfl
       refine take_ (i := 3) (N := some 13) (v := ?_) (a' := ?_) #[true, true, true, true, false, false, false, false, false, false, false, false, false, false, false, false, false, false, false, false, false, false] rfl rfl (take_ofW HT_.out HW_.out (by kernel_rfl)) (fun _ _ _ h => h) (Or.inl ⟨by rfl, ?_⟩) hHeld ?_ ?_
       rotate_left
       ·intro w' s0
        go_simp
        with_reducible rfl
       rotate_left
       ·simp only [Act.put, zK, zL, zM, i64_w, i32_w]
        rfl
       refine one_ (i := 4) (N := some 14) #[true, true, true, true, true, false, false, false, false, false, false, false, false, false, false, false, false, false, false, false, false, false] rfl rfl (one_of HT_.out (by kernel_rfl)) (by decide) (fun K hK => ?_)
       refine goes_ Tryd.func56 (by kernel_rfl) rfl #[.string (rdOf ByteArray.empty l0 x3_1)] (by rfl) rfl rfl apE ?_
       with_reducible refine (spec_NameOk.calls k1 (rdOf ByteArray.empty l0 x3_1) true _ A4.out).mono ?_
       rintro e w16 ⟨rfl, hb⟩
       refine ⟨_, rfl, ?_⟩
       replace HB := zA (zP apA hb)
       (try clear hb)
       (try clear hb2)
       (try clear hk)
       (try clear hi)
       refine hK.out _ _ (((HB.out.cell (zR w _ hw162_0)).trans hw162_0)) (fun hHeld => ?_)
       clear hK K
       refine norm_ (a' := ?_) ?_ ?_
       rotate_left
       ·show Act.put _ (some 14) _ = _
        simp only [Act.put, zK, zL, zM, i64_w, i32_w]
        rfl
       refine pure_ (i := 5) (N := some 15) (v := ?_) (a' := ?_) #[true, true, true, true, true, true, false, false, false, false, false, false, false, false, false, false, false, false, false, false, false, false] rfl rfl (any_of HT_.out (by kernel_rfl)) (fun _ _ _ h => h) (Or.inl ⟨by rfl, ?_⟩) ?_ ?_
       rotate_left
       ·intro w'
        go_simp
        with_reducible rfl
       rotate_left
       ·simp only [Act.put, zK, zL, zM, i64_w, i32_w]
        rfl
       refine pure_ (i := 6) (N := some 16) (v := ?_) (a' := ?_) #[true, true, true, true, true, true, true, false, false, false, false, false, false, false, false, false, false, false, false, false, false, false] rfl rfl (any_of HT_.out (by kernel_rfl)) (fun _ _ _ h => h) (Or.inl ⟨by rfl, ?_⟩) ?_ ?_
       rotate_left
       ·intro w'
        go_simp
        with_reducible rfl
       rotate_left
       ·simp only [Act.put, zK, zL, zM, i64_w, i32_w]
        rfl
       refine pure_ (i := 7) (N := some 17) (v := ?_) (a' := ?_) #[true, true, true, true, true, true, true, true, false, false, false, false, false, false, false, false, false, false, false, false, false, false] rfl rfl (any_of HT_.out (by kernel_rfl)) (fun _ _ _ h => h) (Or.inl ⟨by rfl, ?_⟩) ?_ ?_
       rotate_left
       ·intro w'
        go_simp
        with_reducible rfl
       rotate_left
       ·simp only [Act.put, zK, zL, zM, i64_w, i32_w]
        rfl
       refine pure_ (i := 8) (N := some 18) (v := ?_) (a' := ?_) #[true, true, true, true, true, true, true, true, true, false, false, false, false, false, false, false, false, false, false, false, false, false] rfl rfl (any_of HT_.out (by kernel_rfl)) (fun _ _ _ h => h) (Or.inl ⟨by rfl, ?_⟩) ?_ ?_
       rotate_left
       ·intro w'
        go_simp
        with_reducible rfl
       rotate_left
       ·simp only [Act.put, zK, zL, zM, i64_w, i32_w]
        rfl
       refine pure_ (i := 9) (N := some 19) (v := ?_) (a' := ?_) #[true, true, true, true, true, true, true, true, true, true, false, false, false, false, false, false, false, false, false, false, false, false] rfl rfl (any_of HT_.out (by kernel_rfl)) (fun _ _ _ h => h) (Or.inl ⟨by rfl, ?_⟩) ?_ ?_
       rotate_left
       ·intro w'
        go_simp
        with_reducible rfl
       rotate_left
       ·simp only [Act.put, zK, zL, zM, i64_w, i32_w]
        rfl
       refine pure_ (i := 10) (N := some 20) (v := undef) (a' := ?_) #[true, true, true, true, true, true, true, true, true, true, true, false, false, false, false, false, false, false, false, false, false, false] rfl rfl (any_of HT_.out (by kernel_rfl)) (fun _ _ _ h => h) (Or.inr ⟨by rfl, rfl⟩) ?_ ?_
       rotate_left
       ·simp only [Act.put, zK, zL, zM, i64_w, i32_w]
        rfl
       refine pure_ (i := 11) (N := some 21) (v := undef) (a' := ?_) #[true, true, true, true, true, true, true, true, true, true, true, true, false, false, false, false, false, false, false, false, false, false] rfl rfl (any_of HT_.out (by kernel_rfl)) (fun _ _ _ h => h) (Or.inr ⟨by rfl, rfl⟩) ?_ ?_
       rotate_left
       ·simp only [Act.put, zK, zL, zM, i64_w, i32_w]
        rfl
       refine pure_ (i := 12) (N := some 22) (v := undef) (a' := ?_) #[true, true, true, true, true, true, true, true, true, true, true, true, true, false, false, false, false, false, false, false, false, false] rfl rfl (any_of HT_.out (by kernel_rfl)) (fun _ _ _ h => h) (Or.inr ⟨by rfl, rfl⟩) ?_ ?_
       rotate_left
       ·simp only [Act.put, zK, zL, zM, i64_w, i32_w]
        rfl
       refine pure_ (i := 13) (N := some 23) (v := undef) (a' := ?_) #[true, true, true, true, true, true, true, true, true, true, true, true, true, true, false, false, false, false, false, false, false, false] rfl rfl (any_of HT_.out (by kernel_rfl)) (fun _ _ _ h => h) (Or.inr ⟨by rfl, rfl⟩) ?_ ?_
       rotate_left
       ·simp only [Act.put, zK, zL, zM, i64_w, i32_w]
        rfl
       refine pure_ (i := 14) (N := some 24) (v := undef) (a' := ?_) #[true, true, true, true, true, true, true, true, true, true, true, true, true, true, true, false, false, false, false, false, false, false] rfl rfl (any_of HT_.out (by kernel_rfl)) (fun _ _ _ h => h) (Or.inr ⟨by rfl, rfl⟩) ?_ ?_
       rotate_left
       ·simp only [Act.put, zK, zL, zM, i64_w, i32_w]
        rfl
       refine pure_ (i := 15) (N := some 25) (v := undef) (a' := ?_) #[true, true, true, true, true, true, true, true, true, true, true, true, true, true, true, true, false, false, false, false, false, false] rfl rfl (any_of HT_.out (by kernel_rfl)) (fun _ _ _ h => h) (Or.inr ⟨by rfl, rfl⟩) ?_ ?_
       rotate_left
       ·simp only [Act.put, zK, zL, zM, i64_w, i32_w]
        rfl
       refine pure_ (i := 16) (N := some 26) (v := undef) (a' := ?_) #[true, true, true, true, true, true, true, true, true, true, true, true, true, true, true, true, true, false, false, false, false, false] rfl rfl (any_of HT_.out (by kernel_rfl)) (fun _ _ _ h => h) (Or.inr ⟨by rfl, rfl⟩) ?_ ?_
       rotate_left
       ·simp only [Act.put, zK, zL, zM, i64_w, i32_w]
        rfl
       refine pure_ (i := 17) (N := some 27) (v := undef) (a' := ?_) #[true, true, true, true, true, true, true, true, true, true, true, true, true, true, true, true, true, true, false, false, false, false] rfl rfl (any_of HT_.out (by kernel_rfl)) (fun _ _ _ h => h) (Or.inr ⟨by rfl, rfl⟩) ?_ ?_
       rotate_left
       ·simp only [Act.put, zK, zL, zM, i64_w, i32_w]
        rfl
       refine pure_ (i := 18) (N := some 28) (v := undef) (a' := ?_) #[true, true, true, true, true, true, true, true, true, true, true, true, true, true, true, true, true, true, true, false, false, false] rfl rfl (any_of HT_.out (by kernel_rfl)) (fun _ _ _ h => h) (Or.inr ⟨by rfl, rfl⟩) ?_ ?_
       rotate_left
       ·simp only [Act.put, zK, zL, zM, i64_w, i32_w]
        rfl
       refine pure_ (i := 19) (N := some 29) (v := undef) (a' := ?_) #[true, true, true, true, true, true, true, true, true, true, true, true, true, true, true, true, true, true, true, true, false, false] rfl rfl (any_of HT_.out (by kernel_rfl)) (fun _ _ _ h => h) (Or.inr ⟨by rfl, rfl⟩) ?_ ?_
       rotate_left
       ·simp only [Act.put, zK, zL, zM, i64_w, i32_w]
        rfl
       refine pure_ (i := 20) (N := some 30) (v := ?_) (a' := ?_) #[true, true, true, true, true, true, true, true, true, true, true, true, true, true, true, true, true, true, true, true, true, false] rfl rfl (any_of HT_.out (by kernel_rfl)) (fun _ _ _ h => h) (Or.inl ⟨by rfl, ?_⟩) ?_ ?_
       rotate_left
       ·intro w'
        go_simp
        with_reducible rfl
       rotate_left
       ·simp only [Act.put, zK, zL, zM, i64_w, i32_w]
        rfl
       refine pure_ (i := 21) (N := some 31) (v := ?_) (a' := ?_) #[true, true, true, true, true, true, true, true, true, true, true, true, true, true, true, true, true, true, true, true, true, true] rfl rfl (any_of HT_.out (by kernel_rfl)) (fun _ _ _ h => h) (Or.inl ⟨by rfl, ?_⟩) ?_ ?_
       rotate_left
       ·intro w'
        go_simp
        with_reducible rfl
       rotate_left
       ·simp only [Act.put, zK, zL, zM, i64_w, i32_w]
        rfl
       refine done_ (done_of HT_.out (by kernel_rfl)) ?_
       try go_wp2
       go_roundg k1
       case measure => have := HK1.out; omega
       case rel => exact ⟨(wrap64 (x3_1 + 1)), apC, H', ⟨by have := HK1.out; omega⟩, ⟨apA⟩⟩
     ·replace c5 := Bool.eq_false_iff.mpr c5
      subst c5
      have H1 := H; rw [if_neg (show ¬ (false = true) by decide)] at H1
      clear H
      have H := H1
      clear H1
      obtain rfl := yG H
      try go_wp2
      replace HB := zA (zF HB.out)
      have p162 : 0 ≤ (x3_1 : Int) := yF apB
      have q162 : x3_1 < (l0.length : Int) := yF apB
      obtain ⟨ad162, e162, hx162_0⟩ := Kd.at_string HR0.out x3_1 p162 q162
      have hw162_0 := hx162_0
      cases e162
      replace hx162_0 := (HB.out.cell (zR w _ hx162_0)).trans hx162_0
      replace p162 := eq_true p162
      replace q162 := eq_true q162
      refine start_ (n := 22) (S := fun w' => w'.cell? (ad162.add (x3_1).toNat) = some (.string (rdOf ByteArray.empty l0 x3_1))) (ds := []) #[false, false, false, false, false, false, false, false, false, false, false, false, false, false, false, false, false, false, false, false, false, false] (by kernel_rfl) rfl rfl (((HB.out.cell (zR w _ hw162_0)).trans hw162_0)) (fun hHeld => ?_); refine with_tabW spec_l7Names.tab4 spec_l7Names.bits4 (fun HT_ HW_ => ?_)
      generalize wr.drew = w17 at HB hx162_0 hHeld ⊢
      refine pure_ (i := 0) (N := some 10) (v := ?_) (a' := ?_) #[true, false, false, false, false, false, false, false, false, false, false, false, false, false, false, false, false, false, false, false, false, false] rfl rfl (any_of HT_.out (by kernel_rfl)) (fun _ _ _ h => h) (Or.inl ⟨by rfl, ?_⟩) ?_ ?_
      rotate_left
      ·intro w'
       go_simp
       with_reducible rfl
      rotate_left
      ·simp only [Act.put, zK, zL, zM, i64_w, i32_w]
       rfl
      refine pure_ (i := 1) (N := some 11) (v := ?_) (a' := ?_) #[true, true, false, false, false, false, false, false, false, false, false, false, false, false, false, false, false, false, false, false, false, false] rfl rfl (any_of HT_.out (by kernel_rfl)) (fun _ _ _ h => h) (Or.inl ⟨by rfl, ?_⟩) ?_ ?_
      rotate_left
      ·intro w'
       go_simp
       with_reducible rfl
      rotate_left
      ·simp only [Act.put, zK, zL, zM, i64_w, i32_w]
       rfl
      refine pure_ (i := 2) (N := some 12) (v := ?_) (a' := ?_) #[true, true, true, false, false, false, false, false, false, false, false, false, false, false, false, false, false, false, false, false, false, false] rfl rfl (any_of HT_.out (by kernel_rfl)) (fun _ _ _ h => h) (Or.inl ⟨by rfl, ?_⟩) ?_ ?_
      rotate_left
      ·intro w'
       go_simp
       with_reducible rfl
      rotate_left
      ·simp only [Act.put, zK, zL, zM, i64_w, i32_w]
       rfl
      refine take_ (i := 3) (N := some 13) (v := ?_) (a' := ?_) #[true, true, true, true, false, false, false, false, false, false, false, false, false, false, false, false, false, false, false, false, false, false] rfl rfl (take_ofW HT_.out HW_.out (by kernel_rfl)) (fun _ _ _ h => h) (Or.inl ⟨by rfl, ?_⟩) hHeld ?_ ?_
      rotate_left
      ·intro w' s0
       go_simp
       with_reducible rfl
      rotate_left
      ·simp only [Act.put, zK, zL, zM, i64_w, i32_w]
       rfl
      refine one_ (i := 4) (N := some 14) #[true, true, true, true, true, false, false, false, false, false, false, false, false, false, false, false, false, false, false, false, false, false] rfl rfl (one_of HT_.out (by kernel_rfl)) (by decide) (fun K hK => ?_)
      refine goes_ Tryd.func56 (by kernel_rfl) rfl #[.string (rdOf ByteArray.empty l0 x3_1)] (by rfl) rfl rfl apE ?_
      with_reducible refine (spec_NameOk.calls k1 (rdOf ByteArray.empty l0 x3_1) false _ A4.out).mono ?_
      rintro e w18 ⟨rfl, hb⟩
      refine ⟨_, rfl, ?_⟩
      replace HB := zA (zP apA hb)
      (try clear hb)
      (try clear hb2)
      (try clear hk)
      (try clear hi)
      refine hK.out _ _ (((HB.out.cell (zR w _ hw162_0)).trans hw162_0)) (fun hHeld => ?_)
      clear hK K
      refine norm_ (a' := ?_) ?_ ?_
      rotate_left
      ·show Act.put _ (some 14) _ = _
       simp only [Act.put, zK, zL, zM, i64_w, i32_w]
       rfl
      refine pure_ (i := 5) (N := some 15) (v := ?_) (a' := ?_) #[true, true, true, true, true, true, false, false, false, false, false, false, false, false, false, false, false, false, false, false, false, false] rfl rfl (any_of HT_.out (by kernel_rfl)) (fun _ _ _ h => h) (Or.inl ⟨by rfl, ?_⟩) ?_ ?_
      rotate_left
      ·intro w'
       go_simp
       with_reducible rfl
      rotate_left
      ·simp only [Act.put, zK, zL, zM, i64_w, i32_w]
       rfl
      refine pure_ (i := 6) (N := some 16) (v := ?_) (a' := ?_) #[true, true, true, true, true, true, true, false, false, false, false, false, false, false, false, false, false, false, false, false, false, false] rfl rfl (any_of HT_.out (by kernel_rfl)) (fun _ _ _ h => h) (Or.inl ⟨by rfl, ?_⟩) ?_ ?_
      rotate_left
      ·intro w'
       go_simp
       with_reducible rfl
      rotate_left
      ·simp only [Act.put, zK, zL, zM, i64_w, i32_w]
       rfl
      refine pure_ (i := 7) (N := some 17) (v := undef) (a' := ?_) #[true, true, true, true, true, true, true, true, false, false, false, false, false, false, false, false, false, false, false, false, false, false] rfl rfl (any_of HT_.out (by kernel_rfl)) (fun _ _ _ h => h) (Or.inr ⟨by rfl, rfl⟩) ?_ ?_
      rotate_left
      ·simp only [Act.put, zK, zL, zM, i64_w, i32_w]
       rfl
      refine pure_ (i := 8) (N := some 18) (v := undef) (a' := ?_) #[true, true, true, true, true, true, true, true, true, false, false, false, false, false, false, false, false, false, false, false, false, false] rfl rfl (any_of HT_.out (by kernel_rfl)) (fun _ _ _ h => h) (Or.inr ⟨by rfl, rfl⟩) ?_ ?_
      rotate_left
      ·simp only [Act.put, zK, zL, zM, i64_w, i32_w]
       rfl
      refine pure_ (i := 9) (N := some 19) (v := undef) (a' := ?_) #[true, true, true, true, true, true, true, true, true, true, false, false, false, false, false, false, false, false, false, false, false, false] rfl rfl (any_of HT_.out (by kernel_rfl)) (fun _ _ _ h => h) (Or.inr ⟨by rfl, rfl⟩) ?_ ?_
      rotate_left
      ·simp only [Act.put, zK, zL, zM, i64_w, i32_w]
       rfl
      refine pure_ (i := 10) (N := some 20) (v := undef) (a' := ?_) #[true, true, true, true, true, true, true, true, true, true, true, false, false, false, false, false, false, false, false, false, false, false] rfl rfl (any_of HT_.out (by kernel_rfl)) (fun _ _ _ h => h) (Or.inr ⟨by rfl, rfl⟩) ?_ ?_
      rotate_left
      ·simp only [Act.put, zK, zL, zM, i64_w, i32_w]
       rfl
      refine pure_ (i := 11) (N := some 21) (v := undef) (a' := ?_) #[true, true, true, true, true, true, true, true, true, true, true, true, false, false, false, false, false, false, false, false, false, false] rfl rfl (any_of HT_.out (by kernel_rfl)) (fun _ _ _ h => h) (Or.inr ⟨by rfl, rfl⟩) ?_ ?_
      rotate_left
      ·simp only [Act.put, zK, zL, zM, i64_w, i32_w]
       rfl
      refine pure_ (i := 12) (N := some 22) (v := undef) (a' := ?_) #[true, true, true, true, true, true, true, true, true, true, true, true, true, false, false, false, false, false, false, false, false, false] rfl rfl (any_of HT_.out (by kernel_rfl)) (fun _ _ _ h => h) (Or.inr ⟨by rfl, rfl⟩) ?_ ?_
      rotate_left
      ·simp only [Act.put, zK, zL, zM, i64_w, i32_w]
       rfl
      refine pure_ (i := 13) (N := some 23) (v := undef) (a' := ?_) #[true, true, true, true, true, true, true, true, true, true, true, true, true, true, false, false, false, false, false, false, false, false] rfl rfl (any_of HT_.out (by kernel_rfl)) (fun _ _ _ h => h) (Or.inr ⟨by rfl, rfl⟩) ?_ ?_
      rotate_left
      ·simp only [Act.put, zK, zL, zM, i64_w, i32_w]
       rfl
      refine pure_ (i := 14) (N := some 24) (v := undef) (a' := ?_) #[true, true, true, true, true, true, true, true, true, true, true, true, true, true, true, false, false, false, false, false, false, false] rfl rfl (any_of HT_.out (by kernel_rfl)) (fun _ _ _ h => h) (Or.inr ⟨by rfl, rfl⟩) ?_ ?_
      rotate_left
      ·simp only [Act.put, zK, zL, zM, i64_w, i32_w]
       rfl
      refine pure_ (i := 15) (N := some 25) (v := undef) (a' := ?_) #[true, true, true, true, true, true, true, true, true, true, true, true, true, true, true, true, false, false, false, false, false, false] rfl rfl (any_of HT_.out (by kernel_rfl)) (fun _ _ _ h => h) (Or.inr ⟨by rfl, rfl⟩) ?_ ?_
      rotate_left
      ·simp only [Act.put, zK, zL, zM, i64_w, i32_w]
       rfl
      refine pure_ (i := 16) (N := some 26) (v := undef) (a' := ?_) #[true, true, true, true, true, true, true, true, true, true, true, true, true, true, true, true, true, false, false, false, false, false] rfl rfl (any_of HT_.out (by kernel_rfl)) (fun _ _ _ h => h) (Or.inr ⟨by rfl, rfl⟩) ?_ ?_
      rotate_left
      ·simp only [Act.put, zK, zL, zM, i64_w, i32_w]
       rfl
      refine pure_ (i := 17) (N := some 27) (v := undef) (a' := ?_) #[true, true, true, true, true, true, true, true, true, true, true, true, true, true, true, true, true, true, false, false, false, false] rfl rfl (any_of HT_.out (by kernel_rfl)) (fun _ _ _ h => h) (Or.inr ⟨by rfl, rfl⟩) ?_ ?_
      rotate_left
      ·simp only [Act.put, zK, zL, zM, i64_w, i32_w]
       rfl
      refine pure_ (i := 18) (N := some 28) (v := undef) (a' := ?_) #[true, true, true, true, true, true, true, true, true, true, true, true, true, true, true, true, true, true, true, false, false, false] rfl rfl (any_of HT_.out (by kernel_rfl)) (fun _ _ _ h => h) (Or.inr ⟨by rfl, rfl⟩) ?_ ?_
      rotate_left
      ·simp only [Act.put, zK, zL, zM, i64_w, i32_w]
       rfl
      refine pure_ (i := 19) (N := some 29) (v := undef) (a' := ?_) #[true, true, true, true, true, true, true, true, true, true, true, true, true, true, true, true, true, true, true, true, false, false] rfl rfl (any_of HT_.out (by kernel_rfl)) (fun _ _ _ h => h) (Or.inr ⟨by rfl, rfl⟩) ?_ ?_
      rotate_left
      ·simp only [Act.put, zK, zL, zM, i64_w, i32_w]
       rfl
      refine pure_ (i := 20) (N := some 30) (v := undef) (a' := ?_) #[true, true, true, true, true, true, true, true, true, true, true, true, true, true, true, true, true, true, true, true, true, false] rfl rfl (any_of HT_.out (by kernel_rfl)) (fun _ _ _ h => h) (Or.inr ⟨by rfl, rfl⟩) ?_ ?_
      rotate_left
      ·simp only [Act.put, zK, zL, zM, i64_w, i32_w]
       rfl
      refine pure_ (i := 21) (N := some 31) (v := ?_) (a' := ?_) #[true, true, true, true, true, true, true, true, true, true, true, true, true, true, true, true, true, true, true, true, true, true] rfl rfl (any_of HT_.out (by kernel_rfl)) (fun _ _ _ h => h) (Or.inl ⟨by rfl, ?_⟩) ?_ ?_
      rotate_left
      ·intro w'
       go_simp
       with_reducible rfl
      rotate_left
      ·simp only [Act.put, zK, zL, zM, i64_w, i32_w]
       rfl
      refine done_ (done_of HT_.out (by kernel_rfl)) ?_
      try go_wp2
      go_ret
      exact ⟨apD, apA⟩
    ·rw [if_neg c3] at H
     exact absurd H (by simp)
   ·rw [if_neg c2] at H
    have c2b0 : decide (x3_1 < (l0.length : Int)) = false := decide_eq_false c2
    clear c2
    obtain rfl := yG H
    go_wp2
    go_ret
    exact ⟨apD, apA⟩


theorem eqA31 (d : Nat) (w : World) (x0 y0 : Int) (x1 y1 : Int) :
  (Op.equalIn (d + 2) 31 (.agg #[.int .i64 x0, .int .i64 x1]) (.agg #[.int .i64 y0, .int .i64 y1])).run Tryd.prog w = .ok (x0 == y0 && (x1 == y1)) w := by
 refine eqA_of Tryd.underlying31 (by kernel_rfl) ?_
 refine eqf_cons (by rfl) (by go_simp; rfl) (by go_simp; rfl) (by go_simp) ?_
 exact eqf_last (by rfl) (by go_simp; rfl) (by go_simp; rfl) (by go_simp)
end Go.Proofs.YthaceblepbkjjaaDoor.Q

namespace Go.Proofs.YthaceblepbkjjaaDoor.Q
open Go.RowKit Go.Proofs.YthaceblepbkjjaaDoorW.PrintWords Go.Proofs.YthaceblepbkjjaaDoorW.PrintLast Go.Proofs.YthaceblepbkjjaaDoorW.PrintMore Go.Proofs.YthaceblepbkjjaaDoorX
attribute [local go_sem] max2_int min2_int max_two min_two max_three min_three max_four min_four   -- for this text's walks alone
set_option linter.unusedVariables false
set_option linter.unusedSimpArgs false

attribute [local go_sem high] eqA31
def spec_l7One.j0 : Nat → Int → Bool → Int → Int → Int → ByteArray → List (S34) → List ByteArray → Option (Bool)
 | 0, _, _, _, _, _, _, _, _ => none
 | k + 1, x4, x5, x167000, x167001, x167002, x167003, x167004, x167005 => if x5 = true then (if (x167001 == 0 && (x167002 == 0)) = true then (if x167003.toList = ([] : List UInt8) then (if (x167004.length : Int) = 0 then (some ((x167005.length : Int) == 0)) else (some false)) else (some false)) else (some false)) else (if x4 = 3 then ((spec_DecOk.f x167001 x167002).bind fun t167 => (if t167 = true then (if x167003.toList = ([] : List UInt8) then (if (x167004.length : Int) = 0 then (some ((x167005.length : Int) == 0)) else (some false)) else (some false)) else (some false))) else (if x4 = 4 then (if (x167001 == 0 && (x167002 == 0)) = true then (if (x167003.size : Int) ≤ 1500 then (if (x167004.length : Int) = 0 then (some ((x167005.length : Int) == 0)) else (some false)) else (some false)) else (some false)) else (if x4 = 5 then (if (x167001 == 0 && (x167002 == 0)) = true then (if x167003.toList = ([] : List UInt8) then (some ((x167005.length : Int) == 0)) else (some false)) else (some false)) else (if x4 = 6 then (if (x167001 == 0 && (x167002 == 0)) = true then (if x167003.toList = ([] : List UInt8) then (if (x167005.length : Int) = (x167004.length : Int) then ((spec_l7Names.f k x167005).bind fun t168 => (some t168)) else (some false)) else (some false)) else (some false)) else (some false)))))
def spec_l7One.f (k : Nat) (a0_0 : Int) (a0_1 : Int) (a0_2 : Int) (a0_3 : ByteArray) (l0_4 : List (S34)) (l0_5 : List ByteArray) : Option (Bool) := if a0_0 = 0 then (spec_l7One.j0 k a0_0 (a0_0 == 0) a0_0 a0_1 a0_2 a0_3 l0_4 l0_5) else (if a0_0 = 1 then (spec_l7One.j0 k a0_0 (a0_0 == 1) a0_0 a0_1 a0_2 a0_3 l0_4 l0_5) else (spec_l7One.j0 k a0_0 (a0_0 == 2) a0_0 a0_1 a0_2 a0_3 l0_4 l0_5))
theorem spec_l7One.mono_l : ∀ k, (∀ y0 y1 y2 y3 y4 y5 y6 y7, LeO (spec_l7One.j0 k y0 y1 y2 y3 y4 y5 y6 y7) (spec_l7One.j0 (k + 1) y0 y1 y2 y3 y4 y5 y6 y7))
 | 0 => fun _ _ _ _ _ _ _ _ r h => by simp [spec_l7One.j0] at h
 | k + 1 => by
  have ih0 := spec_l7One.mono_l k
  ·intro y0 y1 y2 y3 y4 y5 y6 y7
   unfold spec_l7One.j0
   repeat' first
   | (with_reducible exact ih0 _ _ _ _ _ _ _ _)
   | (with_reducible exact spec_l7Names.mono _ _)
   | (with_reducible exact LeO.refl _)
   | (with_reducible exact LeO.none _)
   | (with_reducible refine LeO.ite ?_ ?_)
   | (with_reducible refine LeO.bind ?_ (fun _ => ?_))
   | exact ih0 _ _ _ _ _ _ _ _
theorem spec_l7One.mono : ∀ a0 a1 a2 a3 a4 a5 k, LeO (spec_l7One.f k a0 a1 a2 a3 a4 a5) (spec_l7One.f (k + 1) a0 a1 a2 a3 a4 a5) := by
 intro a0 a1 a2 a3 a4 a5 k
 have ih0 := spec_l7One.mono_l k
 unfold spec_l7One.f
 repeat' first
   | (with_reducible exact ih0 _ _ _ _ _ _ _ _)
   | (with_reducible exact spec_l7Names.mono _ _)
   | (with_reducible exact LeO.refl _)
   | (with_reducible exact LeO.none _)
   | (with_reducible refine LeO.ite ?_ ?_)
   | (with_reducible refine LeO.bind ?_ (fun _ => ?_))
   | exact ih0 _ _ _ _ _ _ _ _
set_option maxHeartbeats 8000000 in
set_option maxRecDepth 100000 in
theorem spec_l7One.calls (k : Nat) (a0_0 : Int) (a0_1 : Int) (a0_2 : Int) (a0_3 : ByteArray) (A0_4 : Option Addr) (c0_4 : Nat) (l0_4 : List (S34)) (A0_5 : Option Addr) (c0_5 : Nat) (l0_5 : List ByteArray) (r : Bool) (w : World) (hr0_4 : Kd.C k34 w A0_4 l0_4.length l0_4) (hc0_4 : l0_4.length ≤ c0_4) (hr0_5 : Kd.C Kd.string w A0_5 l0_5.length l0_5) (hc0_5 : l0_5.length ≤ c0_5) (h : spec_l7One.f k a0_0 a0_1 a0_2 a0_3 l0_4 l0_5 = some r) :
  Calls Tryd.prog 33 #[.agg #[.int .i64 a0_0, .int .i64 a0_1, .int .i64 a0_2, .string a0_3, .slice A0_4 l0_4.length c0_4, .slice A0_5 l0_5.length c0_5]] w fun e w' => e = .returned (.bool r) ∧ Below w.heap.size w w' := by
 have hu34 := Tryd.underlying34
 have hu31 := Tryd.underlying31
 have HR0_4 := zA hr0_4
 have HC0_4 := zA hc0_4
 clear hr0_4 hc0_4
 have HR0_5 := zA hr0_5
 have HC0_5 := zA hc0_5
 clear hr0_5 hc0_5
 have HB := zA (yH w.heap.size w)
 have H : (if a0_0 = 0 then (spec_l7One.j0 k a0_0 (a0_0 == 0) a0_0 a0_1 a0_2 a0_3 l0_4 l0_5) else (if a0_0 = 1 then (spec_l7One.j0 k a0_0 (a0_0 == 1) a0_0 a0_1 a0_2 a0_3 l0_4 l0_5) else (spec_l7One.j0 k a0_0 (a0_0 == 2) a0_0 a0_1 a0_2 a0_3 l0_4 l0_5))) = some r := h
 clear h
 have HC2 := zA H
 clear H
 go_enter Tryd.func33, Tryd.ntmps33
 go_upto_if 5 with (first | ((with_reducible refine zS (N := 1) rfl ?_); (try (refine gate_guard (by rfl) ?_; dsimp only)); refine zW ?hg (N := 1) ?hd (cs := #[.int .i64 a0_0, .int .i64 a0_1, .int .i64 a0_2, .string a0_3, .slice A0_4 l0_4.length c0_4, .slice A0_5 l0_5.length c0_5]) (t := 34) ?hr ?_; (case hd => rfl); (case hg => rfl); (case hr => first | (go_simp; done) | (go_simp; rfl)); intro gb166 hg w3 hbox hb; have BK166 := zA (hbox); have GW166 := zA ((by rw [hg]; exact (zQ apA) : w.heap.size ≤ gb166)); have GE166 := zA ((by rw [hg]; exact (zQ apA) : w.heap.size ≤ gb166)); replace HB := zA (zP apA hb); clear hb hbox hg; obtain ⟨hcz4_0, hcz4_1, hcz4_2, hcz4_3, hcz4_4, hcz4_5, hfz4_0, hfz4_1, hfz4_2, hfz4_3, hfz4_4, hfz4_5⟩ := zb6 BK166.out))
 (try simp only [Act.put, zK, zL, zM])
 go_cut [5] (fun v5 wc => ∃ (kq : Nat) (x5_1 : Bool), v5 = .bool x5_1 ∧ Aside0 (spec_l7One.j0 kq a0_0 x5_1 a0_0 a0_1 a0_2 a0_3 l0_4 l0_5 = some r) ∧ Aside0 (kq ≤ k) ∧ Aside0 (wc.heap[gb166]? = some (.cells #[.int .i64 a0_0, .int .i64 a0_1, .int .i64 a0_2, .string a0_3, (.slice A0_4 l0_4.length c0_4), (.slice A0_5 l0_5.length c0_5)] 34 (0, 0))) ∧ Aside0 (Below w.heap.size w wc))
 case first =>
  have H := HC2.out
  clear HC2
  by_cases c5 : a0_0 = 0
  ·rw [if_pos c5] at H
   have c5b0 : (a0_0 == 0) = true := beq_iff_eq.mpr c5
   have c5b1 : (a0_0 != 0) = false := bne_eq_false_iff_eq.mpr c5
   clear c5
   (first | rw [c5b0] | (simp only [i64_w, i32_w]; rw [c5b0]) | skip)
   have H' := zA H
   clear H
   go_wp2
   go_meet
   case rel => exact ⟨_, ((a0_0 == 0)), apC, H', ⟨by first | omega | exact yJ _⟩, ⟨by (with_reducible repeat (first | refine zB ?_ _ | refine zD ?_ | refine zC ?_ _)); exact BK166.out⟩, ⟨apK⟩⟩
  ·rw [if_neg c5] at H
   have c5b0 : (a0_0 == 0) = false := beq_eq_false_iff_ne.mpr c5
   have c5b1 : (a0_0 != 0) = true := bne_iff_ne.mpr c5
   (first | rw [c5b0] | (simp only [i64_w, i32_w]; rw [c5b0]) | skip)
   by_cases c6 : a0_0 = 1
   ·rw [if_pos c6] at H
    have c6b0 : (a0_0 == 1) = true := beq_iff_eq.mpr c6
    have c6b1 : (a0_0 != 1) = false := bne_eq_false_iff_eq.mpr c6
    clear c6
    have H' := zA H
    clear H
    go_wp2
    go_meet
    case rel => exact ⟨_, ((a0_0 == 1)), apC, H', ⟨by first | omega | exact yJ _⟩, ⟨by (with_reducible repeat (first | refine zB ?_ _ | refine zD ?_ | refine zC ?_ _)); exact BK166.out⟩, ⟨apK⟩⟩
   ·rw [if_neg c6] at H
    have c6b0 : (a0_0 == 1) = false := beq_eq_false_iff_ne.mpr c6
    have c6b1 : (a0_0 != 1) = true := bne_iff_ne.mpr c6
    have H' := zA H
    clear H
    go_wp2
    go_meet
    case rel => exact ⟨_, ((a0_0 == 2)), apC, H', ⟨by first | omega | exact yJ _⟩, ⟨by (with_reducible repeat (first | refine zB ?_ _ | refine zD ?_ | refine zC ?_ _)); exact BK166.out⟩, ⟨apK⟩⟩
 case rest =>
  clear HC2
  try clear p2 c3 c5 c5b0 c5b1 c6 c6b0 c6b1 hcz4_0 hcz4_1 hcz4_2 hcz4_3 hcz4_4 hcz4_5 hfz4_0 hfz4_1 hfz4_2 hfz4_3 hfz4_4 hfz4_5
  obtain ⟨kq, x5_1, rfl, HA, HJ1, BK166, HB⟩ := hcut
  cases kq with
  | zero => exact absurd HA.out (by simp [spec_l7One.j0])
  | succ kj1 =>
   have H := HA.out
   clear HA
   simp only [spec_l7One.j0] at H
   by_cases c7 : x5_1 = true
   ·subst c7
    have H1 := H; rw [if_pos rfl] at H1
    clear H
    have H := H1
    clear H1
    by_cases c8 : (a0_1 == 0 && (a0_2 == 0)) = true
    ·rw [if_pos c8] at H
     have c8b0 : (a0_1 == 0 && (a0_2 == 0)) = true := c8
     (try (have c8b1 : decide (a0_1 = 0 && (a0_2 == 0)) = true := by simpa using c8))
     (try (have c8b2 : (a0_1 == 0 && (a0_2 == 0)) = true := by simpa using c8))
     clear c8
     by_cases c9 : a0_3.toList = ([] : List UInt8)
     ·rw [if_pos c9] at H
      have c9b0 : (a0_3.toList == ([] : List UInt8)) = true := beq_iff_eq.mpr c9
      have c9b1 : (a0_3.toList != ([] : List UInt8)) = false := bne_eq_false_iff_eq.mpr c9
      clear c9
      by_cases c10 : (l0_4.length : Int) = 0
      ·rw [if_pos c10] at H
       have c10b0 : ((l0_4.length : Int) == 0) = true := beq_iff_eq.mpr c10
       have c10b1 : ((l0_4.length : Int) != 0) = false := bne_eq_false_iff_eq.mpr c10
       clear c10
       obtain rfl := yG H
       obtain ⟨hcz11_0, hcz11_1, hcz11_2, hcz11_3, hcz11_4, hcz11_5, hfz11_0, hfz11_1, hfz11_2, hfz11_3, hfz11_4, hfz11_5⟩ := zb6 BK166.out
       go_wp2
       go_ret
       exact ⟨apD, apK⟩
      ·rw [if_neg c10] at H
       have c10b0 : ((l0_4.length : Int) == 0) = false := beq_eq_false_iff_ne.mpr c10
       have c10b1 : ((l0_4.length : Int) != 0) = true := bne_iff_ne.mpr c10
       have c10b2 : ¬ (l0_4 = []) := fun h_ => c10 (by rw [h_]; rfl)
       obtain rfl := yG H
       obtain ⟨hcz12_0, hcz12_1, hcz12_2, hcz12_3, hcz12_4, hcz12_5, hfz12_0, hfz12_1, hfz12_2, hfz12_3, hfz12_4, hfz12_5⟩ := zb6 BK166.out
       go_wp2
       go_ret
       exact ⟨apD, apK⟩
     ·rw [if_neg c9] at H
      have c9b0 : (a0_3.toList == ([] : List UInt8)) = false := beq_eq_false_iff_ne.mpr c9
      have c9b1 : (a0_3.toList != ([] : List UInt8)) = true := bne_iff_ne.mpr c9
      obtain rfl := yG H
      obtain ⟨hcz13_0, hcz13_1, hcz13_2, hcz13_3, hcz13_4, hcz13_5, hfz13_0, hfz13_1, hfz13_2, hfz13_3, hfz13_4, hfz13_5⟩ := zb6 BK166.out
      go_wp2
      go_ret
      exact ⟨apD, apK⟩
    ·rw [if_neg c8] at H
     have c8b0 : (a0_1 == 0 && (a0_2 == 0)) = false := by simpa using c8
     (try (have c8b1 : decide (a0_1 = 0 && (a0_2 == 0)) = false := by simpa using c8))
     (try (have c8b2 : (a0_1 == 0 && (a0_2 == 0)) = false := by simpa using c8))
     (try (have c8b3 : ¬ (a0_1 = 0 && (a0_2 == 0)) := by simpa using c8))
     clear c8
     obtain rfl := yG H
     obtain ⟨hcz14_0, hcz14_1, hcz14_2, hcz14_3, hcz14_4, hcz14_5, hfz14_0, hfz14_1, hfz14_2, hfz14_3, hfz14_4, hfz14_5⟩ := zb6 BK166.out
     go_wp2
     go_ret
     exact ⟨apD, apK⟩
   ·replace c7 := Bool.eq_false_iff.mpr c7
    subst c7
    have H1 := H; rw [if_neg (show ¬ (false = true) by decide)] at H1
    clear H
    have H := H1
    clear H1
    by_cases c15 : a0_0 = 3
    ·rw [if_pos c15] at H
     have c15b0 : (a0_0 == 3) = true := beq_iff_eq.mpr c15
     have c15b1 : (a0_0 != 3) = false := bne_eq_false_iff_eq.mpr c15
     clear c15
     replace H := Option.bind_eq_some_iff.mp H
     obtain ⟨t167, A160, H⟩ := H
     have A16 := zA A160
     clear A160
     by_cases c17 : t167 = true
     ·subst c17
      have H1 := H; rw [if_pos rfl] at H1
      clear H
      have H := H1
      clear H1
      by_cases c18 : a0_3.toList = ([] : List UInt8)
      ·rw [if_pos c18] at H
       have c18b0 : (a0_3.toList == ([] : List UInt8)) = true := beq_iff_eq.mpr c18
       have c18b1 : (a0_3.toList != ([] : List UInt8)) = false := bne_eq_false_iff_eq.mpr c18
       clear c18
       by_cases c19 : (l0_4.length : Int) = 0
       ·rw [if_pos c19] at H
        have c19b0 : ((l0_4.length : Int) == 0) = true := beq_iff_eq.mpr c19
        have c19b1 : ((l0_4.length : Int) != 0) = false := bne_eq_false_iff_eq.mpr c19
        clear c19
        obtain rfl := yG H
        obtain ⟨hcz20_0, hcz20_1, hcz20_2, hcz20_3, hcz20_4, hcz20_5, hfz20_0, hfz20_1, hfz20_2, hfz20_3, hfz20_4, hfz20_5⟩ := zb6 BK166.out
        go_wp2_with (first | ((with_reducible refine zT (f := 42) rfl ?_); refine goesL_ (some 34) rfl rfl Tryd.func42 (by kernel_rfl) rfl #[.agg #[.int .i64 a0_1, .int .i64 a0_2]] rfl apE ?_; (with_reducible refine (spec_DecOk.calls a0_1 a0_2 true _ A16.out).mono ?_); rintro e w21 ⟨rfl, hb⟩; refine ⟨_, rfl, ?_⟩; replace BK166 := zA (zN (g := gb166) (o := .cells #[.int .i64 a0_0, .int .i64 a0_1, .int .i64 a0_2, .string a0_3, .slice A0_4 l0_4.length c0_4, .slice A0_5 l0_5.length c0_5] 34 (0, 0)) (by (with_reducible repeat (first | refine zB ?_ _ | refine zD ?_ | refine zC ?_ _)); exact BK166.out) hb); replace HB := zA (zP apK hb); (try clear hb); (try clear hb2); (try clear hk); (try clear hi); obtain ⟨hcz22_0, hcz22_1, hcz22_2, hcz22_3, hcz22_4, hcz22_5, hfz22_0, hfz22_1, hfz22_2, hfz22_3, hfz22_4, hfz22_5⟩ := zb6 BK166.out))
        go_ret
        exact ⟨apD, apK⟩
       ·rw [if_neg c19] at H
        have c19b0 : ((l0_4.length : Int) == 0) = false := beq_eq_false_iff_ne.mpr c19
        have c19b1 : ((l0_4.length : Int) != 0) = true := bne_iff_ne.mpr c19
        have c19b2 : ¬ (l0_4 = []) := fun h_ => c19 (by rw [h_]; rfl)
        obtain rfl := yG H
        obtain ⟨hcz23_0, hcz23_1, hcz23_2, hcz23_3, hcz23_4, hcz23_5, hfz23_0, hfz23_1, hfz23_2, hfz23_3, hfz23_4, hfz23_5⟩ := zb6 BK166.out
        go_wp2_with (first | ((with_reducible refine zT (f := 42) rfl ?_); refine goesL_ (some 34) rfl rfl Tryd.func42 (by kernel_rfl) rfl #[.agg #[.int .i64 a0_1, .int .i64 a0_2]] rfl apE ?_; (with_reducible refine (spec_DecOk.calls a0_1 a0_2 true _ A16.out).mono ?_); rintro e w24 ⟨rfl, hb⟩; refine ⟨_, rfl, ?_⟩; replace BK166 := zA (zN (g := gb166) (o := .cells #[.int .i64 a0_0, .int .i64 a0_1, .int .i64 a0_2, .string a0_3, .slice A0_4 l0_4.length c0_4, .slice A0_5 l0_5.length c0_5] 34 (0, 0)) (by (with_reducible repeat (first | refine zB ?_ _ | refine zD ?_ | refine zC ?_ _)); exact BK166.out) hb); replace HB := zA (zP apK hb); (try clear hb); (try clear hb2); (try clear hk); (try clear hi); obtain ⟨hcz25_0, hcz25_1, hcz25_2, hcz25_3, hcz25_4, hcz25_5, hfz25_0, hfz25_1, hfz25_2, hfz25_3, hfz25_4, hfz25_5⟩ := zb6 BK166.out))
        go_ret
        exact ⟨apD, apK⟩
      ·rw [if_neg c18] at H
       have c18b0 : (a0_3.toList == ([] : List UInt8)) = false := beq_eq_false_iff_ne.mpr c18
       have c18b1 : (a0_3.toList != ([] : List UInt8)) = true := bne_iff_ne.mpr c18
       obtain rfl := yG H
       obtain ⟨hcz26_0, hcz26_1, hcz26_2, hcz26_3, hcz26_4, hcz26_5, hfz26_0, hfz26_1, hfz26_2, hfz26_3, hfz26_4, hfz26_5⟩ := zb6 BK166.out
       go_wp2_with (first | ((with_reducible refine zT (f := 42) rfl ?_); refine goesL_ (some 34) rfl rfl Tryd.func42 (by kernel_rfl) rfl #[.agg #[.int .i64 a0_1, .int .i64 a0_2]] rfl apE ?_; (with_reducible refine (spec_DecOk.calls a0_1 a0_2 true _ A16.out).mono ?_); rintro e w27 ⟨rfl, hb⟩; refine ⟨_, rfl, ?_⟩; replace BK166 := zA (zN (g := gb166) (o := .cells #[.int .i64 a0_0, .int .i64 a0_1, .int .i64 a0_2, .string a0_3, .slice A0_4 l0_4.length c0_4, .slice A0_5 l0_5.length c0_5] 34 (0, 0)) (by (with_reducible repeat (first | refine zB ?_ _ | refine zD ?_ | refine zC ?_ _)); exact BK166.out) hb); replace HB := zA (zP apK hb); (try clear hb); (try clear hb2); (try clear hk); (try clear hi); obtain ⟨hcz28_0, hcz28_1, hcz28_2, hcz28_3, hcz28_4, hcz28_5, hfz28_0, hfz28_1, hfz28_2, hfz28_3, hfz28_4, hfz28_5⟩ := zb6 BK166.out))
       go_ret
       exact ⟨apD, apK⟩
     ·replace c17 := Bool.eq_false_iff.mpr c17
      subst c17
      have H1 := H; rw [if_neg (show ¬ (false = true) by decide)] at H1
      clear H
      have H := H1
      clear H1
      obtain rfl := yG H
      obtain ⟨hcz29_0, hcz29_1, hcz29_2, hcz29_3, hcz29_4, hcz29_5, hfz29_0, hfz29_1, hfz29_2, hfz29_3, hfz29_4, hfz29_5⟩ := zb6 BK166.out
      go_wp2_with (first | ((with_reducible refine zT (f := 42) rfl ?_); refine goesL_ (some 34) rfl rfl Tryd.func42 (by kernel_rfl) rfl #[.agg #[.int .i64 a0_1, .int .i64 a0_2]] rfl apE ?_; (with_reducible refine (spec_DecOk.calls a0_1 a0_2 false _ A16.out).mono ?_); rintro e w30 ⟨rfl, hb⟩; refine ⟨_, rfl, ?_⟩; replace HB := zA (zP apA hb); (try clear hb); (try clear hb2); (try clear hk); (try clear hi)))
      go_ret
      exact ⟨apD, apA⟩
    ·rw [if_neg c15] at H
     have c15b0 : (a0_0 == 3) = false := beq_eq_false_iff_ne.mpr c15
     have c15b1 : (a0_0 != 3) = true := bne_iff_ne.mpr c15
     by_cases c31 : a0_0 = 4
     ·rw [if_pos c31] at H
      have c31b0 : (a0_0 == 4) = true := beq_iff_eq.mpr c31
      have c31b1 : (a0_0 != 4) = false := bne_eq_false_iff_eq.mpr c31
      clear c31
      by_cases c32 : (a0_1 == 0 && (a0_2 == 0)) = true
      ·rw [if_pos c32] at H
       have c32b0 : (a0_1 == 0 && (a0_2 == 0)) = true := c32
       (try (have c32b1 : decide (a0_1 = 0 && (a0_2 == 0)) = true := by simpa using c32))
       (try (have c32b2 : (a0_1 == 0 && (a0_2 == 0)) = true := by simpa using c32))
       clear c32
       by_cases c33 : (a0_3.size : Int) ≤ 1500
       ·rw [if_pos c33] at H
        have c33b0 : decide ((a0_3.size : Int) ≤ 1500) = true := yE c33
        have c33b1 : decide (a0_3.size ≤ 1500) = true := yE (by omega)
        clear c33
        by_cases c34 : (l0_4.length : Int) = 0
        ·rw [if_pos c34] at H
         have c34b0 : ((l0_4.length : Int) == 0) = true := beq_iff_eq.mpr c34
         have c34b1 : ((l0_4.length : Int) != 0) = false := bne_eq_false_iff_eq.mpr c34
         clear c34
         obtain rfl := yG H
         obtain ⟨hcz35_0, hcz35_1, hcz35_2, hcz35_3, hcz35_4, hcz35_5, hfz35_0, hfz35_1, hfz35_2, hfz35_3, hfz35_4, hfz35_5⟩ := zb6 BK166.out
         go_wp2
         go_ret
         exact ⟨apD, apK⟩
        ·rw [if_neg c34] at H
         have c34b0 : ((l0_4.length : Int) == 0) = false := beq_eq_false_iff_ne.mpr c34
         have c34b1 : ((l0_4.length : Int) != 0) = true := bne_iff_ne.mpr c34
         have c34b2 : ¬ (l0_4 = []) := fun h_ => c34 (by rw [h_]; rfl)
         obtain rfl := yG H
         obtain ⟨hcz36_0, hcz36_1, hcz36_2, hcz36_3, hcz36_4, hcz36_5, hfz36_0, hfz36_1, hfz36_2, hfz36_3, hfz36_4, hfz36_5⟩ := zb6 BK166.out
         go_wp2
         go_ret
         exact ⟨apD, apK⟩
       ·rw [if_neg c33] at H
        have c33b0 : decide ((a0_3.size : Int) ≤ 1500) = false := decide_eq_false c33
        have c33b1 : decide (a0_3.size ≤ 1500) = false := decide_eq_false (by omega)
        clear c33
        obtain rfl := yG H
        obtain ⟨hcz37_0, hcz37_1, hcz37_2, hcz37_3, hcz37_4, hcz37_5, hfz37_0, hfz37_1, hfz37_2, hfz37_3, hfz37_4, hfz37_5⟩ := zb6 BK166.out
        go_wp2
        go_ret
        exact ⟨apD, apK⟩
      ·rw [if_neg c32] at H
       have c32b0 : (a0_1 == 0 && (a0_2 == 0)) = false := by simpa using c32
       (try (have c32b1 : decide (a0_1 = 0 && (a0_2 == 0)) = false := by simpa using c32))
       (try (have c32b2 : (a0_1 == 0 && (a0_2 == 0)) = false := by simpa using c32))
       (try (have c32b3 : ¬ (a0_1 = 0 && (a0_2 == 0)) := by simpa using c32))
       clear c32
       obtain rfl := yG H
       obtain ⟨hcz38_0, hcz38_1, hcz38_2, hcz38_3, hcz38_4, hcz38_5, hfz38_0, hfz38_1, hfz38_2, hfz38_3, hfz38_4, hfz38_5⟩ := zb6 BK166.out
       go_wp2
       go_ret
       exact ⟨apD, apK⟩
     ·rw [if_neg c31] at H
      have c31b0 : (a0_0 == 4) = false := beq_eq_false_iff_ne.mpr c31
      have c31b1 : (a0_0 != 4) = true := bne_iff_ne.mpr c31
      by_cases c39 : a0_0 = 5
      ·rw [if_pos c39] at H
       have c39b0 : (a0_0 == 5) = true := beq_iff_eq.mpr c39
       have c39b1 : (a0_0 != 5) = false := bne_eq_false_iff_eq.mpr c39
       clear c39
       by_cases c40 : (a0_1 == 0 && (a0_2 == 0)) = true
       ·rw [if_pos c40] at H
        have c40b0 : (a0_1 == 0 && (a0_2 == 0)) = true := c40
        (try (have c40b1 : decide (a0_1 = 0 && (a0_2 == 0)) = true := by simpa using c40))
        (try (have c40b2 : (a0_1 == 0 && (a0_2 == 0)) = true := by simpa using c40))
        clear c40
        by_cases c41 : a0_3.toList = ([] : List UInt8)
        ·rw [if_pos c41] at H
         have c41b0 : (a0_3.toList == ([] : List UInt8)) = true := beq_iff_eq.mpr c41
         have c41b1 : (a0_3.toList != ([] : List UInt8)) = false := bne_eq_false_iff_eq.mpr c41
         clear c41
         obtain rfl := yG H
         obtain ⟨hcz42_0, hcz42_1, hcz42_2, hcz42_3, hcz42_4, hcz42_5, hfz42_0, hfz42_1, hfz42_2, hfz42_3, hfz42_4, hfz42_5⟩ := zb6 BK166.out
         go_wp2
         go_ret
         exact ⟨apD, apK⟩
        ·rw [if_neg c41] at H
         have c41b0 : (a0_3.toList == ([] : List UInt8)) = false := beq_eq_false_iff_ne.mpr c41
         have c41b1 : (a0_3.toList != ([] : List UInt8)) = true := bne_iff_ne.mpr c41
         obtain rfl := yG H
         obtain ⟨hcz43_0, hcz43_1, hcz43_2, hcz43_3, hcz43_4, hcz43_5, hfz43_0, hfz43_1, hfz43_2, hfz43_3, hfz43_4, hfz43_5⟩ := zb6 BK166.out
         go_wp2
         go_ret
         exact ⟨apD, apK⟩
       ·rw [if_neg c40] at H
        have c40b0 : (a0_1 == 0 && (a0_2 == 0)) = false := by simpa using c40
        (try (have c40b1 : decide (a0_1 = 0 && (a0_2 == 0)) = false := by simpa using c40))
        (try (have c40b2 : (a0_1 == 0 && (a0_2 == 0)) = false := by simpa using c40))
        (try (have c40b3 : ¬ (a0_1 = 0 && (a0_2 == 0)) := by simpa using c40))
        clear c40
        obtain rfl := yG H
        obtain ⟨hcz44_0, hcz44_1, hcz44_2, hcz44_3, hcz44_4, hcz44_5, hfz44_0, hfz44_1, hfz44_2, hfz44_3, hfz44_4, hfz44_5⟩ := zb6 BK166.out
        go_wp2
        go_ret
        exact ⟨apD, apK⟩
      ·rw [if_neg c39] at H
       have c39b0 : (a0_0 == 5) = false := beq_eq_false_iff_ne.mpr c39
       have c39b1 : (a0_0 != 5) = true := bne_iff_ne.mpr c39
       by_cases c45 : a0_0 = 6
       ·rw [if_pos c45] at H
        have c45b0 : (a0_0 == 6) = true := beq_iff_eq.mpr c45
        have c45b1 : (a0_0 != 6) = false := bne_eq_false_iff_eq.mpr c45
        clear c45
        by_cases c46 : (a0_1 == 0 && (a0_2 == 0)) = true
        ·rw [if_pos c46] at H
         have c46b0 : (a0_1 == 0 && (a0_2 == 0)) = true := c46
         (try (have c46b1 : decide (a0_1 = 0 && (a0_2 == 0)) = true := by simpa using c46))
         (try (have c46b2 : (a0_1 == 0 && (a0_2 == 0)) = true := by simpa using c46))
         clear c46
         by_cases c47 : a0_3.toList = ([] : List UInt8)
         ·rw [if_pos c47] at H
          have c47b0 : (a0_3.toList == ([] : List UInt8)) = true := beq_iff_eq.mpr c47
          have c47b1 : (a0_3.toList != ([] : List UInt8)) = false := bne_eq_false_iff_eq.mpr c47
          clear c47
          by_cases c48 : (l0_5.length : Int) = (l0_4.length : Int)
          ·rw [if_pos c48] at H
           have c48b0 : ((l0_5.length : Int) == (l0_4.length : Int)) = true := beq_iff_eq.mpr c48
           have c48b1 : ((l0_5.length : Int) != (l0_4.length : Int)) = false := bne_eq_false_iff_eq.mpr c48
           have c48b2 : (l0_5.length == l0_4.length) = true := by first | simpa using c48 | (simp at c48 ⊢; omega)
           clear c48
           replace H := Option.bind_eq_some_iff.mp H
           obtain ⟨t168, A490, H⟩ := H
           have A49 := zA A490
           clear A490
           obtain rfl := yG H
           obtain ⟨hcz50_0, hcz50_1, hcz50_2, hcz50_3, hcz50_4, hcz50_5, hfz50_0, hfz50_1, hfz50_2, hfz50_3, hfz50_4, hfz50_5⟩ := zb6 BK166.out
           go_wp2_with (first | (go_at_call 43; (with_reducible refine (spec_l7Names.calls kj1 _ _ l0_5 t168 _ ?side1 ?side2 A49.out).mono ?_); (case side1 => exact vc (Kd.C_below HR0_5.out HB.out)); (case side2 => exact HC0_5.out); rintro e w51 ⟨rfl, hb⟩; replace HB := zA (zP apA hb); (try clear hb); (try clear hb2); (try clear hk); (try clear hi)))
           go_ret
           exact ⟨apD, apA⟩
          ·rw [if_neg c48] at H
           have c48b0 : ((l0_5.length : Int) == (l0_4.length : Int)) = false := beq_eq_false_iff_ne.mpr c48
           have c48b1 : ((l0_5.length : Int) != (l0_4.length : Int)) = true := bne_iff_ne.mpr c48
           have c48b2 : (l0_5.length == l0_4.length) = false := by first | simpa using c48 | (simp at c48 ⊢; omega)
           obtain rfl := yG H
           obtain ⟨hcz52_0, hcz52_1, hcz52_2, hcz52_3, hcz52_4, hcz52_5, hfz52_0, hfz52_1, hfz52_2, hfz52_3, hfz52_4, hfz52_5⟩ := zb6 BK166.out
           go_wp2
           go_ret
           exact ⟨apD, apK⟩
         ·rw [if_neg c47] at H
          have c47b0 : (a0_3.toList == ([] : List UInt8)) = false := beq_eq_false_iff_ne.mpr c47
          have c47b1 : (a0_3.toList != ([] : List UInt8)) = true := bne_iff_ne.mpr c47
          obtain rfl := yG H
          obtain ⟨hcz53_0, hcz53_1, hcz53_2, hcz53_3, hcz53_4, hcz53_5, hfz53_0, hfz53_1, hfz53_2, hfz53_3, hfz53_4, hfz53_5⟩ := zb6 BK166.out
          go_wp2
          go_ret
          exact ⟨apD, apK⟩
        ·rw [if_neg c46] at H
         have c46b0 : (a0_1 == 0 && (a0_2 == 0)) = false := by simpa using c46
         (try (have c46b1 : decide (a0_1 = 0 && (a0_2 == 0)) = false := by simpa using c46))
         (try (have c46b2 : (a0_1 == 0 && (a0_2 == 0)) = false := by simpa using c46))
         (try (have c46b3 : ¬ (a0_1 = 0 && (a0_2 == 0)) := by simpa using c46))
         clear c46
         obtain rfl := yG H
         obtain ⟨hcz54_0, hcz54_1, hcz54_2, hcz54_3, hcz54_4, hcz54_5, hfz54_0, hfz54_1, hfz54_2, hfz54_3, hfz54_4, hfz54_5⟩ := zb6 BK166.out
         go_wp2
         go_ret
         exact ⟨apD, apK⟩
       ·rw [if_neg c45] at H
        have c45b0 : (a0_0 == 6) = false := beq_eq_false_iff_ne.mpr c45
        have c45b1 : (a0_0 != 6) = true := bne_iff_ne.mpr c45
        obtain rfl := yG H
        go_wp2
        go_ret
        exact ⟨apD, apK⟩

end Go.Proofs.YthaceblepbkjjaaDoor.Q

namespace Go.Proofs.YthaceblepbkjjaaDoor.Q
open Go.RowKit Go.Proofs.YthaceblepbkjjaaDoorW.PrintWords Go.Proofs.YthaceblepbkjjaaDoorW.PrintLast Go.Proofs.YthaceblepbkjjaaDoorW.PrintMore Go.Proofs.YthaceblepbkjjaaDoorX
attribute [local go_sem] max2_int min2_int max_two min_two max_three min_three max_four min_four   -- for this text's walks alone
set_option linter.unusedVariables false
set_option linter.unusedSimpArgs false

mutual
def spec_l7All.l0 : Nat → Int → Int → Int → Int → ByteArray → List (S34) → List ByteArray → Option (Bool)
 | 0, _, _, _, _, _, _, _ => none
 | k + 1, x3, x170000, x170001, x170002, x170003, x170004, x170005 => if x3 < (x170004.length : Int) then (if 0 ≤ x3 then ((spec_l7All.f k ((rd_T34 x170004 x3).f0) ((rd_T34 x170004 x3).f1.f0) ((rd_T34 x170004 x3).f1.f1) ((rd_T34 x170004 x3).f2) ((rd_T34 x170004 x3).f3) ((rd_T34 x170004 x3).f4)).bind fun t172 => (if t172 = true then (spec_l7All.l0 k (wrap64 (x3 + 1)) x170000 x170001 x170002 x170003 x170004 x170005) else (some false))) else (none)) else (some true)
def spec_l7All.f : Nat → Int → Int → Int → ByteArray → List (S34) → List ByteArray → Option (Bool)
 | 0, _, _, _, _, _, _ => none
 | k + 1, a0_0, a0_1, a0_2, a0_3, l0_4, l0_5 => (spec_l7One.f k a0_0 a0_1 a0_2 a0_3 l0_4 l0_5).bind fun t170 => (if t170 = true then (spec_l7All.l0 k 0 a0_0 a0_1 a0_2 a0_3 l0_4 l0_5) else (some false))
end
theorem spec_l7All.mono_l : ∀ k, (∀ y0 y1 y2 y3 y4 y5, LeO (spec_l7All.f k y0 y1 y2 y3 y4 y5) (spec_l7All.f (k + 1) y0 y1 y2 y3 y4 y5)) ∧ (∀ y0 y1 y2 y3 y4 y5 y6, LeO (spec_l7All.l0 k y0 y1 y2 y3 y4 y5 y6) (spec_l7All.l0 (k + 1) y0 y1 y2 y3 y4 y5 y6))
 | 0 => ⟨fun _ _ _ _ _ _ r h => by simp [spec_l7All.f] at h, fun _ _ _ _ _ _ _ r h => by simp [spec_l7All.l0] at h⟩
 | k + 1 => by
  obtain ⟨ih0, ih1⟩ := spec_l7All.mono_l k
  refine ⟨?_, ?_⟩
  ·intro y0 y1 y2 y3 y4 y5
   unfold spec_l7All.f
   repeat' first
   | (with_reducible exact ih0 _ _ _ _ _ _)
   | (with_reducible exact ih1 _ _ _ _ _ _ _)
   | (with_reducible exact spec_l7One.mono _ _ _ _ _ _ _)
   | (with_reducible exact LeO.refl _)
   | (with_reducible exact LeO.none _)
   | (with_reducible refine LeO.ite ?_ ?_)
   | (with_reducible refine LeO.bind ?_ (fun _ => ?_))
   | exact ih0 _ _ _ _ _ _
   | exact ih1 _ _ _ _ _ _ _
  ·intro y0 y1 y2 y3 y4 y5 y6
   unfold spec_l7All.l0
   repeat' first
   | (with_reducible exact ih0 _ _ _ _ _ _)
   | (with_reducible exact ih1 _ _ _ _ _ _ _)
   | (with_reducible exact spec_l7One.mono _ _ _ _ _ _ _)
   | (with_reducible exact LeO.refl _)
   | (with_reducible exact LeO.none _)
   | (with_reducible refine LeO.ite ?_ ?_)
   | (with_reducible refine LeO.bind ?_ (fun _ => ?_))
   | exact ih0 _ _ _ _ _ _
   | exact ih1 _ _ _ _ _ _ _
theorem spec_l7All.mono : ∀ a0 a1 a2 a3 a4 a5 k, LeO (spec_l7All.f k a0 a1 a2 a3 a4 a5) (spec_l7All.f (k + 1) a0 a1 a2 a3 a4 a5) := by
 intro a0 a1 a2 a3 a4 a5 k
 obtain ⟨ih0, ih1⟩ := spec_l7All.mono_l k
 exact ih0 a0 a1 a2 a3 a4 a5
set_option maxHeartbeats 8000000 in
set_option maxRecDepth 100000 in
theorem spec_l7All.calls (k : Nat) : ∀ (a0_0 : Int) (a0_1 : Int) (a0_2 : Int) (a0_3 : ByteArray) (A0_4 : Option Addr) (c0_4 : Nat) (l0_4 : List (S34)) (A0_5 : Option Addr) (c0_5 : Nat) (l0_5 : List ByteArray) (r : Bool) (w : World) (hr0_4 : Kd.C k34 w A0_4 l0_4.length l0_4) (hc0_4 : l0_4.length ≤ c0_4) (hr0_5 : Kd.C Kd.string w A0_5 l0_5.length l0_5) (hc0_5 : l0_5.length ≤ c0_5) (h : spec_l7All.f k a0_0 a0_1 a0_2 a0_3 l0_4 l0_5 = some r),
  Calls Tryd.prog 24 #[.agg #[.int .i64 a0_0, .int .i64 a0_1, .int .i64 a0_2, .string a0_3, .slice A0_4 l0_4.length c0_4, .slice A0_5 l0_5.length c0_5]] w fun e w' => e = .returned (.bool r) ∧ Below w.heap.size w w' := by
 induction k using Nat.strongRecOn with
 | _ k ih =>
 intro a0_0 a0_1 a0_2 a0_3 A0_4 c0_4 l0_4 A0_5 c0_5 l0_5 r w hr0_4 hc0_4 hr0_5 hc0_5 h
 cases k with
 | zero => exact absurd h (by simp [spec_l7All.f])
 | succ k =>
 simp only [spec_l7All.f] at h
 have hu34 := Tryd.underlying34
 have HR0_4 := zA hr0_4
 have HC0_4 := zA hc0_4
 clear hr0_4 hc0_4
 have HR0_5 := zA hr0_5
 have HC0_5 := zA hc0_5
 clear hr0_5 hc0_5
 have HB := zA (yH w.heap.size w)
 have H : ((spec_l7One.f k a0_0 a0_1 a0_2 a0_3 l0_4 l0_5).bind fun t170 => (if t170 = true then (spec_l7All.l0 k 0 a0_0 a0_1 a0_2 a0_3 l0_4 l0_5) else (some false))) = some r := h
 clear h
 replace H := Option.bind_eq_some_iff.mp H
 obtain ⟨t170, A20, H⟩ := H
 have A2 := zA A20
 clear A20
 by_cases c3 : t170 = true
 ·subst c3
  have H1 := H; rw [if_pos rfl] at H1
  clear H
  have H := H1
  clear H1
  have H' := zA H
  clear H
  go_enter Tryd.func24, Tryd.ntmps24
  go_wp2_with (first | ((with_reducible refine zS (N := 1) rfl ?_); refine zW ?hg (N := 1) ?hd (cs := #[.int .i64 a0_0, .int .i64 a0_1, .int .i64 a0_2, .string a0_3, .slice A0_4 l0_4.length c0_4, .slice A0_5 l0_5.length c0_5]) (t := 34) ?hr ?_; (case hd => rfl); (case hg => rfl); (case hr => first | (go_simp; done) | (go_simp; rfl)); intro gb169 hg w4 hbox hb; have BK169 := zA (hbox); have GW169 := zA ((by rw [hg]; exact (zQ apA) : w.heap.size ≤ gb169)); have GE169 := zA ((by rw [hg]; exact (zQ apA) : w.heap.size ≤ gb169)); replace HB := zA (zP apA hb); clear hb hbox hg; obtain ⟨hcz5_0, hcz5_1, hcz5_2, hcz5_3, hcz5_4, hcz5_5, hfz5_0, hfz5_1, hfz5_2, hfz5_3, hfz5_4, hfz5_5⟩ := zb6 BK169.out) | ((with_reducible refine zT (f := 33) rfl ?_); refine goesL_ (some 5) rfl rfl Tryd.func33 (by kernel_rfl) rfl #[.agg #[.int .i64 a0_0, .int .i64 a0_1, .int .i64 a0_2, .string a0_3, .slice A0_4 l0_4.length c0_4, .slice A0_5 l0_5.length c0_5]] rfl apE ?_; (with_reducible refine (spec_l7One.calls k a0_0 a0_1 a0_2 a0_3 _ _ l0_4 _ _ l0_5 true _ ?side1 ?side2 ?side3 ?side4 A2.out).mono ?_); (case side1 => exact vc (Kd.C_below HR0_4.out HB.out)); (case side2 => exact HC0_4.out); (case side3 => exact vc (Kd.C_below HR0_5.out HB.out)); (case side4 => exact HC0_5.out); rintro e w6 ⟨rfl, hb⟩; refine ⟨_, rfl, ?_⟩; replace BK169 := zA (zN (g := gb169) (o := .cells #[.int .i64 a0_0, .int .i64 a0_1, .int .i64 a0_2, .string a0_3, .slice A0_4 l0_4.length c0_4, .slice A0_5 l0_5.length c0_5] 34 (0, 0)) (by (with_reducible repeat (first | refine zB ?_ _ | refine zD ?_ | refine zC ?_ _)); exact BK169.out) hb); replace HB := zA (zP (by repeat (first | (with_reducible first | exact HB.out | apply zG | apply zE | apply zF | refine zH ?_ GE169.out) | exact HB.out)) hb); (try clear hb); (try clear hb2); (try clear hk); (try clear hi)))
  go_loopg [3] k (fun kq v3 w' => ∃ (x3_1 : Int), v3 = .int .i64 x3_1 ∧ Aside0 (spec_l7All.l0 kq x3_1 a0_0 a0_1 a0_2 a0_3 l0_4 l0_5 = some r) ∧ Aside0 (kq ≤ k) ∧ Aside0 (w'.heap[gb169]? = some (.cells #[.int .i64 a0_0, .int .i64 a0_1, .int .i64 a0_2, .string a0_3, (.slice A0_4 l0_4.length c0_4), (.slice A0_5 l0_5.length c0_5)] 34 (0, 0))) ∧ Aside0 (Below w.heap.size w w'))
  case atStart => exact ⟨(0), apC, H', ⟨yJ _⟩, ⟨by (with_reducible repeat (first | refine zB ?_ _ | refine zD ?_ | refine zC ?_ _)); exact BK169.out⟩, ⟨by repeat (first | (with_reducible first | exact HB.out | apply zG | apply zE | apply zF | refine zH ?_ GE169.out) | exact HB.out)⟩⟩
  case round =>
   clear H'
   try clear c2 p2 c3 hcz5_0 hcz5_1 hcz5_2 hcz5_3 hcz5_4 hcz5_5 hfz5_0 hfz5_1 hfz5_2 hfz5_3 hfz5_4 hfz5_5
   obtain ⟨x3_1, rfl, HA, HK1, BK169, HB⟩ := hrel
   cases gk with
   | zero => exact absurd HA.out (by simp [spec_l7All.l0])
   | succ k1 =>
    have H := HA.out
    clear HA
    simp only [spec_l7All.l0] at H
    by_cases c7 : x3_1 < (l0_4.length : Int)
    ·rw [if_pos c7] at H
     have c7b0 : decide (x3_1 < (l0_4.length : Int)) = true := yE c7
     clear c7
     by_cases c8 : 0 ≤ x3_1
     ·rw [if_pos c8] at H
      have c8b0 : decide (0 ≤ x3_1) = true := yE c8
      clear c8
      replace H := Option.bind_eq_some_iff.mp H
      obtain ⟨t172, A90, H⟩ := H
      have A9 := zA A90
      clear A90
      by_cases c10 : t172 = true
      ·subst c10
       have H1 := H; rw [if_pos rfl] at H1
       clear H
       have H := H1
       clear H1
       have H' := zA H
       clear H
       obtain ⟨hcz11_0, hcz11_1, hcz11_2, hcz11_3, hcz11_4, hcz11_5, hfz11_0, hfz11_1, hfz11_2, hfz11_3, hfz11_4, hfz11_5⟩ := zb6 BK169.out
       have p171 : 0 ≤ (x3_1 : Int) := yF apB
       have q171 : x3_1 < (l0_4.length : Int) := yF apB
       obtain ⟨ad171, A171_4, c171_4, A171_5, c171_5, e171, hx171_0, hx171_1, hx171_2, hx171_3, hx171_4, hx171_5, hl171_4, hi171_4, hl171_5, hi171_5⟩ := at_T34 HR0_4.out x3_1 p171 q171
       cases e171
       replace hx171_0 := (HB.out.cell (zR w _ hx171_0)).trans hx171_0
       replace hx171_1 := (HB.out.cell (zR w _ hx171_1)).trans hx171_1
       replace hx171_2 := (HB.out.cell (zR w _ hx171_2)).trans hx171_2
       replace hx171_3 := (HB.out.cell (zR w _ hx171_3)).trans hx171_3
       replace hx171_4 := (HB.out.cell (zR w _ hx171_4)).trans hx171_4
       replace hx171_5 := (HB.out.cell (zR w _ hx171_5)).trans hx171_5
       have HR171_4 := zA hi171_4
       have HC171_4 := zA hl171_4
       clear hi171_4 hl171_4
       have HR171_5 := zA hi171_5
       have HC171_5 := zA hl171_5
       clear hi171_5 hl171_5
       replace p171 := eq_true p171
       replace q171 := eq_true q171
       go_wp2_with (first | ((with_reducible refine zT (f := 24) rfl ?_); refine goesL_ (some 19) rfl rfl Tryd.func24 (by kernel_rfl) rfl #[.agg #[.int .i64 ((rd_T34 l0_4 x3_1).f0), .int .i64 ((rd_T34 l0_4 x3_1).f1.f0), .int .i64 ((rd_T34 l0_4 x3_1).f1.f1), .string ((rd_T34 l0_4 x3_1).f2), .slice A171_4 ((rd_T34 l0_4 x3_1).f3).length c171_4, .slice A171_5 ((rd_T34 l0_4 x3_1).f4).length c171_5]] rfl apE ?_; (with_reducible refine (ih k1 (by have := HK1.out; omega) ((rd_T34 l0_4 x3_1).f0) ((rd_T34 l0_4 x3_1).f1.f0) ((rd_T34 l0_4 x3_1).f1.f1) ((rd_T34 l0_4 x3_1).f2) _ _ ((rd_T34 l0_4 x3_1).f3) _ _ ((rd_T34 l0_4 x3_1).f4) true _ ?side1 ?side2 ?side3 ?side4 A9.out).mono ?_); (case side1 => exact vc (Kd.C_below HR171_4.out HB.out)); (case side2 => exact HC171_4.out); (case side3 => exact vc (Kd.C_below HR171_5.out HB.out)); (case side4 => exact HC171_5.out); rintro e w12 ⟨rfl, hb⟩; refine ⟨_, rfl, ?_⟩; replace BK169 := zA (zN (g := gb169) (o := .cells #[.int .i64 a0_0, .int .i64 a0_1, .int .i64 a0_2, .string a0_3, .slice (some ad171) l0_4.length c0_4, .slice A0_5 l0_5.length c0_5] 34 (0, 0)) (by (with_reducible repeat (first | refine zB ?_ _ | refine zD ?_ | refine zC ?_ _)); exact BK169.out) hb); replace HB := zA (zP (by repeat (first | (with_reducible first | exact HB.out | apply zG | apply zE | apply zF | refine zH ?_ GE169.out) | exact HB.out)) hb); (try clear hb); (try clear hb2); (try clear hk); (try clear hi)))
       go_roundg k1
       case measure => have := HK1.out; omega
       case rel => exact ⟨(wrap64 (x3_1 + 1)), apC, H', ⟨by have := HK1.out; omega⟩, ⟨by (with_reducible repeat (first | refine zB ?_ _ | refine zD ?_ | refine zC ?_ _)); exact BK169.out⟩, ⟨by repeat (first | (with_reducible first | exact HB.out | apply zG | apply zE | apply zF | refine zH ?_ GE169.out) | exact HB.out)⟩⟩
      ·replace c10 := Bool.eq_false_iff.mpr c10
       subst c10
       have H1 := H; rw [if_neg (show ¬ (false = true) by decide)] at H1
       clear H
       have H := H1
       clear H1
       obtain rfl := yG H
       obtain ⟨hcz13_0, hcz13_1, hcz13_2, hcz13_3, hcz13_4, hcz13_5, hfz13_0, hfz13_1, hfz13_2, hfz13_3, hfz13_4, hfz13_5⟩ := zb6 BK169.out
       have p171 : 0 ≤ (x3_1 : Int) := yF apB
       have q171 : x3_1 < (l0_4.length : Int) := yF apB
       obtain ⟨ad171, A171_4, c171_4, A171_5, c171_5, e171, hx171_0, hx171_1, hx171_2, hx171_3, hx171_4, hx171_5, hl171_4, hi171_4, hl171_5, hi171_5⟩ := at_T34 HR0_4.out x3_1 p171 q171
       cases e171
       replace hx171_0 := (HB.out.cell (zR w _ hx171_0)).trans hx171_0
       replace hx171_1 := (HB.out.cell (zR w _ hx171_1)).trans hx171_1
       replace hx171_2 := (HB.out.cell (zR w _ hx171_2)).trans hx171_2
       replace hx171_3 := (HB.out.cell (zR w _ hx171_3)).trans hx171_3
       replace hx171_4 := (HB.out.cell (zR w _ hx171_4)).trans hx171_4
       replace hx171_5 := (HB.out.cell (zR w _ hx171_5)).trans hx171_5
       have HR171_4 := zA hi171_4
       have HC171_4 := zA hl171_4
       clear hi171_4 hl171_4
       have HR171_5 := zA hi171_5
       have HC171_5 := zA hl171_5
       clear hi171_5 hl171_5
       replace p171 := eq_true p171
       replace q171 := eq_true q171
       go_wp2_with (first | ((with_reducible refine zT (f := 24) rfl ?_); refine goesL_ (some 19) rfl rfl Tryd.func24 (by kernel_rfl) rfl #[.agg #[.int .i64 ((rd_T34 l0_4 x3_1).f0), .int .i64 ((rd_T34 l0_4 x3_1).f1.f0), .int .i64 ((rd_T34 l0_4 x3_1).f1.f1), .string ((rd_T34 l0_4 x3_1).f2), .slice A171_4 ((rd_T34 l0_4 x3_1).f3).length c171_4, .slice A171_5 ((rd_T34 l0_4 x3_1).f4).length c171_5]] rfl apE ?_; (with_reducible refine (ih k1 (by have := HK1.out; omega) ((rd_T34 l0_4 x3_1).f0) ((rd_T34 l0_4 x3_1).f1.f0) ((rd_T34 l0_4 x3_1).f1.f1) ((rd_T34 l0_4 x3_1).f2) _ _ ((rd_T34 l0_4 x3_1).f3) _ _ ((rd_T34 l0_4 x3_1).f4) false _ ?side1 ?side2 ?side3 ?side4 A9.out).mono ?_); (case side1 => exact vc (Kd.C_below HR171_4.out HB.out)); (case side2 => exact HC171_4.out); (case side3 => exact vc (Kd.C_below HR171_5.out HB.out)); (case side4 => exact HC171_5.out); rintro e w14 ⟨rfl, hb⟩; refine ⟨_, rfl, ?_⟩; replace HB := zA (zP apA hb); (try clear hb); (try clear hb2); (try clear hk); (try clear hi)))
       go_ret
       exact ⟨apD, apA⟩
     ·rw [if_neg c8] at H
      exact absurd H (by simp)
    ·rw [if_neg c7] at H
     have c7b0 : decide (x3_1 < (l0_4.length : Int)) = false := decide_eq_false c7
     clear c7
     obtain rfl := yG H
     obtain ⟨hcz15_0, hcz15_1, hcz15_2, hcz15_3, hcz15_4, hcz15_5, hfz15_0, hfz15_1, hfz15_2, hfz15_3, hfz15_4, hfz15_5⟩ := zb6 BK169.out
     go_wp2
     go_ret
     exact ⟨apD, by repeat (first | (with_reducible first | exact HB.out | apply zG | apply zE | apply zF | refine zH ?_ GE169.out) | exact HB.out)⟩
 ·replace c3 := Bool.eq_false_iff.mpr c3
  subst c3
  have H1 := H; rw [if_neg (show ¬ (false = true) by decide)] at H1
  clear H
  have H := H1
  clear H1
  obtain rfl := yG H
  go_enter Tryd.func24, Tryd.ntmps24
  go_wp2_with (first | ((with_reducible refine zS (N := 1) rfl ?_); refine zW ?hg (N := 1) ?hd (cs := #[.int .i64 a0_0, .int .i64 a0_1, .int .i64 a0_2, .string a0_3, .slice A0_4 l0_4.length c0_4, .slice A0_5 l0_5.length c0_5]) (t := 34) ?hr ?_; (case hd => rfl); (case hg => rfl); (case hr => first | (go_simp; done) | (go_simp; rfl)); intro gb169 hg w16 hbox hb; have BK169 := zA (hbox); have GW169 := zA ((by rw [hg]; exact (zQ apA) : w.heap.size ≤ gb169)); have GE169 := zA ((by rw [hg]; exact (zQ apA) : w.heap.size ≤ gb169)); replace HB := zA (zP apA hb); clear hb hbox hg; obtain ⟨hcz17_0, hcz17_1, hcz17_2, hcz17_3, hcz17_4, hcz17_5, hfz17_0, hfz17_1, hfz17_2, hfz17_3, hfz17_4, hfz17_5⟩ := zb6 BK169.out) | ((with_reducible refine zT (f := 33) rfl ?_); refine goesL_ (some 5) rfl rfl Tryd.func33 (by kernel_rfl) rfl #[.agg #[.int .i64 a0_0, .int .i64 a0_1, .int .i64 a0_2, .string a0_3, .slice A0_4 l0_4.length c0_4, .slice A0_5 l0_5.length c0_5]] rfl apE ?_; (with_reducible refine (spec_l7One.calls k a0_0 a0_1 a0_2 a0_3 _ _ l0_4 _ _ l0_5 false _ ?side1 ?side2 ?side3 ?side4 A2.out).mono ?_); (case side1 => exact vc (Kd.C_below HR0_4.out HB.out)); (case side2 => exact HC0_4.out); (case side3 => exact vc (Kd.C_below HR0_5.out HB.out)); (case side4 => exact HC0_5.out); rintro e w18 ⟨rfl, hb⟩; refine ⟨_, rfl, ?_⟩; replace HB := zA (zP apA hb); (try clear hb); (try clear hb2); (try clear hk); (try clear hi)))
  go_ret
  exact ⟨apD, apA⟩


def spec_ValueOk.f (k : Nat) (a0_0 : Int) (a0_1 : Int) (a0_2 : Int) (a0_3 : ByteArray) (l0_4 : List (S34)) (l0_5 : List ByteArray) : Option (Bool) := (spec_ValueSize.f k a0_0 a0_1 a0_2 a0_3 l0_4 l0_5).bind fun t174 => (if t174 ≤ 200 then ((spec_l7Deep.f k a0_0 a0_1 a0_2 a0_3 l0_4 l0_5).bind fun t175 => (if t175 ≤ 20 then ((spec_l7All.f k a0_0 a0_1 a0_2 a0_3 l0_4 l0_5).bind fun t176 => (some t176)) else (some false))) else (some false))
theorem spec_ValueOk.mono : ∀ a0 a1 a2 a3 a4 a5 k, LeO (spec_ValueOk.f k a0 a1 a2 a3 a4 a5) (spec_ValueOk.f (k + 1) a0 a1 a2 a3 a4 a5) := by
 intro a0 a1 a2 a3 a4 a5 k
 unfold spec_ValueOk.f
 repeat' first
   | (with_reducible exact spec_ValueSize.mono _ _ _ _ _ _ _)
   | (with_reducible exact spec_l7All.mono _ _ _ _ _ _ _)
   | (with_reducible exact spec_l7Deep.mono _ _ _ _ _ _ _)
   | (with_reducible exact LeO.refl _)
   | (with_reducible exact LeO.none _)
   | (with_reducible refine LeO.ite ?_ ?_)
   | (with_reducible refine LeO.bind ?_ (fun _ => ?_))
set_option maxHeartbeats 8000000 in
set_option maxRecDepth 100000 in
theorem spec_ValueOk.calls (k : Nat) (a0_0 : Int) (a0_1 : Int) (a0_2 : Int) (a0_3 : ByteArray) (A0_4 : Option Addr) (c0_4 : Nat) (l0_4 : List (S34)) (A0_5 : Option Addr) (c0_5 : Nat) (l0_5 : List ByteArray) (r : Bool) (w : World) (hr0_4 : Kd.C k34 w A0_4 l0_4.length l0_4) (hc0_4 : l0_4.length ≤ c0_4) (hr0_5 : Kd.C Kd.string w A0_5 l0_5.length l0_5) (hc0_5 : l0_5.length ≤ c0_5) (h : spec_ValueOk.f k a0_0 a0_1 a0_2 a0_3 l0_4 l0_5 = some r) :
  Calls Tryd.prog 11 #[.agg #[.int .i64 a0_0, .int .i64 a0_1, .int .i64 a0_2, .string a0_3, .slice A0_4 l0_4.length c0_4, .slice A0_5 l0_5.length c0_5]] w fun e w' => e = .returned (.bool r) ∧ Below w.heap.size w w' := by
 have hu34 := Tryd.underlying34
 have HR0_4 := zA hr0_4
 have HC0_4 := zA hc0_4
 clear hr0_4 hc0_4
 have HR0_5 := zA hr0_5
 have HC0_5 := zA hc0_5
 clear hr0_5 hc0_5
 have HB := zA (yH w.heap.size w)
 have H : ((spec_ValueSize.f k a0_0 a0_1 a0_2 a0_3 l0_4 l0_5).bind fun t174 => (if t174 ≤ 200 then ((spec_l7Deep.f k a0_0 a0_1 a0_2 a0_3 l0_4 l0_5).bind fun t175 => (if t175 ≤ 20 then ((spec_l7All.f k a0_0 a0_1 a0_2 a0_3 l0_4 l0_5).bind fun t176 => (some t176)) else (some false))) else (some false))) = some r := h
 clear h
 replace H := Option.bind_eq_some_iff.mp H
 obtain ⟨t174, A20, H⟩ := H
 have A2 := zA A20
 clear A20
 by_cases c3 : t174 ≤ 200
 ·rw [if_pos c3] at H
  have c3b0 : decide (t174 ≤ 200) = true := yE c3
  clear c3
  replace H := Option.bind_eq_some_iff.mp H
  obtain ⟨t175, A40, H⟩ := H
  have A4 := zA A40
  clear A40
  by_cases c5 : t175 ≤ 20
  ·rw [if_pos c5] at H
   have c5b0 : decide (t175 ≤ 20) = true := yE c5
   clear c5
   replace H := Option.bind_eq_some_iff.mp H
   obtain ⟨t176, A60, H⟩ := H
   have A6 := zA A60
   clear A60
   obtain rfl := yG H
   go_enter Tryd.func11, Tryd.ntmps11
   go_wp2_with (first | ((with_reducible refine zS (N := 1) rfl ?_); refine zW ?hg (N := 1) ?hd (cs := #[.int .i64 a0_0, .int .i64 a0_1, .int .i64 a0_2, .string a0_3, .slice A0_4 l0_4.length c0_4, .slice A0_5 l0_5.length c0_5]) (t := 34) ?hr ?_; (case hd => rfl); (case hg => rfl); (case hr => first | (go_simp; done) | (go_simp; rfl)); intro gb173 hg w7 hbox hb; have BK173 := zA (hbox); have GW173 := zA ((by rw [hg]; exact (zQ apA) : w.heap.size ≤ gb173)); have GE173 := zA ((by rw [hg]; exact (zQ apA) : w.heap.size ≤ gb173)); replace HB := zA (zP apA hb); clear hb hbox hg; obtain ⟨hcz8_0, hcz8_1, hcz8_2, hcz8_3, hcz8_4, hcz8_5, hfz8_0, hfz8_1, hfz8_2, hfz8_3, hfz8_4, hfz8_5⟩ := zb6 BK173.out) | ((with_reducible refine zT (f := 22) rfl ?_); refine goesL_ (some 4) rfl rfl Tryd.func22 (by kernel_rfl) rfl #[.agg #[.int .i64 a0_0, .int .i64 a0_1, .int .i64 a0_2, .string a0_3, .slice A0_4 l0_4.length c0_4, .slice A0_5 l0_5.length c0_5]] rfl apE ?_; (with_reducible refine (spec_ValueSize.calls k a0_0 a0_1 a0_2 a0_3 _ _ l0_4 _ _ l0_5 t174 _ ?side1 ?side2 ?side3 ?side4 A2.out).mono ?_); (case side1 => exact vc (Kd.C_below HR0_4.out HB.out)); (case side2 => exact HC0_4.out); (case side3 => exact vc (Kd.C_below HR0_5.out HB.out)); (case side4 => exact HC0_5.out); rintro e w9 ⟨rfl, hb⟩; refine ⟨_, rfl, ?_⟩; replace BK173 := zA (zN (g := gb173) (o := .cells #[.int .i64 a0_0, .int .i64 a0_1, .int .i64 a0_2, .string a0_3, .slice A0_4 l0_4.length c0_4, .slice A0_5 l0_5.length c0_5] 34 (0, 0)) (by (with_reducible repeat (first | refine zB ?_ _ | refine zD ?_ | refine zC ?_ _)); exact BK173.out) hb); replace HB := zA (zP (by repeat (first | (with_reducible first | exact HB.out | apply zG | apply zE | apply zF | refine zH ?_ GE173.out) | exact HB.out)) hb); (try clear hb); (try clear hb2); (try clear hk); (try clear hi); obtain ⟨hcz10_0, hcz10_1, hcz10_2, hcz10_3, hcz10_4, hcz10_5, hfz10_0, hfz10_1, hfz10_2, hfz10_3, hfz10_4, hfz10_5⟩ := zb6 BK173.out) | (go_at_call 23; (with_reducible refine (spec_l7Deep.calls k a0_0 a0_1 a0_2 a0_3 _ _ l0_4 _ _ l0_5 t175 _ ?side1 ?side2 ?side3 ?side4 A4.out).mono ?_); (case side1 => exact vc (Kd.C_below HR0_4.out HB.out)); (case side2 => exact HC0_4.out); (case side3 => exact vc (Kd.C_below HR0_5.out HB.out)); (case side4 => exact HC0_5.out); rintro e w11 ⟨rfl, hb⟩; replace BK173 := zA (zN (g := gb173) (o := .cells #[.int .i64 a0_0, .int .i64 a0_1, .int .i64 a0_2, .string a0_3, .slice A0_4 l0_4.length c0_4, .slice A0_5 l0_5.length c0_5] 34 (0, 0)) (by (with_reducible repeat (first | refine zB ?_ _ | refine zD ?_ | refine zC ?_ _)); exact BK173.out) hb); replace HB := zA (zP (by repeat (first | (with_reducible first | exact HB.out | apply zG | apply zE | apply zF | refine zH ?_ GE173.out) | exact HB.out)) hb); (try clear hb); (try clear hb2); (try clear hk); (try clear hi); obtain ⟨hcz12_0, hcz12_1, hcz12_2, hcz12_3, hcz12_4, hcz12_5, hfz12_0, hfz12_1, hfz12_2, hfz12_3, hfz12_4, hfz12_5⟩ := zb6 BK173.out) | (go_at_call 24; (with_reducible refine (spec_l7All.calls k a0_0 a0_1 a0_2 a0_3 _ _ l0_4 _ _ l0_5 t176 _ ?side1 ?side2 ?side3 ?side4 A6.out).mono ?_); (case side1 => exact vc (Kd.C_below HR0_4.out HB.out)); (case side2 => exact HC0_4.out); (case side3 => exact vc (Kd.C_below HR0_5.out HB.out)); (case side4 => exact HC0_5.out); rintro e w13 ⟨rfl, hb⟩; replace HB := zA (zP apA hb); (try clear hb); (try clear hb2); (try clear hk); (try clear hi)))
   go_ret
   exact ⟨apD, apA⟩
  ·rw [if_neg c5] at H
   have c5b0 : decide (t175 ≤ 20) = false := decide_eq_false c5
   clear c5
   obtain rfl := yG H
   go_enter Tryd.func11, Tryd.ntmps11
   go_wp2_with (first | ((with_reducible refine zS (N := 1) rfl ?_); refine zW ?hg (N := 1) ?hd (cs := #[.int .i64 a0_0, .int .i64 a0_1, .int .i64 a0_2, .string a0_3, .slice A0_4 l0_4.length c0_4, .slice A0_5 l0_5.length c0_5]) (t := 34) ?hr ?_; (case hd => rfl); (case hg => rfl); (case hr => first | (go_simp; done) | (go_simp; rfl)); intro gb173 hg w14 hbox hb; have BK173 := zA (hbox); have GW173 := zA ((by rw [hg]; exact (zQ apA) : w.heap.size ≤ gb173)); have GE173 := zA ((by rw [hg]; exact (zQ apA) : w.heap.size ≤ gb173)); replace HB := zA (zP apA hb); clear hb hbox hg; obtain ⟨hcz15_0, hcz15_1, hcz15_2, hcz15_3, hcz15_4, hcz15_5, hfz15_0, hfz15_1, hfz15_2, hfz15_3, hfz15_4, hfz15_5⟩ := zb6 BK173.out) | ((with_reducible refine zT (f := 22) rfl ?_); refine goesL_ (some 4) rfl rfl Tryd.func22 (by kernel_rfl) rfl #[.agg #[.int .i64 a0_0, .int .i64 a0_1, .int .i64 a0_2, .string a0_3, .slice A0_4 l0_4.length c0_4, .slice A0_5 l0_5.length c0_5]] rfl apE ?_; (with_reducible refine (spec_ValueSize.calls k a0_0 a0_1 a0_2 a0_3 _ _ l0_4 _ _ l0_5 t174 _ ?side1 ?side2 ?side3 ?side4 A2.out).mono ?_); (case side1 => exact vc (Kd.C_below HR0_4.out HB.out)); (case side2 => exact HC0_4.out); (case side3 => exact vc (Kd.C_below HR0_5.out HB.out)); (case side4 => exact HC0_5.out); rintro e w16 ⟨rfl, hb⟩; refine ⟨_, rfl, ?_⟩; replace BK173 := zA (zN (g := gb173) (o := .cells #[.int .i64 a0_0, .int .i64 a0_1, .int .i64 a0_2, .string a0_3, .slice A0_4 l0_4.length c0_4, .slice A0_5 l0_5.length c0_5] 34 (0, 0)) (by (with_reducible repeat (first | refine zB ?_ _ | refine zD ?_ | refine zC ?_ _)); exact BK173.out) hb); replace HB := zA (zP (by repeat (first | (with_reducible first | exact HB.out | apply zG | apply zE | apply zF | refine zH ?_ GE173.out) | exact HB.out)) hb); (try clear hb); (try clear hb2); (try clear hk); (try clear hi); obtain ⟨hcz17_0, hcz17_1, hcz17_2, hcz17_3, hcz17_4, hcz17_5, hfz17_0, hfz17_1, hfz17_2, hfz17_3, hfz17_4, hfz17_5⟩ := zb6 BK173.out) | (go_at_call 23; (with_reducible refine (spec_l7Deep.calls k a0_0 a0_1 a0_2 a0_3 _ _ l0_4 _ _ l0_5 t175 _ ?side1 ?side2 ?side3 ?side4 A4.out).mono ?_); (case side1 => exact vc (Kd.C_below HR0_4.out HB.out)); (case side2 => exact HC0_4.out); (case side3 => exact vc (Kd.C_below HR0_5.out HB.out)); (case side4 => exact HC0_5.out); rintro e w18 ⟨rfl, hb⟩; replace HB := zA (zP apA hb); (try clear hb); (try clear hb2); (try clear hk); (try clear hi)))
   go_ret
   exact ⟨apD, apA⟩
 ·rw [if_neg c3] at H
  have c3b0 : decide (t174 ≤ 200) = false := decide_eq_false c3
  clear c3
  obtain rfl := yG H
  go_enter Tryd.func11, Tryd.ntmps11
  go_wp2_with (first | ((with_reducible refine zS (N := 1) rfl ?_); refine zW ?hg (N := 1) ?hd (cs := #[.int .i64 a0_0, .int .i64 a0_1, .int .i64 a0_2, .string a0_3, .slice A0_4 l0_4.length c0_4, .slice A0_5 l0_5.length c0_5]) (t := 34) ?hr ?_; (case hd => rfl); (case hg => rfl); (case hr => first | (go_simp; done) | (go_simp; rfl)); intro gb173 hg w19 hbox hb; have BK173 := zA (hbox); have GW173 := zA ((by rw [hg]; exact (zQ apA) : w.heap.size ≤ gb173)); have GE173 := zA ((by rw [hg]; exact (zQ apA) : w.heap.size ≤ gb173)); replace HB := zA (zP apA hb); clear hb hbox hg; obtain ⟨hcz20_0, hcz20_1, hcz20_2, hcz20_3, hcz20_4, hcz20_5, hfz20_0, hfz20_1, hfz20_2, hfz20_3, hfz20_4, hfz20_5⟩ := zb6 BK173.out) | ((with_reducible refine zT (f := 22) rfl ?_); refine goesL_ (some 4) rfl rfl Tryd.func22 (by kernel_rfl) rfl #[.agg #[.int .i64 a0_0, .int .i64 a0_1, .int .i64 a0_2, .string a0_3, .slice A0_4 l0_4.length c0_4, .slice A0_5 l0_5.length c0_5]] rfl apE ?_; (with_reducible refine (spec_ValueSize.calls k a0_0 a0_1 a0_2 a0_3 _ _ l0_4 _ _ l0_5 t174 _ ?side1 ?side2 ?side3 ?side4 A2.out).mono ?_); (case side1 => exact vc (Kd.C_below HR0_4.out HB.out)); (case side2 => exact HC0_4.out); (case side3 => exact vc (Kd.C_below HR0_5.out HB.out)); (case side4 => exact HC0_5.out); rintro e w21 ⟨rfl, hb⟩; refine ⟨_, rfl, ?_⟩; replace HB := zA (zP apA hb); (try clear hb); (try clear hb2); (try clear hk); (try clear hi)))
  go_ret
  exact ⟨apD, apA⟩

end Go.Proofs.YthaceblepbkjjaaDoor.Q

namespace Go.Proofs.YthaceblepbkjjaaDoor.Q
open Go.RowKit Go.Proofs.YthaceblepbkjjaaDoorW.PrintWords Go.Proofs.YthaceblepbkjjaaDoorW.PrintLast Go.Proofs.YthaceblepbkjjaaDoorW.PrintMore Go.Proofs.YthaceblepbkjjaaDoorX
attribute [local go_sem] max2_int min2_int max_two min_two max_three min_three max_four min_four   -- for this text's walks alone
set_option linter.unusedVariables false
set_option linter.unusedSimpArgs false

attribute [local go_sem high] eqA31
def impl_DecOk.f (a0_0 : Int) (a0_1 : Int) : Option (Bool) := if (-99999999) ≤ a0_0 then (if a0_0 ≤ 99999999 then (if (-8) ≤ a0_1 then (if a0_1 ≤ 8 then (if (Int.tmod a0_0 10) = 0 then (some (a0_0 == 0 && (a0_1 == 0))) else (some true)) else (some false)) else (some false)) else (some false)) else (some false)
set_option maxHeartbeats 8000000 in
set_option maxRecDepth 100000 in
theorem impl_DecOk.calls (a0_0 : Int) (a0_1 : Int) (r : Bool) (w : World) (h : impl_DecOk.f a0_0 a0_1 = some r) :
  Calls Tryd.prog 48 #[.agg #[.int .i64 a0_0, .int .i64 a0_1]] w fun e w' => e = .returned (.bool r) ∧ Below w.heap.size w w' := by
 have hu31 := Tryd.underlying31
 have HB := zA (yH w.heap.size w)
 have H : (if (-99999999) ≤ a0_0 then (if a0_0 ≤ 99999999 then (if (-8) ≤ a0_1 then (if a0_1 ≤ 8 then (if (Int.tmod a0_0 10) = 0 then (some (a0_0 == 0 && (a0_1 == 0))) else (some true)) else (some false)) else (some false)) else (some false)) else (some false)) = some r := h
 clear h
 by_cases c2 : (-99999999) ≤ a0_0
 ·rw [if_pos c2] at H
  have c2b0 : decide ((-99999999) ≤ a0_0) = true := yE c2
  clear c2
  by_cases c3 : a0_0 ≤ 99999999
  ·rw [if_pos c3] at H
   have c3b0 : decide (a0_0 ≤ 99999999) = true := yE c3
   clear c3
   by_cases c4 : (-8) ≤ a0_1
   ·rw [if_pos c4] at H
    have c4b0 : decide ((-8) ≤ a0_1) = true := yE c4
    clear c4
    by_cases c5 : a0_1 ≤ 8
    ·rw [if_pos c5] at H
     have c5b0 : decide (a0_1 ≤ 8) = true := yE c5
     clear c5
     by_cases c6 : (Int.tmod a0_0 10) = 0
     ·rw [if_pos c6] at H
      have c6b0 : ((Int.tmod a0_0 10) == 0) = true := beq_iff_eq.mpr c6
      have c6b1 : ((Int.tmod a0_0 10) != 0) = false := bne_eq_false_iff_eq.mpr c6
      clear c6
      obtain rfl := yG H
      go_enter Tryd.func48, Tryd.ntmps48
      go_wp2_with (first | ((with_reducible refine zS (N := 1) rfl ?_); refine zW ?hg (N := 1) ?hd (cs := #[.int .i64 a0_0, .int .i64 a0_1]) (t := 31) ?hr ?_; (case hd => rfl); (case hg => rfl); (case hr => first | (go_simp; done) | (go_simp; rfl)); intro gb248 hg w7 hbox hb; have BK248 := zA (hbox); have GW248 := zA ((by rw [hg]; exact (zQ apA) : w.heap.size ≤ gb248)); have GE248 := zA ((by rw [hg]; exact (zQ apA) : w.heap.size ≤ gb248)); replace HB := zA (zP apA hb); clear hb hbox hg; obtain ⟨hcz8_0, hcz8_1, hfz8_0, hfz8_1⟩ := zb2 BK248.out))
      go_ret
      exact ⟨apD, by repeat (first | (with_reducible first | exact HB.out | apply zG | apply zE | apply zF | refine zH ?_ GE248.out) | exact HB.out)⟩
     ·rw [if_neg c6] at H
      have c6b0 : ((Int.tmod a0_0 10) == 0) = false := beq_eq_false_iff_ne.mpr c6
      have c6b1 : ((Int.tmod a0_0 10) != 0) = true := bne_iff_ne.mpr c6
      obtain rfl := yG H
      go_enter Tryd.func48, Tryd.ntmps48
      go_wp2_with (first | ((with_reducible refine zS (N := 1) rfl ?_); refine zW ?hg (N := 1) ?hd (cs := #[.int .i64 a0_0, .int .i64 a0_1]) (t := 31) ?hr ?_; (case hd => rfl); (case hg => rfl); (case hr => first | (go_simp; done) | (go_simp; rfl)); intro gb248 hg w9 hbox hb; have BK248 := zA (hbox); have GW248 := zA ((by rw [hg]; exact (zQ apA) : w.heap.size ≤ gb248)); have GE248 := zA ((by rw [hg]; exact (zQ apA) : w.heap.size ≤ gb248)); replace HB := zA (zP apA hb); clear hb hbox hg; obtain ⟨hcz10_0, hcz10_1, hfz10_0, hfz10_1⟩ := zb2 BK248.out))
      go_ret
      exact ⟨apD, by repeat (first | (with_reducible first | exact HB.out | apply zG | apply zE | apply zF | refine zH ?_ GE248.out) | exact HB.out)⟩
    ·rw [if_neg c5] at H
     have c5b0 : decide (a0_1 ≤ 8) = false := decide_eq_false c5
     clear c5
     obtain rfl := yG H
     go_enter Tryd.func48, Tryd.ntmps48
     go_wp2_with (first | ((with_reducible refine zS (N := 1) rfl ?_); refine zW ?hg (N := 1) ?hd (cs := #[.int .i64 a0_0, .int .i64 a0_1]) (t := 31) ?hr ?_; (case hd => rfl); (case hg => rfl); (case hr => first | (go_simp; done) | (go_simp; rfl)); intro gb248 hg w11 hbox hb; have BK248 := zA (hbox); have GW248 := zA ((by rw [hg]; exact (zQ apA) : w.heap.size ≤ gb248)); have GE248 := zA ((by rw [hg]; exact (zQ apA) : w.heap.size ≤ gb248)); replace HB := zA (zP apA hb); clear hb hbox hg; obtain ⟨hcz12_0, hcz12_1, hfz12_0, hfz12_1⟩ := zb2 BK248.out))
     go_ret
     exact ⟨apD, by repeat (first | (with_reducible first | exact HB.out | apply zG | apply zE | apply zF | refine zH ?_ GE248.out) | exact HB.out)⟩
   ·rw [if_neg c4] at H
    have c4b0 : decide ((-8) ≤ a0_1) = false := decide_eq_false c4
    clear c4
    obtain rfl := yG H
    go_enter Tryd.func48, Tryd.ntmps48
    go_wp2_with (first | ((with_reducible refine zS (N := 1) rfl ?_); refine zW ?hg (N := 1) ?hd (cs := #[.int .i64 a0_0, .int .i64 a0_1]) (t := 31) ?hr ?_; (case hd => rfl); (case hg => rfl); (case hr => first | (go_simp; done) | (go_simp; rfl)); intro gb248 hg w13 hbox hb; have BK248 := zA (hbox); have GW248 := zA ((by rw [hg]; exact (zQ apA) : w.heap.size ≤ gb248)); have GE248 := zA ((by rw [hg]; exact (zQ apA) : w.heap.size ≤ gb248)); replace HB := zA (zP apA hb); clear hb hbox hg; obtain ⟨hcz14_0, hcz14_1, hfz14_0, hfz14_1⟩ := zb2 BK248.out))
    go_ret
    exact ⟨apD, by repeat (first | (with_reducible first | exact HB.out | apply zG | apply zE | apply zF | refine zH ?_ GE248.out) | exact HB.out)⟩
  ·rw [if_neg c3] at H
   have c3b0 : decide (a0_0 ≤ 99999999) = false := decide_eq_false c3
   clear c3
   obtain rfl := yG H
   go_enter Tryd.func48, Tryd.ntmps48
   go_wp2_with (first | ((with_reducible refine zS (N := 1) rfl ?_); refine zW ?hg (N := 1) ?hd (cs := #[.int .i64 a0_0, .int .i64 a0_1]) (t := 31) ?hr ?_; (case hd => rfl); (case hg => rfl); (case hr => first | (go_simp; done) | (go_simp; rfl)); intro gb248 hg w15 hbox hb; have BK248 := zA (hbox); have GW248 := zA ((by rw [hg]; exact (zQ apA) : w.heap.size ≤ gb248)); have GE248 := zA ((by rw [hg]; exact (zQ apA) : w.heap.size ≤ gb248)); replace HB := zA (zP apA hb); clear hb hbox hg; obtain ⟨hcz16_0, hcz16_1, hfz16_0, hfz16_1⟩ := zb2 BK248.out))
   go_ret
   exact ⟨apD, by repeat (first | (with_reducible first | exact HB.out | apply zG | apply zE | apply zF | refine zH ?_ GE248.out) | exact HB.out)⟩
 ·rw [if_neg c2] at H
  have c2b0 : decide ((-99999999) ≤ a0_0) = false := decide_eq_false c2
  clear c2
  obtain rfl := yG H
  go_enter Tryd.func48, Tryd.ntmps48
  go_wp2_with (first | ((with_reducible refine zS (N := 1) rfl ?_); refine zW ?hg (N := 1) ?hd (cs := #[.int .i64 a0_0, .int .i64 a0_1]) (t := 31) ?hr ?_; (case hd => rfl); (case hg => rfl); (case hr => first | (go_simp; done) | (go_simp; rfl)); intro gb248 hg w17 hbox hb; have BK248 := zA (hbox); have GW248 := zA ((by rw [hg]; exact (zQ apA) : w.heap.size ≤ gb248)); have GE248 := zA ((by rw [hg]; exact (zQ apA) : w.heap.size ≤ gb248)); replace HB := zA (zP apA hb); clear hb hbox hg; obtain ⟨hcz18_0, hcz18_1, hfz18_0, hfz18_1⟩ := zb2 BK248.out))
  go_ret
  exact ⟨apD, by repeat (first | (with_reducible first | exact HB.out | apply zG | apply zE | apply zF | refine zH ?_ GE248.out) | exact HB.out)⟩


mutual
def impl_Value_27_at_valueOk_1.f : Nat → List (S34) → List (List ByteArray) → List Int → Option (Bool)
 | 0, _, _, _ => none
 | k + 1, l0, l2, l3 => (impl_Value_36_at_valueOk_1.f k l0 l2 l3).bind fun t258 => (some (decide (t258 ≥ 0)))
def impl_Value_36_at_valueOk_1.l0 : Nat → List (S34) → Int → Int → List Int → List (List ByteArray) → Option (Int)
 | 0, _, _, _, _, _ => none
 | k + 1, x0, x7, x8, x908, x999 => if x8 < x7 then (if 0 ≤ x8 then (if x8 < (x0.length : Int) then ((impl_valueOk_1.f k ((rd_T34 x0 x8).f0) ((rd_T34 x0 x8).f1.f0) ((rd_T34 x0 x8).f1.f1) ((rd_T34 x0 x8).f2) ((rd_T34 x0 x8).f3) ((rd_T34 x0 x8).f4) x999 x908).bind fun t260 => (if t260 = true then (some x8) else (impl_Value_36_at_valueOk_1.l0 k x0 x7 (wrap64 (x8 + 1)) x908 x999))) else (none)) else (none)) else (some (-1))
def impl_Value_36_at_valueOk_1.f : Nat → List (S34) → List (List ByteArray) → List Int → Option (Int)
 | 0, _, _, _ => none
 | k + 1, l0, l2, l3 => impl_Value_36_at_valueOk_1.l0 k l0 (l0.length : Int) 0 l3 l2
def impl_valueOk.j0 : Nat → Bool → List (List ByteArray) → Int → Int → Int → ByteArray → List (S34) → List ByteArray → Int → Option (Bool)
 | 0, _, _, _, _, _, _, _, _, _ => none
 | k + 1, x51, x999, x262000, x262001, x262002, x262003, x262004, x262005, x263000 => if x51 = true then (some false) else (if x262000 = 0 then (impl_valueOk.j1 k x262000 (x262000 == 0) x999 x262000 x262001 x262002 x262003 x262004 x262005 x263000) else (if x262000 = 1 then (impl_valueOk.j1 k x262000 (x262000 == 1) x999 x262000 x262001 x262002 x262003 x262004 x262005 x263000) else (if x262000 = 2 then (impl_valueOk.j1 k x262000 (x262000 == 2) x999 x262000 x262001 x262002 x262003 x262004 x262005 x263000) else (impl_valueOk.j1 k x262000 (x262000 == 5) x999 x262000 x262001 x262002 x262003 x262004 x262005 x263000))))
def impl_valueOk.j1 : Nat → Int → Bool → List (List ByteArray) → Int → Int → Int → ByteArray → List (S34) → List ByteArray → Int → Option (Bool)
 | 0, _, _, _, _, _, _, _, _, _, _ => none
 | k + 1, x53, x54, x999, x262000, x262001, x262002, x262003, x262004, x262005, x263000 => if x54 = true then ((impl_Value_27_at_valueOk_1.f k x262004 x999 [x263000]).bind fun t263 => (some (!t263))) else (if x53 = 3 then ((impl_DecOk.f x262001 x262002).bind fun t264 => (some t264)) else (if x53 = 4 then (some (decide ((x262003.size : Int) ≤ 1500))) else (if x53 = 6 then (impl_valueOk.l0 k x262005 (x262005.length : Int) 0 x999 x262000 x262001 x262002 x262003 x262004 x262005 x263000) else (some false))))
def impl_valueOk.l0 : Nat → List ByteArray → Int → Int → List (List ByteArray) → Int → Int → Int → ByteArray → List (S34) → List ByteArray → Int → Option (Bool)
 | 0, _, _, _, _, _, _, _, _, _, _, _ => none
 | k + 1, x73, x74, x75, x999, x262000, x262001, x262002, x262003, x262004, x262005, x263000 => if x75 < x74 then (if 0 ≤ x75 then (if x75 < (x73.length : Int) then ((impl_NameOk.f k (rdOf ByteArray.empty x73 x75) x999).bind fun t266 => (if t266 = true then (if x75 > 0 then (if 0 ≤ (wrap64 (x75 - 1)) then (if (wrap64 (x75 - 1)) < (x262005.length : Int) then (if ((Op.bytesLess ((rdOf ByteArray.empty x262005 (wrap64 (x75 - 1))).toList) ((rdOf ByteArray.empty x73 x75).toList)) = true) then (impl_valueOk.l0 k x73 x74 (wrap64 (x75 + 1)) x999 x262000 x262001 x262002 x262003 x262004 x262005 x263000) else (some false)) else (none)) else (none)) else (impl_valueOk.l0 k x73 x74 (wrap64 (x75 + 1)) x999 x262000 x262001 x262002 x262003 x262004 x262005 x263000)) else (some false))) else (none)) else (none)) else (if (x262005.length : Int) = (x262004.length : Int) then ((impl_Value_27_at_valueOk_1.f k x262004 x999 [x263000]).bind fun t268 => (some (!t268))) else (some false))
def impl_valueOk.f : Nat → Int → Int → Int → ByteArray → List (S34) → List ByteArray → Int → List (List ByteArray) → Option (Bool)
 | 0, _, _, _, _, _, _, _, _ => none
 | k + 1, a0_0, a0_1, a0_2, a0_3, l0_4, l0_5, a1, l2 => if a1 = 0 then (impl_valueOk.j0 k true l2 a0_0 a0_1 a0_2 a0_3 l0_4 l0_5 a1) else (if a0_0 = 3 then (if a0_0 = 4 then (if a0_0 < 5 then (if (l0_4.length : Int) > 0 then (impl_valueOk.j0 k true l2 a0_0 a0_1 a0_2 a0_3 l0_4 l0_5 a1) else (if a0_0 = 6 then (impl_valueOk.j0 k false l2 a0_0 a0_1 a0_2 a0_3 l0_4 l0_5 a1) else (impl_valueOk.j0 k (decide ((l0_5.length : Int) > 0)) l2 a0_0 a0_1 a0_2 a0_3 l0_4 l0_5 a1))) else (if a0_0 = 6 then (impl_valueOk.j0 k false l2 a0_0 a0_1 a0_2 a0_3 l0_4 l0_5 a1) else (impl_valueOk.j0 k (decide ((l0_5.length : Int) > 0)) l2 a0_0 a0_1 a0_2 a0_3 l0_4 l0_5 a1))) else (if a0_3.toList = ([] : List UInt8) then (if a0_0 < 5 then (if (l0_4.length : Int) > 0 then (impl_valueOk.j0 k true l2 a0_0 a0_1 a0_2 a0_3 l0_4 l0_5 a1) else (if a0_0 = 6 then (impl_valueOk.j0 k false l2 a0_0 a0_1 a0_2 a0_3 l0_4 l0_5 a1) else (impl_valueOk.j0 k (decide ((l0_5.length : Int) > 0)) l2 a0_0 a0_1 a0_2 a0_3 l0_4 l0_5 a1))) else (if a0_0 = 6 then (impl_valueOk.j0 k false l2 a0_0 a0_1 a0_2 a0_3 l0_4 l0_5 a1) else (impl_valueOk.j0 k (decide ((l0_5.length : Int) > 0)) l2 a0_0 a0_1 a0_2 a0_3 l0_4 l0_5 a1))) else (impl_valueOk.j0 k true l2 a0_0 a0_1 a0_2 a0_3 l0_4 l0_5 a1))) else (if (!(a0_1 == 0) || (!(a0_2 == 0))) = true then (impl_valueOk.j0 k true l2 a0_0 a0_1 a0_2 a0_3 l0_4 l0_5 a1) else (if a0_0 = 4 then (if a0_0 < 5 then (if (l0_4.length : Int) > 0 then (impl_valueOk.j0 k true l2 a0_0 a0_1 a0_2 a0_3 l0_4 l0_5 a1) else (if a0_0 = 6 then (impl_valueOk.j0 k false l2 a0_0 a0_1 a0_2 a0_3 l0_4 l0_5 a1) else (impl_valueOk.j0 k (decide ((l0_5.length : Int) > 0)) l2 a0_0 a0_1 a0_2 a0_3 l0_4 l0_5 a1))) else (if a0_0 = 6 then (impl_valueOk.j0 k false l2 a0_0 a0_1 a0_2 a0_3 l0_4 l0_5 a1) else (impl_valueOk.j0 k (decide ((l0_5.length : Int) > 0)) l2 a0_0 a0_1 a0_2 a0_3 l0_4 l0_5 a1))) else (if a0_3.toList = ([] : List UInt8) then (if a0_0 < 5 then (if (l0_4.length : Int) > 0 then (impl_valueOk.j0 k true l2 a0_0 a0_1 a0_2 a0_3 l0_4 l0_5 a1) else (if a0_0 = 6 then (impl_valueOk.j0 k false l2 a0_0 a0_1 a0_2 a0_3 l0_4 l0_5 a1) else (impl_valueOk.j0 k (decide ((l0_5.length : Int) > 0)) l2 a0_0 a0_1 a0_2 a0_3 l0_4 l0_5 a1))) else (if a0_0 = 6 then (impl_valueOk.j0 k false l2 a0_0 a0_1 a0_2 a0_3 l0_4 l0_5 a1) else (impl_valueOk.j0 k (decide ((l0_5.length : Int) > 0)) l2 a0_0 a0_1 a0_2 a0_3 l0_4 l0_5 a1))) else (impl_valueOk.j0 k true l2 a0_0 a0_1 a0_2 a0_3 l0_4 l0_5 a1)))))
def impl_valueOk_1.f : Nat → Int → Int → Int → ByteArray → List (S34) → List ByteArray → List (List ByteArray) → List Int → Option (Bool)
 | 0, _, _, _, _, _, _, _, _ => none
 | k + 1, a0_0, a0_1, a0_2, a0_3, l0_4, l0_5, l1, l2 => if 0 < (l2.length : Int) then ((impl_valueOk.f k a0_0 a0_1 a0_2 a0_3 l0_4 l0_5 (wrap64 ((rd l2 0) - 1)) l1).bind fun t271 => (some (!t271))) else (none)
end
theorem impl_Value_27_at_valueOk_1.G.mono_l : ∀ k, (∀ y0 y1 y2, LeO (impl_Value_27_at_valueOk_1.f k y0 y1 y2) (impl_Value_27_at_valueOk_1.f (k + 1) y0 y1 y2)) ∧ (∀ y0 y1 y2, LeO (impl_Value_36_at_valueOk_1.f k y0 y1 y2) (impl_Value_36_at_valueOk_1.f (k + 1) y0 y1 y2)) ∧ (∀ y0 y1 y2 y3 y4, LeO (impl_Value_36_at_valueOk_1.l0 k y0 y1 y2 y3 y4) (impl_Value_36_at_valueOk_1.l0 (k + 1) y0 y1 y2 y3 y4)) ∧ (∀ y0 y1 y2 y3 y4 y5 y6 y7, LeO (impl_valueOk.f k y0 y1 y2 y3 y4 y5 y6 y7) (impl_valueOk.f (k + 1) y0 y1 y2 y3 y4 y5 y6 y7)) ∧ (∀ y0 y1 y2 y3 y4 y5 y6 y7 y8, LeO (impl_valueOk.j0 k y0 y1 y2 y3 y4 y5 y6 y7 y8) (impl_valueOk.j0 (k + 1) y0 y1 y2 y3 y4 y5 y6 y7 y8)) ∧ (∀ y0 y1 y2 y3 y4 y5 y6 y7 y8 y9, LeO (impl_valueOk.j1 k y0 y1 y2 y3 y4 y5 y6 y7 y8 y9) (impl_valueOk.j1 (k + 1) y0 y1 y2 y3 y4 y5 y6 y7 y8 y9)) ∧ (∀ y0 y1 y2 y3 y4 y5 y6 y7 y8 y9 y10, LeO (impl_valueOk.l0 k y0 y1 y2 y3 y4 y5 y6 y7 y8 y9 y10) (impl_valueOk.l0 (k + 1) y0 y1 y2 y3 y4 y5 y6 y7 y8 y9 y10)) ∧ (∀ y0 y1 y2 y3 y4 y5 y6 y7, LeO (impl_valueOk_1.f k y0 y1 y2 y3 y4 y5 y6 y7) (impl_valueOk_1.f (k + 1) y0 y1 y2 y3 y4 y5 y6 y7))
 | 0 => ⟨fun _ _ _ r h => by simp [impl_Value_27_at_valueOk_1.f] at h, fun _ _ _ r h => by simp [impl_Value_36_at_valueOk_1.f] at h, fun _ _ _ _ _ r h => by simp [impl_Value_36_at_valueOk_1.l0] at h, fun _ _ _ _ _ _ _ _ r h => by simp [impl_valueOk.f] at h, fun _ _ _ _ _ _ _ _ _ r h => by simp [impl_valueOk.j0] at h, fun _ _ _ _ _ _ _ _ _ _ r h => by simp [impl_valueOk.j1] at h, fun _ _ _ _ _ _ _ _ _ _ _ r h => by simp [impl_valueOk.l0] at h, fun _ _ _ _ _ _ _ _ r h => by simp [impl_valueOk_1.f] at h⟩
 | k + 1 => by
  obtain ⟨ih0, ih1, ih2, ih3, ih4, ih5, ih6, ih7⟩ := impl_Value_27_at_valueOk_1.G.mono_l k
  refine ⟨?_, ?_, ?_, ?_, ?_, ?_, ?_, ?_⟩
  ·intro y0 y1 y2
   unfold impl_Value_27_at_valueOk_1.f
   repeat' first
   | (with_reducible exact ih0 _ _ _)
   | (with_reducible exact ih1 _ _ _)
   | (with_reducible exact ih2 _ _ _ _ _)
   | (with_reducible exact ih3 _ _ _ _ _ _ _ _)
   | (with_reducible exact ih4 _ _ _ _ _ _ _ _ _)
   | (with_reducible exact ih5 _ _ _ _ _ _ _ _ _ _)
   | (with_reducible exact ih6 _ _ _ _ _ _ _ _ _ _ _)
   | (with_reducible exact ih7 _ _ _ _ _ _ _ _)
   | (with_reducible exact impl_NameOk.mono _ _ _)
   | (with_reducible exact LeO.refl _)
   | (with_reducible exact LeO.none _)
   | (with_reducible refine LeO.ite ?_ ?_)
   | (with_reducible refine LeO.bind ?_ (fun _ => ?_))
   | exact ih0 _ _ _
   | exact ih1 _ _ _
   | exact ih2 _ _ _ _ _
   | exact ih3 _ _ _ _ _ _ _ _
   | exact ih4 _ _ _ _ _ _ _ _ _
   | exact ih5 _ _ _ _ _ _ _ _ _ _
   | exact ih6 _ _ _ _ _ _ _ _ _ _ _
   | exact ih7 _ _ _ _ _ _ _ _
  ·intro y0 y1 y2
   unfold impl_Value_36_at_valueOk_1.f
   repeat' first
   | (with_reducible exact ih0 _ _ _)
   | (with_reducible exact ih1 _ _ _)
   | (with_reducible exact ih2 _ _ _ _ _)
   | (with_reducible exact ih3 _ _ _ _ _ _ _ _)
   | (with_reducible exact ih4 _ _ _ _ _ _ _ _ _)
   | (with_reducible exact ih5 _ _ _ _ _ _ _ _ _ _)
   | (with_reducible exact ih6 _ _ _ _ _ _ _ _ _ _ _)
   | (with_reducible exact ih7 _ _ _ _ _ _ _ _)
   | (with_reducible exact impl_NameOk.mono _ _ _)
   | (with_reducible exact LeO.refl _)
   | (with_reducible exact LeO.none _)
   | (with_reducible refine LeO.ite ?_ ?_)
   | (with_reducible refine LeO.bind ?_ (fun _ => ?_))
   | exact ih0 _ _ _
   | exact ih1 _ _ _
   | exact ih2 _ _ _ _ _
   | exact ih3 _ _ _ _ _ _ _ _
   | exact ih4 _ _ _ _ _ _ _ _ _
   | exact ih5 _ _ _ _ _ _ _ _ _ _
   | exact ih6 _ _ _ _ _ _ _ _ _ _ _
   | exact ih7 _ _ _ _ _ _ _ _
  ·intro y0 y1 y2 y3 y4
   unfold impl_Value_36_at_valueOk_1.l0
   repeat' first
   | (with_reducible exact ih0 _ _ _)
   | (with_reducible exact ih1 _ _ _)
   | (with_reducible exact ih2 _ _ _ _ _)
   | (with_reducible exact ih3 _ _ _ _ _ _ _ _)
   | (with_reducible exact ih4 _ _ _ _ _ _ _ _ _)
   | (with_reducible exact ih5 _ _ _ _ _ _ _ _ _ _)
   | (with_reducible exact ih6 _ _ _ _ _ _ _ _ _ _ _)
   | (with_reducible exact ih7 _ _ _ _ _ _ _ _)
   | (with_reducible exact impl_NameOk.mono _ _ _)
   | (with_reducible exact LeO.refl _)
   | (with_reducible exact LeO.none _)
   | (with_reducible refine LeO.ite ?_ ?_)
   | (with_reducible refine LeO.bind ?_ (fun _ => ?_))
   | exact ih0 _ _ _
   | exact ih1 _ _ _
   | exact ih2 _ _ _ _ _
   | exact ih3 _ _ _ _ _ _ _ _
   | exact ih4 _ _ _ _ _ _ _ _ _
   | exact ih5 _ _ _ _ _ _ _ _ _ _
   | exact ih6 _ _ _ _ _ _ _ _ _ _ _
   | exact ih7 _ _ _ _ _ _ _ _
  ·intro y0 y1 y2 y3 y4 y5 y6 y7
   unfold impl_valueOk.f
   repeat' first
   | (with_reducible exact ih0 _ _ _)
   | (with_reducible exact ih1 _ _ _)
   | (with_reducible exact ih2 _ _ _ _ _)
   | (with_reducible exact ih3 _ _ _ _ _ _ _ _)
   | (with_reducible exact ih4 _ _ _ _ _ _ _ _ _)
   | (with_reducible exact ih5 _ _ _ _ _ _ _ _ _ _)
   | (with_reducible exact ih6 _ _ _ _ _ _ _ _ _ _ _)
   | (with_reducible exact ih7 _ _ _ _ _ _ _ _)
   | (with_reducible exact impl_NameOk.mono _ _ _)
   | (with_reducible exact LeO.refl _)
   | (with_reducible exact LeO.none _)
   | (with_reducible refine LeO.ite ?_ ?_)
   | (with_reducible refine LeO.bind ?_ (fun _ => ?_))
   | exact ih0 _ _ _
   | exact ih1 _ _ _
   | exact ih2 _ _ _ _ _
   | exact ih3 _ _ _ _ _ _ _ _
   | exact ih4 _ _ _ _ _ _ _ _ _
   | exact ih5 _ _ _ _ _ _ _ _ _ _
   | exact ih6 _ _ _ _ _ _ _ _ _ _ _
   | exact ih7 _ _ _ _ _ _ _ _
  ·intro y0 y1 y2 y3 y4 y5 y6 y7 y8
   unfold impl_valueOk.j0
   repeat' first
   | (with_reducible exact ih0 _ _ _)
   | (with_reducible exact ih1 _ _ _)
   | (with_reducible exact ih2 _ _ _ _ _)
   | (with_reducible exact ih3 _ _ _ _ _ _ _ _)
   | (with_reducible exact ih4 _ _ _ _ _ _ _ _ _)
   | (with_reducible exact ih5 _ _ _ _ _ _ _ _ _ _)
   | (with_reducible exact ih6 _ _ _ _ _ _ _ _ _ _ _)
   | (with_reducible exact ih7 _ _ _ _ _ _ _ _)
   | (with_reducible exact impl_NameOk.mono _ _ _)
   | (with_reducible exact LeO.refl _)
   | (with_reducible exact LeO.none _)
   | (with_reducible refine LeO.ite ?_ ?_)
   | (with_reducible refine LeO.bind ?_ (fun _ => ?_))
   | exact ih0 _ _ _
   | exact ih1 _ _ _
   | exact ih2 _ _ _ _ _
   | exact ih3 _ _ _ _ _ _ _ _
   | exact ih4 _ _ _ _ _ _ _ _ _
   | exact ih5 _ _ _ _ _ _ _ _ _ _
   | exact ih6 _ _ _ _ _ _ _ _ _ _ _
   | exact ih7 _ _ _ _ _ _ _ _
  ·intro y0 y1 y2 y3 y4 y5 y6 y7 y8 y9
   unfold impl_valueOk.j1
   repeat' first
   | (with_reducible exact ih0 _ _ _)
   | (with_reducible exact ih1 _ _ _)
   | (with_reducible exact ih2 _ _ _ _ _)
   | (with_reducible exact ih3 _ _ _ _ _ _ _ _)
   | (with_reducible exact ih4 _ _ _ _ _ _ _ _ _)
   | (with_reducible exact ih5 _ _ _ _ _ _ _ _ _ _)
   | (with_reducible exact ih6 _ _ _ _ _ _ _ _ _ _ _)
   | (with_reducible exact ih7 _ _ _ _ _ _ _ _)
   | (with_reducible exact impl_NameOk.mono _ _ _)
   | (with_reducible exact LeO.refl _)
   | (with_reducible exact LeO.none _)
   | (with_reducible refine LeO.ite ?_ ?_)
   | (with_reducible refine LeO.bind ?_ (fun _ => ?_))
   | exact ih0 _ _ _
   | exact ih1 _ _ _
   | exact ih2 _ _ _ _ _
   | exact ih3 _ _ _ _ _ _ _ _
   | exact ih4 _ _ _ _ _ _ _ _ _
   | exact ih5 _ _ _ _ _ _ _ _ _ _
   | exact ih6 _ _ _ _ _ _ _ _ _ _ _
   | exact ih7 _ _ _ _ _ _ _ _
  ·intro y0 y1 y2 y3 y4 y5 y6 y7 y8 y9 y10
   unfold impl_valueOk.l0
   repeat' first
   | (with_reducible exact ih0 _ _ _)
   | (with_reducible exact ih1 _ _ _)
   | (with_reducible exact ih2 _ _ _ _ _)
   | (with_reducible exact ih3 _ _ _ _ _ _ _ _)
   | (with_reducible exact ih4 _ _ _ _ _ _ _ _ _)
   | (with_reducible exact ih5 _ _ _ _ _ _ _ _ _ _)
   | (with_reducible exact ih6 _ _ _ _ _ _ _ _ _ _ _)
   | (with_reducible exact ih7 _ _ _ _ _ _ _ _)
   | (with_reducible exact impl_NameOk.mono _ _ _)
   | (with_reducible exact LeO.refl _)
   | (with_reducible exact LeO.none _)
   | (with_reducible refine LeO.ite ?_ ?_)
   | (with_reducible refine LeO.bind ?_ (fun _ => ?_))
   | exact ih0 _ _ _
   | exact ih1 _ _ _
   | exact ih2 _ _ _ _ _
   | exact ih3 _ _ _ _ _ _ _ _
   | exact ih4 _ _ _ _ _ _ _ _ _
   | exact ih5 _ _ _ _ _ _ _ _ _ _
   | exact ih6 _ _ _ _ _ _ _ _ _ _ _
   | exact ih7 _ _ _ _ _ _ _ _
  ·intro y0 y1 y2 y3 y4 y5 y6 y7
   unfold impl_valueOk_1.f
   repeat' first
   | (with_reducible exact ih0 _ _ _)
   | (with_reducible exact ih1 _ _ _)
   | (with_reducible exact ih2 _ _ _ _ _)
   | (with_reducible exact ih3 _ _ _ _ _ _ _ _)
   | (with_reducible exact ih4 _ _ _ _ _ _ _ _ _)
   | (with_reducible exact ih5 _ _ _ _ _ _ _ _ _ _)
   | (with_reducible exact ih6 _ _ _ _ _ _ _ _ _ _ _)
   | (with_reducible exact ih7 _ _ _ _ _ _ _ _)
   | (with_reducible exact impl_NameOk.mono _ _ _)
   | (with_reducible exact LeO.refl _)
   | (with_reducible exact LeO.none _)
   | (with_reducible refine LeO.ite ?_ ?_)
   | (with_reducible refine LeO.bind ?_ (fun _ => ?_))
   | exact ih0 _ _ _
   | exact ih1 _ _ _
   | exact ih2 _ _ _ _ _
   | exact ih3 _ _ _ _ _ _ _ _
   | exact ih4 _ _ _ _ _ _ _ _ _
   | exact ih5 _ _ _ _ _ _ _ _ _ _
   | exact ih6 _ _ _ _ _ _ _ _ _ _ _
   | exact ih7 _ _ _ _ _ _ _ _
theorem impl_Value_27_at_valueOk_1.mono : ∀ a0 a1 a2 k, LeO (impl_Value_27_at_valueOk_1.f k a0 a1 a2) (impl_Value_27_at_valueOk_1.f (k + 1) a0 a1 a2) := fun a0 a1 a2 k => (impl_Value_27_at_valueOk_1.G.mono_l k).1 a0 a1 a2
theorem impl_Value_36_at_valueOk_1.mono : ∀ a0 a1 a2 k, LeO (impl_Value_36_at_valueOk_1.f k a0 a1 a2) (impl_Value_36_at_valueOk_1.f (k + 1) a0 a1 a2) := fun a0 a1 a2 k => (impl_Value_27_at_valueOk_1.G.mono_l k).2.1 a0 a1 a2
theorem impl_valueOk.mono : ∀ a0 a1 a2 a3 a4 a5 a6 a7 k, LeO (impl_valueOk.f k a0 a1 a2 a3 a4 a5 a6 a7) (impl_valueOk.f (k + 1) a0 a1 a2 a3 a4 a5 a6 a7) := fun a0 a1 a2 a3 a4 a5 a6 a7 k => (impl_Value_27_at_valueOk_1.G.mono_l k).2.2.2.1 a0 a1 a2 a3 a4 a5 a6 a7
theorem impl_valueOk_1.mono : ∀ a0 a1 a2 a3 a4 a5 a6 a7 k, LeO (impl_valueOk_1.f k a0 a1 a2 a3 a4 a5 a6 a7) (impl_valueOk_1.f (k + 1) a0 a1 a2 a3 a4 a5 a6 a7) := fun a0 a1 a2 a3 a4 a5 a6 a7 k => (impl_Value_27_at_valueOk_1.G.mono_l k).2.2.2.2.2.2.2 a0 a1 a2 a3 a4 a5 a6 a7
abbrev impl_Value_27_at_valueOk_1.Spec (k : Nat) : Prop := ∀ (A0 : Option Addr) (c0 : Nat) (l0 : List (S34))  (A2 : Option Addr) (c2 : Nat) (l2 : List (List ByteArray)) (A3 : Option Addr) (c3 : Nat) (l3 : List Int) (r : Bool) (w : World) (hr0 : Kd.C k34 w A0 l0.length l0) (hc0 : l0.length ≤ c0) (hr2 : Kd.C (Kd.slice 9 Kd.string) w A2 l2.length l2) (hc2 : l2.length ≤ c2) (hr3 : Kd.C (Kd.int .i64) w A3 l3.length l3) (hc3 : l3.length ≤ c3) (hg2 : A2 = some ⟨0, 0, none⟩) (h : impl_Value_27_at_valueOk_1.f k l0 l2 l3 = some r),
  Calls Tryd.prog 27 #[.slice A0 l0.length c0, .func (.func 50) #[] #[.pointer A3]] w fun e w' => e = .returned (.bool r) ∧ Below w.heap.size w w'
abbrev impl_Value_36_at_valueOk_1.Spec (k : Nat) : Prop := ∀ (A0 : Option Addr) (c0 : Nat) (l0 : List (S34))  (A2 : Option Addr) (c2 : Nat) (l2 : List (List ByteArray)) (A3 : Option Addr) (c3 : Nat) (l3 : List Int) (r : Int) (w : World) (hr0 : Kd.C k34 w A0 l0.length l0) (hc0 : l0.length ≤ c0) (hr2 : Kd.C (Kd.slice 9 Kd.string) w A2 l2.length l2) (hc2 : l2.length ≤ c2) (hr3 : Kd.C (Kd.int .i64) w A3 l3.length l3) (hc3 : l3.length ≤ c3) (hg2 : A2 = some ⟨0, 0, none⟩) (h : impl_Value_36_at_valueOk_1.f k l0 l2 l3 = some r),
  Calls Tryd.prog 36 #[.slice A0 l0.length c0, .func (.func 50) #[] #[.pointer A3]] w fun e w' => e = .returned (.int .i64 r) ∧ Below w.heap.size w w'
abbrev impl_valueOk.Spec (k : Nat) : Prop := ∀ (a0_0 : Int) (a0_1 : Int) (a0_2 : Int) (a0_3 : ByteArray) (A0_4 : Option Addr) (c0_4 : Nat) (l0_4 : List (S34)) (A0_5 : Option Addr) (c0_5 : Nat) (l0_5 : List ByteArray) (a1 : Int) (A2 : Option Addr) (c2 : Nat) (l2 : List (List ByteArray)) (r : Bool) (w : World) (hr0_4 : Kd.C k34 w A0_4 l0_4.length l0_4) (hc0_4 : l0_4.length ≤ c0_4) (hr0_5 : Kd.C Kd.string w A0_5 l0_5.length l0_5) (hc0_5 : l0_5.length ≤ c0_5) (hr2 : Kd.C (Kd.slice 9 Kd.string) w A2 l2.length l2) (hc2 : l2.length ≤ c2) (hg2 : A2 = some ⟨0, 0, none⟩) (h : impl_valueOk.f k a0_0 a0_1 a0_2 a0_3 l0_4 l0_5 a1 l2 = some r),
  Calls Tryd.prog 37 #[.agg #[.int .i64 a0_0, .int .i64 a0_1, .int .i64 a0_2, .string a0_3, .slice A0_4 l0_4.length c0_4, .slice A0_5 l0_5.length c0_5], .int .i64 a1] w fun e w' => e = .returned (.bool r) ∧ Below w.heap.size w w'
abbrev impl_valueOk_1.Spec (k : Nat) : Prop := ∀ (a0_0 : Int) (a0_1 : Int) (a0_2 : Int) (a0_3 : ByteArray) (A0_4 : Option Addr) (c0_4 : Nat) (l0_4 : List (S34)) (A0_5 : Option Addr) (c0_5 : Nat) (l0_5 : List ByteArray) (A1 : Option Addr) (c1 : Nat) (l1 : List (List ByteArray)) (A2 : Option Addr) (c2 : Nat) (l2 : List Int) (r : Bool) (w : World) (hr0_4 : Kd.C k34 w A0_4 l0_4.length l0_4) (hc0_4 : l0_4.length ≤ c0_4) (hr0_5 : Kd.C Kd.string w A0_5 l0_5.length l0_5) (hc0_5 : l0_5.length ≤ c0_5) (hr1 : Kd.C (Kd.slice 9 Kd.string) w A1 l1.length l1) (hc1 : l1.length ≤ c1) (hr2 : Kd.C (Kd.int .i64) w A2 l2.length l2) (hc2 : l2.length ≤ c2) (hg1 : A1 = some ⟨0, 0, none⟩) (h : impl_valueOk_1.f k a0_0 a0_1 a0_2 a0_3 l0_4 l0_5 l1 l2 = some r),
  Calls Tryd.prog 50 #[.agg #[.int .i64 a0_0, .int .i64 a0_1, .int .i64 a0_2, .string a0_3, .slice A0_4 l0_4.length c0_4, .slice A0_5 l0_5.length c0_5], .pointer A2] w fun e w' => e = .returned (.bool r) ∧ Below w.heap.size w w'
set_option maxHeartbeats 8000000 in
set_option maxRecDepth 100000 in
theorem impl_Value_27_at_valueOk_1.step (k : Nat) (ih_impl_Value_27_at_valueOk_1 : ∀ m, m < k → impl_Value_27_at_valueOk_1.Spec m) (ih_impl_Value_36_at_valueOk_1 : ∀ m, m < k → impl_Value_36_at_valueOk_1.Spec m) (ih_impl_valueOk : ∀ m, m < k → impl_valueOk.Spec m) (ih_impl_valueOk_1 : ∀ m, m < k → impl_valueOk_1.Spec m) : impl_Value_27_at_valueOk_1.Spec k := by
 intro A0 c0 l0 A2 c2 l2 A3 c3 l3 r w hr0 hc0 hr2 hc2 hr3 hc3 hg2 h
 cases k with
 | zero => exact absurd h (by simp [impl_Value_27_at_valueOk_1.f])
 | succ k =>
 simp only [impl_Value_27_at_valueOk_1.f] at h
 have HR0 := zA hr0
 have HC0 := zA hc0
 clear hr0 hc0
 have HG2 := zA hg2
 clear hg2
 have HR2 := zA hr2
 have HC2 := zA hc2
 clear hr2 hc2
 have HR3 := zA hr3
 have HC3 := zA hc3
 clear hr3 hc3
 have HB := zA (yH w.heap.size w)
 have H : ((impl_Value_36_at_valueOk_1.f k l0 l2 l3).bind fun t258 => (some (decide (t258 ≥ 0)))) = some r := h
 clear h
 replace H := Option.bind_eq_some_iff.mp H
 obtain ⟨t258, A50, H⟩ := H
 have A5 := zA A50
 clear A50
 obtain rfl := yG H
 go_enter Tryd.func27, Tryd.ntmps27
 go_wp2_with (first | ((with_reducible refine zT (f := 36) rfl ?_); refine goesL_ (some 7) rfl rfl Tryd.func36 (by kernel_rfl) rfl #[.slice A0 l0.length c0, .func (.func 50) #[] #[.pointer A3]] rfl apE ?_; (with_reducible refine (ih_impl_Value_36_at_valueOk_1 k (by omega) _ _ l0 A2 c2 l2 A3 c3 l3 t258 _ ?side1 ?side2 ?side3 ?side4 ?side5 ?side6 ?side7 A5.out).mono ?_); (case side1 => repeat (first | exact HR0.out | (with_reducible refine Kd.C_alloc ?_ _) | (with_reducible refine Kd.C_drewN ?_ _) | (with_reducible refine Kd.C_drew ?_))); (case side2 => exact HC0.out); (case side3 => repeat (first | exact HR2.out | (with_reducible refine Kd.C_alloc ?_ _) | (with_reducible refine Kd.C_drewN ?_ _) | (with_reducible refine Kd.C_drew ?_))); (case side4 => exact HC2.out); (case side5 => repeat (first | exact HR3.out | (with_reducible refine Kd.C_alloc ?_ _) | (with_reducible refine Kd.C_drewN ?_ _) | (with_reducible refine Kd.C_drew ?_))); (case side6 => exact HC3.out); (case side7 => exact HG2.out); rintro e w6 ⟨rfl, hb⟩; refine ⟨_, rfl, ?_⟩; replace HB := zA (zP apA hb); (try clear hb); (try clear hb2); (try clear hk); (try clear hi)))
 go_ret
 exact ⟨apD, apA⟩

set_option maxHeartbeats 8000000 in
set_option maxRecDepth 100000 in
theorem impl_Value_36_at_valueOk_1.step (k : Nat) (ih_impl_Value_27_at_valueOk_1 : ∀ m, m < k → impl_Value_27_at_valueOk_1.Spec m) (ih_impl_Value_36_at_valueOk_1 : ∀ m, m < k → impl_Value_36_at_valueOk_1.Spec m) (ih_impl_valueOk : ∀ m, m < k → impl_valueOk.Spec m) (ih_impl_valueOk_1 : ∀ m, m < k → impl_valueOk_1.Spec m) : impl_Value_36_at_valueOk_1.Spec k := by
 intro A0 c0 l0 A2 c2 l2 A3 c3 l3 r w hr0 hc0 hr2 hc2 hr3 hc3 hg2 h
 cases k with
 | zero => exact absurd h (by simp [impl_Value_36_at_valueOk_1.f])
 | succ k =>
 simp only [impl_Value_36_at_valueOk_1.f] at h
 have hu34 := Tryd.underlying34
 have HR0 := zA hr0
 have HC0 := zA hc0
 clear hr0 hc0
 have HG2 := zA hg2
 clear hg2
 have HR2 := zA hr2
 have HC2 := zA hc2
 clear hr2 hc2
 have HR3 := zA hr3
 have HC3 := zA hc3
 clear hr3 hc3
 have HB := zA (yH w.heap.size w)
 have H : (impl_Value_36_at_valueOk_1.l0 k l0 (l0.length : Int) 0 l3 l2) = some r := h
 clear h
 have H' := zA H
 clear H
 go_enter Tryd.func36, Tryd.ntmps36
 go_wp2
 go_loopg [8] k (fun kq v8 w' => ∃ (x8_1 : Int), v8 = .int .i64 x8_1 ∧ Aside0 (impl_Value_36_at_valueOk_1.l0 kq l0 (l0.length : Int) x8_1 l3 l2 = some r) ∧ Aside0 (kq ≤ k) ∧ Aside0 (Below w.heap.size w w'))
 case atStart => exact ⟨(0), apC, H', ⟨yJ _⟩, ⟨apA⟩⟩
 case round =>
  clear H'
  try clear c2 p2 c3
  obtain ⟨x8_1, rfl, HA, HK1, HB⟩ := hrel
  cases gk with
  | zero => exact absurd HA.out (by simp [impl_Value_36_at_valueOk_1.l0])
  | succ k1 =>
   have H := HA.out
   clear HA
   simp only [impl_Value_36_at_valueOk_1.l0] at H
   by_cases c5 : x8_1 < (l0.length : Int)
   ·rw [if_pos c5] at H
    have c5b0 : decide (x8_1 < (l0.length : Int)) = true := yE c5
    clear c5
    by_cases c6 : 0 ≤ x8_1
    ·rw [if_pos c6] at H
     have c6b0 : decide (0 ≤ x8_1) = true := yE c6
     clear c6
     by_cases c7 : x8_1 < (l0.length : Int)
     ·rw [if_pos c7] at H
      have c7b0 : decide (x8_1 < (l0.length : Int)) = true := yE c7
      clear c7
      replace H := Option.bind_eq_some_iff.mp H
      obtain ⟨t260, A80, H⟩ := H
      have A8 := zA A80
      clear A80
      by_cases c9 : t260 = true
      ·subst c9
       have H1 := H; rw [if_pos rfl] at H1
       clear H
       have H := H1
       clear H1
       obtain rfl := yG H
       have p259 : 0 ≤ (x8_1 : Int) := yF apB
       have q259 : x8_1 < (l0.length : Int) := yF apB
       obtain ⟨ad259, A259_4, c259_4, A259_5, c259_5, e259, hx259_0, hx259_1, hx259_2, hx259_3, hx259_4, hx259_5, hl259_4, hi259_4, hl259_5, hi259_5⟩ := at_T34 HR0.out x8_1 p259 q259
       cases e259
       replace hx259_0 := (HB.out.cell (zR w _ hx259_0)).trans hx259_0
       replace hx259_1 := (HB.out.cell (zR w _ hx259_1)).trans hx259_1
       replace hx259_2 := (HB.out.cell (zR w _ hx259_2)).trans hx259_2
       replace hx259_3 := (HB.out.cell (zR w _ hx259_3)).trans hx259_3
       replace hx259_4 := (HB.out.cell (zR w _ hx259_4)).trans hx259_4
       replace hx259_5 := (HB.out.cell (zR w _ hx259_5)).trans hx259_5
       have HR259_4 := zA hi259_4
       have HC259_4 := zA hl259_4
       clear hi259_4 hl259_4
       have HR259_5 := zA hi259_5
       have HC259_5 := zA hl259_5
       clear hi259_5 hl259_5
       replace p259 := eq_true p259
       replace q259 := eq_true q259
       go_wp2_with (first | ((refine gate_calleevc (f := 50) rfl rfl ?_); refine goesvcL_ (some 16) rfl rfl Tryd.func50 (by kernel_rfl) rfl #[.agg #[.int .i64 ((rd_T34 l0 x8_1).f0), .int .i64 ((rd_T34 l0 x8_1).f1.f0), .int .i64 ((rd_T34 l0 x8_1).f1.f1), .string ((rd_T34 l0 x8_1).f2), .slice A259_4 ((rd_T34 l0 x8_1).f3).length c259_4, .slice A259_5 ((rd_T34 l0 x8_1).f4).length c259_5], .pointer A3] rfl rfl apE ?_; (with_reducible refine (ih_impl_valueOk_1 k1 (by have := HK1.out; omega) ((rd_T34 l0 x8_1).f0) ((rd_T34 l0 x8_1).f1.f0) ((rd_T34 l0 x8_1).f1.f1) ((rd_T34 l0 x8_1).f2) _ _ ((rd_T34 l0 x8_1).f3) _ _ ((rd_T34 l0 x8_1).f4) A2 c2 l2 A3 c3 l3 true _ ?side1 ?side2 ?side3 ?side4 ?side5 ?side6 ?side7 ?side8 ?side9 A8.out).mono ?_); (case side1 => exact vc (Kd.C_below HR259_4.out HB.out)); (case side2 => exact HC259_4.out); (case side3 => exact vc (Kd.C_below HR259_5.out HB.out)); (case side4 => exact HC259_5.out); (case side5 => exact vc (Kd.C_below HR2.out HB.out)); (case side6 => exact HC2.out); (case side7 => exact vc (Kd.C_below HR3.out HB.out)); (case side8 => exact HC3.out); (case side9 => exact HG2.out); rintro e w10 ⟨rfl, hb⟩; refine ⟨_, rfl, ?_⟩; replace HB := zA (zP apA hb); (try clear hb); (try clear hb2); (try clear hk); (try clear hi)))
       go_ret
       exact ⟨apD, apA⟩
      ·replace c9 := Bool.eq_false_iff.mpr c9
       subst c9
       have H1 := H; rw [if_neg (show ¬ (false = true) by decide)] at H1
       clear H
       have H := H1
       clear H1
       have H' := zA H
       clear H
       have p259 : 0 ≤ (x8_1 : Int) := yF apB
       have q259 : x8_1 < (l0.length : Int) := yF apB
       obtain ⟨ad259, A259_4, c259_4, A259_5, c259_5, e259, hx259_0, hx259_1, hx259_2, hx259_3, hx259_4, hx259_5, hl259_4, hi259_4, hl259_5, hi259_5⟩ := at_T34 HR0.out x8_1 p259 q259
       cases e259
       replace hx259_0 := (HB.out.cell (zR w _ hx259_0)).trans hx259_0
       replace hx259_1 := (HB.out.cell (zR w _ hx259_1)).trans hx259_1
       replace hx259_2 := (HB.out.cell (zR w _ hx259_2)).trans hx259_2
       replace hx259_3 := (HB.out.cell (zR w _ hx259_3)).trans hx259_3
       replace hx259_4 := (HB.out.cell (zR w _ hx259_4)).trans hx259_4
       replace hx259_5 := (HB.out.cell (zR w _ hx259_5)).trans hx259_5
       have HR259_4 := zA hi259_4
       have HC259_4 := zA hl259_4
       clear hi259_4 hl259_4
       have HR259_5 := zA hi259_5
       have HC259_5 := zA hl259_5
       clear hi259_5 hl259_5
       replace p259 := eq_true p259
       replace q259 := eq_true q259
       go_wp2_with (first | ((refine gate_calleevc (f := 50) rfl rfl ?_); refine goesvcL_ (some 16) rfl rfl Tryd.func50 (by kernel_rfl) rfl #[.agg #[.int .i64 ((rd_T34 l0 x8_1).f0), .int .i64 ((rd_T34 l0 x8_1).f1.f0), .int .i64 ((rd_T34 l0 x8_1).f1.f1), .string ((rd_T34 l0 x8_1).f2), .slice A259_4 ((rd_T34 l0 x8_1).f3).length c259_4, .slice A259_5 ((rd_T34 l0 x8_1).f4).length c259_5], .pointer A3] rfl rfl apE ?_; (with_reducible refine (ih_impl_valueOk_1 k1 (by have := HK1.out; omega) ((rd_T34 l0 x8_1).f0) ((rd_T34 l0 x8_1).f1.f0) ((rd_T34 l0 x8_1).f1.f1) ((rd_T34 l0 x8_1).f2) _ _ ((rd_T34 l0 x8_1).f3) _ _ ((rd_T34 l0 x8_1).f4) A2 c2 l2 A3 c3 l3 false _ ?side1 ?side2 ?side3 ?side4 ?side5 ?side6 ?side7 ?side8 ?side9 A8.out).mono ?_); (case side1 => exact vc (Kd.C_below HR259_4.out HB.out)); (case side2 => exact HC259_4.out); (case side3 => exact vc (Kd.C_below HR259_5.out HB.out)); (case side4 => exact HC259_5.out); (case side5 => exact vc (Kd.C_below HR2.out HB.out)); (case side6 => exact HC2.out); (case side7 => exact vc (Kd.C_below HR3.out HB.out)); (case side8 => exact HC3.out); (case side9 => exact HG2.out); rintro e w11 ⟨rfl, hb⟩; refine ⟨_, rfl, ?_⟩; replace HB := zA (zP apA hb); (try clear hb); (try clear hb2); (try clear hk); (try clear hi)))
       go_roundg k1
       case measure => have := HK1.out; omega
       case rel => exact ⟨(wrap64 (x8_1 + 1)), apC, H', ⟨by have := HK1.out; omega⟩, ⟨apA⟩⟩
     ·rw [if_neg c7] at H
      exact absurd H (by simp)
    ·rw [if_neg c6] at H
     exact absurd H (by simp)
   ·rw [if_neg c5] at H
    have c5b0 : decide (x8_1 < (l0.length : Int)) = false := decide_eq_false c5
    clear c5
    obtain rfl := yG H
    go_wp2
    go_ret
    exact ⟨apD, apA⟩

set_option maxHeartbeats 8000000 in
set_option maxRecDepth 100000 in
theorem impl_valueOk.step (k : Nat) (ih_impl_Value_27_at_valueOk_1 : ∀ m, m < k → impl_Value_27_at_valueOk_1.Spec m) (ih_impl_Value_36_at_valueOk_1 : ∀ m, m < k → impl_Value_36_at_valueOk_1.Spec m) (ih_impl_valueOk : ∀ m, m < k → impl_valueOk.Spec m) (ih_impl_valueOk_1 : ∀ m, m < k → impl_valueOk_1.Spec m) : impl_valueOk.Spec k := by
 intro a0_0 a0_1 a0_2 a0_3 A0_4 c0_4 l0_4 A0_5 c0_5 l0_5 a1 A2 c2 l2 r w hr0_4 hc0_4 hr0_5 hc0_5 hr2 hc2 hg2 h
 cases k with
 | zero => exact absurd h (by simp [impl_valueOk.f])
 | succ k =>
 simp only [impl_valueOk.f] at h
 have hu34 := Tryd.underlying34
 have hu31 := Tryd.underlying31
 have HR0_4 := zA hr0_4
 have HC0_4 := zA hc0_4
 clear hr0_4 hc0_4
 have HR0_5 := zA hr0_5
 have HC0_5 := zA hc0_5
 clear hr0_5 hc0_5
 have HG2 := zA hg2
 clear hg2
 have HR2 := zA hr2
 have HC2 := zA hc2
 clear hr2 hc2
 have HB := zA (yH w.heap.size w)
 have H : (if a1 = 0 then (impl_valueOk.j0 k true l2 a0_0 a0_1 a0_2 a0_3 l0_4 l0_5 a1) else (if a0_0 = 3 then (if a0_0 = 4 then (if a0_0 < 5 then (if (l0_4.length : Int) > 0 then (impl_valueOk.j0 k true l2 a0_0 a0_1 a0_2 a0_3 l0_4 l0_5 a1) else (if a0_0 = 6 then (impl_valueOk.j0 k false l2 a0_0 a0_1 a0_2 a0_3 l0_4 l0_5 a1) else (impl_valueOk.j0 k (decide ((l0_5.length : Int) > 0)) l2 a0_0 a0_1 a0_2 a0_3 l0_4 l0_5 a1))) else (if a0_0 = 6 then (impl_valueOk.j0 k false l2 a0_0 a0_1 a0_2 a0_3 l0_4 l0_5 a1) else (impl_valueOk.j0 k (decide ((l0_5.length : Int) > 0)) l2 a0_0 a0_1 a0_2 a0_3 l0_4 l0_5 a1))) else (if a0_3.toList = ([] : List UInt8) then (if a0_0 < 5 then (if (l0_4.length : Int) > 0 then (impl_valueOk.j0 k true l2 a0_0 a0_1 a0_2 a0_3 l0_4 l0_5 a1) else (if a0_0 = 6 then (impl_valueOk.j0 k false l2 a0_0 a0_1 a0_2 a0_3 l0_4 l0_5 a1) else (impl_valueOk.j0 k (decide ((l0_5.length : Int) > 0)) l2 a0_0 a0_1 a0_2 a0_3 l0_4 l0_5 a1))) else (if a0_0 = 6 then (impl_valueOk.j0 k false l2 a0_0 a0_1 a0_2 a0_3 l0_4 l0_5 a1) else (impl_valueOk.j0 k (decide ((l0_5.length : Int) > 0)) l2 a0_0 a0_1 a0_2 a0_3 l0_4 l0_5 a1))) else (impl_valueOk.j0 k true l2 a0_0 a0_1 a0_2 a0_3 l0_4 l0_5 a1))) else (if (!(a0_1 == 0) || (!(a0_2 == 0))) = true then (impl_valueOk.j0 k true l2 a0_0 a0_1 a0_2 a0_3 l0_4 l0_5 a1) else (if a0_0 = 4 then (if a0_0 < 5 then (if (l0_4.length : Int) > 0 then (impl_valueOk.j0 k true l2 a0_0 a0_1 a0_2 a0_3 l0_4 l0_5 a1) else (if a0_0 = 6 then (impl_valueOk.j0 k false l2 a0_0 a0_1 a0_2 a0_3 l0_4 l0_5 a1) else (impl_valueOk.j0 k (decide ((l0_5.length : Int) > 0)) l2 a0_0 a0_1 a0_2 a0_3 l0_4 l0_5 a1))) else (if a0_0 = 6 then (impl_valueOk.j0 k false l2 a0_0 a0_1 a0_2 a0_3 l0_4 l0_5 a1) else (impl_valueOk.j0 k (decide ((l0_5.length : Int) > 0)) l2 a0_0 a0_1 a0_2 a0_3 l0_4 l0_5 a1))) else (if a0_3.toList = ([] : List UInt8) then (if a0_0 < 5 then (if (l0_4.length : Int) > 0 then (impl_valueOk.j0 k true l2 a0_0 a0_1 a0_2 a0_3 l0_4 l0_5 a1) else (if a0_0 = 6 then (impl_valueOk.j0 k false l2 a0_0 a0_1 a0_2 a0_3 l0_4 l0_5 a1) else (impl_valueOk.j0 k (decide ((l0_5.length : Int) > 0)) l2 a0_0 a0_1 a0_2 a0_3 l0_4 l0_5 a1))) else (if a0_0 = 6 then (impl_valueOk.j0 k false l2 a0_0 a0_1 a0_2 a0_3 l0_4 l0_5 a1) else (impl_valueOk.j0 k (decide ((l0_5.length : Int) > 0)) l2 a0_0 a0_1 a0_2 a0_3 l0_4 l0_5 a1))) else (impl_valueOk.j0 k true l2 a0_0 a0_1 a0_2 a0_3 l0_4 l0_5 a1)))))) = some r := h
 clear h
 have HC4 := zA H
 clear H
 go_enter Tryd.func37, Tryd.ntmps37
 go_upto_region 1 with (first | ((with_reducible refine zS (N := 2) rfl ?_); (try (refine gate_guard (by rfl) ?_; dsimp only)); refine zW ?hg (N := 2) ?hd (cs := #[.int .i64 a0_0, .int .i64 a0_1, .int .i64 a0_2, .string a0_3, .slice A0_4 l0_4.length c0_4, .slice A0_5 l0_5.length c0_5]) (t := 34) ?hr ?_; (case hd => rfl); (case hg => rfl); (case hr => first | (go_simp; done) | (go_simp; rfl)); intro gb261 hg w5 hbox hb; have BK261 := zA (hbox); have GW261 := zA ((by rw [hg]; exact (zQ apA) : w.heap.size ≤ gb261)); have GE261 := zA ((by rw [hg]; exact (zQ apA) : w.heap.size ≤ gb261)); replace HB := zA (zP apA hb); clear hb hbox hg) | ((with_reducible refine zS (N := 3) rfl ?_); (try (refine gate_guard (by rfl) ?_; dsimp only)); refine zW ?hg (N := 3) ?hd (cs := #[.int .i64 a1]) (t := 3) ?hr ?_; (case hd => rfl); (case hg => rfl); (case hr => first | (go_simp; done) | (go_simp; rfl)); intro gb262 hg w6 hbox hb; have BK262 := zA (hbox); have GW262 := zA ((by rw [hg]; exact (zQ (by repeat (first | (with_reducible first | exact HB.out | apply zG | apply zE | apply zF | refine zH ?_ GE261.out) | exact HB.out))) : w.heap.size ≤ gb262)); have GE262 := zA ((by rw [hg]; exact (zQ (by repeat (first | (with_reducible first | exact HB.out | apply zG | apply zE | apply zF | refine zH ?_ GE261.out) | exact HB.out))) : w.heap.size ≤ gb262)); replace HB := zA (zP (by repeat (first | (with_reducible first | exact HB.out | apply zG | apply zE | apply zF | refine zH ?_ GE261.out) | exact HB.out)) hb); have NB261_262 := zA ((by rw [hg]; exact Nat.ne_of_lt (blk_lt (g := gb261) (o := .cells #[.int .i64 a0_0, .int .i64 a0_1, .int .i64 a0_2, .string a0_3, .slice A0_4 l0_4.length c0_4, .slice A0_5 l0_5.length c0_5] 34 (0, 0)) apI) : gb261 ≠ gb262)); have NB262_261 := zA ((by rw [hg]; exact Nat.ne_of_gt (blk_lt (g := gb261) (o := .cells #[.int .i64 a0_0, .int .i64 a0_1, .int .i64 a0_2, .string a0_3, .slice A0_4 l0_4.length c0_4, .slice A0_5 l0_5.length c0_5] 34 (0, 0)) apI) : gb262 ≠ gb261)); replace BK261 := zA (zN (g := gb261) (o := .cells #[.int .i64 a0_0, .int .i64 a0_1, .int .i64 a0_2, .string a0_3, .slice A0_4 l0_4.length c0_4, .slice A0_5 l0_5.length c0_5] 34 (0, 0)) apI hb); clear hb hbox hg))
 (try simp only [Act.put, zK, zL, zM])
 go_cut [51] (fun v51 wc => ∃ (kq : Nat) (x51_3 : Bool), v51 = .bool x51_3 ∧ Aside0 (impl_valueOk.j0 kq x51_3 l2 a0_0 a0_1 a0_2 a0_3 l0_4 l0_5 a1 = some r) ∧ Aside0 (kq ≤ k) ∧ Aside0 (wc.heap[gb261]? = some (.cells #[.int .i64 a0_0, .int .i64 a0_1, .int .i64 a0_2, .string a0_3, (.slice A0_4 l0_4.length c0_4), (.slice A0_5 l0_5.length c0_5)] 34 (0, 0))) ∧ Aside0 (wc.heap[gb262]? = some (.cells #[.int .i64 a1] 3 (0, 0))) ∧ Aside0 (Below w.heap.size w wc))
 case first =>
  have H := HC4.out
  clear HC4
  by_cases c7 : a1 = 0
  ·rw [if_pos c7] at H
   have c7b0 : (a1 == 0) = true := beq_iff_eq.mpr c7
   have c7b1 : (a1 != 0) = false := bne_eq_false_iff_eq.mpr c7
   clear c7
   (first | rw [c7b0] | (simp only [i64_w, i32_w]; rw [c7b0]) | skip)
   have H' := zA H
   clear H
   have hnb8 := NB262_261.out
   have hnc8 := NB261_262.out
   obtain ⟨hcz9_0, hfz9_0⟩ := zb1 BK262.out
   go_wp2
   go_meet
   case rel => exact ⟨_, (true), apC, H', ⟨by first | omega | exact yJ _⟩, ⟨apI⟩, ⟨apG⟩, ⟨apH⟩⟩
  ·rw [if_neg c7] at H
   have c7b0 : (a1 == 0) = false := beq_eq_false_iff_ne.mpr c7
   have c7b1 : (a1 != 0) = true := bne_iff_ne.mpr c7
   (first | rw [c7b0] | (simp only [i64_w, i32_w]; rw [c7b0]) | skip)
   by_cases c10 : a0_0 = 3
   ·rw [if_pos c10] at H
    have c10b0 : (a0_0 == 3) = true := beq_iff_eq.mpr c10
    have c10b1 : (a0_0 != 3) = false := bne_eq_false_iff_eq.mpr c10
    clear c10
    by_cases c11 : a0_0 = 4
    ·rw [if_pos c11] at H
     have c11b0 : (a0_0 == 4) = true := beq_iff_eq.mpr c11
     have c11b1 : (a0_0 != 4) = false := bne_eq_false_iff_eq.mpr c11
     clear c11
     by_cases c12 : a0_0 < 5
     ·rw [if_pos c12] at H
      have c12b0 : decide (a0_0 < 5) = true := yE c12
      clear c12
      by_cases c13 : (l0_4.length : Int) > 0
      ·rw [if_pos c13] at H
       have c13b0 : decide (0 < (l0_4.length : Int)) = true := yE c13
       have c13b1 : decide (0 < l0_4.length) = true := yE (by omega)
       clear c13
       have H' := zA H
       clear H
       have hnb14 := NB262_261.out
       have hnc14 := NB261_262.out
       obtain ⟨hcz15_0, hfz15_0⟩ := zb1 BK262.out
       obtain ⟨hcz16_0, hcz16_1, hcz16_2, hcz16_3, hcz16_4, hcz16_5, hfz16_0, hfz16_1, hfz16_2, hfz16_3, hfz16_4, hfz16_5⟩ := zb6 BK261.out
       go_wp2
       go_meet
       case rel => exact ⟨_, (true), apC, H', ⟨by first | omega | exact yJ _⟩, ⟨apI⟩, ⟨apG⟩, ⟨apH⟩⟩
      ·rw [if_neg c13] at H
       have c13b0 : decide (0 < (l0_4.length : Int)) = false := decide_eq_false c13
       have c13b1 : decide (0 < l0_4.length) = false := decide_eq_false (by omega)
       clear c13
       by_cases c17 : a0_0 = 6
       ·rw [if_pos c17] at H
        have c17b0 : (a0_0 == 6) = true := beq_iff_eq.mpr c17
        have c17b1 : (a0_0 != 6) = false := bne_eq_false_iff_eq.mpr c17
        clear c17
        have H' := zA H
        clear H
        have hnb18 := NB262_261.out
        have hnc18 := NB261_262.out
        obtain ⟨hcz19_0, hfz19_0⟩ := zb1 BK262.out
        obtain ⟨hcz20_0, hcz20_1, hcz20_2, hcz20_3, hcz20_4, hcz20_5, hfz20_0, hfz20_1, hfz20_2, hfz20_3, hfz20_4, hfz20_5⟩ := zb6 BK261.out
        go_wp2
        go_meet
        case rel => exact ⟨_, (false), apC, H', ⟨by first | omega | exact yJ _⟩, ⟨apI⟩, ⟨apG⟩, ⟨apH⟩⟩
       ·rw [if_neg c17] at H
        have c17b0 : (a0_0 == 6) = false := beq_eq_false_iff_ne.mpr c17
        have c17b1 : (a0_0 != 6) = true := bne_iff_ne.mpr c17
        have H' := zA H
        clear H
        have hnb21 := NB262_261.out
        have hnc21 := NB261_262.out
        obtain ⟨hcz22_0, hfz22_0⟩ := zb1 BK262.out
        obtain ⟨hcz23_0, hcz23_1, hcz23_2, hcz23_3, hcz23_4, hcz23_5, hfz23_0, hfz23_1, hfz23_2, hfz23_3, hfz23_4, hfz23_5⟩ := zb6 BK261.out
        go_wp2
        go_meet
        case rel => exact ⟨_, (decide ((l0_5.length : Int) > 0)), apC, H', ⟨by first | omega | exact yJ _⟩, ⟨apI⟩, ⟨apG⟩, ⟨apH⟩⟩
     ·rw [if_neg c12] at H
      have c12b0 : decide (a0_0 < 5) = false := decide_eq_false c12
      clear c12
      by_cases c24 : a0_0 = 6
      ·rw [if_pos c24] at H
       have c24b0 : (a0_0 == 6) = true := beq_iff_eq.mpr c24
       have c24b1 : (a0_0 != 6) = false := bne_eq_false_iff_eq.mpr c24
       clear c24
       have H' := zA H
       clear H
       have hnb25 := NB262_261.out
       have hnc25 := NB261_262.out
       obtain ⟨hcz26_0, hfz26_0⟩ := zb1 BK262.out
       obtain ⟨hcz27_0, hcz27_1, hcz27_2, hcz27_3, hcz27_4, hcz27_5, hfz27_0, hfz27_1, hfz27_2, hfz27_3, hfz27_4, hfz27_5⟩ := zb6 BK261.out
       go_wp2
       go_meet
       case rel => exact ⟨_, (false), apC, H', ⟨by first | omega | exact yJ _⟩, ⟨apI⟩, ⟨apG⟩, ⟨apH⟩⟩
      ·rw [if_neg c24] at H
       have c24b0 : (a0_0 == 6) = false := beq_eq_false_iff_ne.mpr c24
       have c24b1 : (a0_0 != 6) = true := bne_iff_ne.mpr c24
       have H' := zA H
       clear H
       have hnb28 := NB262_261.out
       have hnc28 := NB261_262.out
       obtain ⟨hcz29_0, hfz29_0⟩ := zb1 BK262.out
       obtain ⟨hcz30_0, hcz30_1, hcz30_2, hcz30_3, hcz30_4, hcz30_5, hfz30_0, hfz30_1, hfz30_2, hfz30_3, hfz30_4, hfz30_5⟩ := zb6 BK261.out
       go_wp2
       go_meet
       case rel => exact ⟨_, (decide ((l0_5.length : Int) > 0)), apC, H', ⟨by first | omega | exact yJ _⟩, ⟨apI⟩, ⟨apG⟩, ⟨apH⟩⟩
    ·rw [if_neg c11] at H
     have c11b0 : (a0_0 == 4) = false := beq_eq_false_iff_ne.mpr c11
     have c11b1 : (a0_0 != 4) = true := bne_iff_ne.mpr c11
     by_cases c31 : a0_3.toList = ([] : List UInt8)
     ·rw [if_pos c31] at H
      have c31b0 : (a0_3.toList == ([] : List UInt8)) = true := beq_iff_eq.mpr c31
      have c31b1 : (a0_3.toList != ([] : List UInt8)) = false := bne_eq_false_iff_eq.mpr c31
      clear c31
      by_cases c32 : a0_0 < 5
      ·rw [if_pos c32] at H
       have c32b0 : decide (a0_0 < 5) = true := yE c32
       clear c32
       by_cases c33 : (l0_4.length : Int) > 0
       ·rw [if_pos c33] at H
        have c33b0 : decide (0 < (l0_4.length : Int)) = true := yE c33
        have c33b1 : decide (0 < l0_4.length) = true := yE (by omega)
        clear c33
        have H' := zA H
        clear H
        have hnb34 := NB262_261.out
        have hnc34 := NB261_262.out
        obtain ⟨hcz35_0, hfz35_0⟩ := zb1 BK262.out
        obtain ⟨hcz36_0, hcz36_1, hcz36_2, hcz36_3, hcz36_4, hcz36_5, hfz36_0, hfz36_1, hfz36_2, hfz36_3, hfz36_4, hfz36_5⟩ := zb6 BK261.out
        go_wp2
        go_meet
        case rel => exact ⟨_, (true), apC, H', ⟨by first | omega | exact yJ _⟩, ⟨apI⟩, ⟨apG⟩, ⟨apH⟩⟩
       ·rw [if_neg c33] at H
        have c33b0 : decide (0 < (l0_4.length : Int)) = false := decide_eq_false c33
        have c33b1 : decide (0 < l0_4.length) = false := decide_eq_false (by omega)
        clear c33
        by_cases c37 : a0_0 = 6
        ·rw [if_pos c37] at H
         have c37b0 : (a0_0 == 6) = true := beq_iff_eq.mpr c37
         have c37b1 : (a0_0 != 6) = false := bne_eq_false_iff_eq.mpr c37
         clear c37
         have H' := zA H
         clear H
         have hnb38 := NB262_261.out
         have hnc38 := NB261_262.out
         obtain ⟨hcz39_0, hfz39_0⟩ := zb1 BK262.out
         obtain ⟨hcz40_0, hcz40_1, hcz40_2, hcz40_3, hcz40_4, hcz40_5, hfz40_0, hfz40_1, hfz40_2, hfz40_3, hfz40_4, hfz40_5⟩ := zb6 BK261.out
         go_wp2
         go_meet
         case rel => exact ⟨_, (false), apC, H', ⟨by first | omega | exact yJ _⟩, ⟨apI⟩, ⟨apG⟩, ⟨apH⟩⟩
        ·rw [if_neg c37] at H
         have c37b0 : (a0_0 == 6) = false := beq_eq_false_iff_ne.mpr c37
         have c37b1 : (a0_0 != 6) = true := bne_iff_ne.mpr c37
         have H' := zA H
         clear H
         have hnb41 := NB262_261.out
         have hnc41 := NB261_262.out
         obtain ⟨hcz42_0, hfz42_0⟩ := zb1 BK262.out
         obtain ⟨hcz43_0, hcz43_1, hcz43_2, hcz43_3, hcz43_4, hcz43_5, hfz43_0, hfz43_1, hfz43_2, hfz43_3, hfz43_4, hfz43_5⟩ := zb6 BK261.out
         go_wp2
         go_meet
         case rel => exact ⟨_, (decide ((l0_5.length : Int) > 0)), apC, H', ⟨by first | omega | exact yJ _⟩, ⟨apI⟩, ⟨apG⟩, ⟨apH⟩⟩
      ·rw [if_neg c32] at H
       have c32b0 : decide (a0_0 < 5) = false := decide_eq_false c32
       clear c32
       by_cases c44 : a0_0 = 6
       ·rw [if_pos c44] at H
        have c44b0 : (a0_0 == 6) = true := beq_iff_eq.mpr c44
        have c44b1 : (a0_0 != 6) = false := bne_eq_false_iff_eq.mpr c44
        clear c44
        have H' := zA H
        clear H
        have hnb45 := NB262_261.out
        have hnc45 := NB261_262.out
        obtain ⟨hcz46_0, hfz46_0⟩ := zb1 BK262.out
        obtain ⟨hcz47_0, hcz47_1, hcz47_2, hcz47_3, hcz47_4, hcz47_5, hfz47_0, hfz47_1, hfz47_2, hfz47_3, hfz47_4, hfz47_5⟩ := zb6 BK261.out
        go_wp2
        go_meet
        case rel => exact ⟨_, (false), apC, H', ⟨by first | omega | exact yJ _⟩, ⟨apI⟩, ⟨apG⟩, ⟨apH⟩⟩
       ·rw [if_neg c44] at H
        have c44b0 : (a0_0 == 6) = false := beq_eq_false_iff_ne.mpr c44
        have c44b1 : (a0_0 != 6) = true := bne_iff_ne.mpr c44
        have H' := zA H
        clear H
        have hnb48 := NB262_261.out
        have hnc48 := NB261_262.out
        obtain ⟨hcz49_0, hfz49_0⟩ := zb1 BK262.out
        obtain ⟨hcz50_0, hcz50_1, hcz50_2, hcz50_3, hcz50_4, hcz50_5, hfz50_0, hfz50_1, hfz50_2, hfz50_3, hfz50_4, hfz50_5⟩ := zb6 BK261.out
        go_wp2
        go_meet
        case rel => exact ⟨_, (decide ((l0_5.length : Int) > 0)), apC, H', ⟨by first | omega | exact yJ _⟩, ⟨apI⟩, ⟨apG⟩, ⟨apH⟩⟩
     ·rw [if_neg c31] at H
      have c31b0 : (a0_3.toList == ([] : List UInt8)) = false := beq_eq_false_iff_ne.mpr c31
      have c31b1 : (a0_3.toList != ([] : List UInt8)) = true := bne_iff_ne.mpr c31
      have H' := zA H
      clear H
      have hnb51 := NB262_261.out
      have hnc51 := NB261_262.out
      obtain ⟨hcz52_0, hfz52_0⟩ := zb1 BK262.out
      obtain ⟨hcz53_0, hcz53_1, hcz53_2, hcz53_3, hcz53_4, hcz53_5, hfz53_0, hfz53_1, hfz53_2, hfz53_3, hfz53_4, hfz53_5⟩ := zb6 BK261.out
      go_wp2
      go_meet
      case rel => exact ⟨_, (true), apC, H', ⟨by first | omega | exact yJ _⟩, ⟨apI⟩, ⟨apG⟩, ⟨apH⟩⟩
   ·rw [if_neg c10] at H
    have c10b0 : (a0_0 == 3) = false := beq_eq_false_iff_ne.mpr c10
    have c10b1 : (a0_0 != 3) = true := bne_iff_ne.mpr c10
    by_cases c54 : (!(a0_1 == 0) || (!(a0_2 == 0))) = true
    ·rw [if_pos c54] at H
     have c54b0 : (!(a0_1 == 0) || (!(a0_2 == 0))) = true := c54
     clear c54
     have H' := zA H
     clear H
     have hnb55 := NB262_261.out
     have hnc55 := NB261_262.out
     obtain ⟨hcz56_0, hfz56_0⟩ := zb1 BK262.out
     obtain ⟨hcz57_0, hcz57_1, hcz57_2, hcz57_3, hcz57_4, hcz57_5, hfz57_0, hfz57_1, hfz57_2, hfz57_3, hfz57_4, hfz57_5⟩ := zb6 BK261.out
     go_wp2
     go_meet
     case rel => exact ⟨_, (true), apC, H', ⟨by first | omega | exact yJ _⟩, ⟨apI⟩, ⟨apG⟩, ⟨apH⟩⟩
    ·rw [if_neg c54] at H
     have c54b0 : (!(a0_1 == 0) || (!(a0_2 == 0))) = false := by simpa using c54
     clear c54
     by_cases c58 : a0_0 = 4
     ·rw [if_pos c58] at H
      have c58b0 : (a0_0 == 4) = true := beq_iff_eq.mpr c58
      have c58b1 : (a0_0 != 4) = false := bne_eq_false_iff_eq.mpr c58
      clear c58
      by_cases c59 : a0_0 < 5
      ·rw [if_pos c59] at H
       have c59b0 : decide (a0_0 < 5) = true := yE c59
       clear c59
       by_cases c60 : (l0_4.length : Int) > 0
       ·rw [if_pos c60] at H
        have c60b0 : decide (0 < (l0_4.length : Int)) = true := yE c60
        have c60b1 : decide (0 < l0_4.length) = true := yE (by omega)
        clear c60
        have H' := zA H
        clear H
        have hnb61 := NB262_261.out
        have hnc61 := NB261_262.out
        obtain ⟨hcz62_0, hfz62_0⟩ := zb1 BK262.out
        obtain ⟨hcz63_0, hcz63_1, hcz63_2, hcz63_3, hcz63_4, hcz63_5, hfz63_0, hfz63_1, hfz63_2, hfz63_3, hfz63_4, hfz63_5⟩ := zb6 BK261.out
        go_wp2
        go_meet
        case rel => exact ⟨_, (true), apC, H', ⟨by first | omega | exact yJ _⟩, ⟨apI⟩, ⟨apG⟩, ⟨apH⟩⟩
       ·rw [if_neg c60] at H
        have c60b0 : decide (0 < (l0_4.length : Int)) = false := decide_eq_false c60
        have c60b1 : decide (0 < l0_4.length) = false := decide_eq_false (by omega)
        clear c60
        by_cases c64 : a0_0 = 6
        ·rw [if_pos c64] at H
         have c64b0 : (a0_0 == 6) = true := beq_iff_eq.mpr c64
         have c64b1 : (a0_0 != 6) = false := bne_eq_false_iff_eq.mpr c64
         clear c64
         have H' := zA H
         clear H
         have hnb65 := NB262_261.out
         have hnc65 := NB261_262.out
         obtain ⟨hcz66_0, hfz66_0⟩ := zb1 BK262.out
         obtain ⟨hcz67_0, hcz67_1, hcz67_2, hcz67_3, hcz67_4, hcz67_5, hfz67_0, hfz67_1, hfz67_2, hfz67_3, hfz67_4, hfz67_5⟩ := zb6 BK261.out
         go_wp2
         go_meet
         case rel => exact ⟨_, (false), apC, H', ⟨by first | omega | exact yJ _⟩, ⟨apI⟩, ⟨apG⟩, ⟨apH⟩⟩
        ·rw [if_neg c64] at H
         have c64b0 : (a0_0 == 6) = false := beq_eq_false_iff_ne.mpr c64
         have c64b1 : (a0_0 != 6) = true := bne_iff_ne.mpr c64
         have H' := zA H
         clear H
         have hnb68 := NB262_261.out
         have hnc68 := NB261_262.out
         obtain ⟨hcz69_0, hfz69_0⟩ := zb1 BK262.out
         obtain ⟨hcz70_0, hcz70_1, hcz70_2, hcz70_3, hcz70_4, hcz70_5, hfz70_0, hfz70_1, hfz70_2, hfz70_3, hfz70_4, hfz70_5⟩ := zb6 BK261.out
         go_wp2
         go_meet
         case rel => exact ⟨_, (decide ((l0_5.length : Int) > 0)), apC, H', ⟨by first | omega | exact yJ _⟩, ⟨apI⟩, ⟨apG⟩, ⟨apH⟩⟩
      ·rw [if_neg c59] at H
       have c59b0 : decide (a0_0 < 5) = false := decide_eq_false c59
       clear c59
       by_cases c71 : a0_0 = 6
       ·rw [if_pos c71] at H
        have c71b0 : (a0_0 == 6) = true := beq_iff_eq.mpr c71
        have c71b1 : (a0_0 != 6) = false := bne_eq_false_iff_eq.mpr c71
        clear c71
        have H' := zA H
        clear H
        have hnb72 := NB262_261.out
        have hnc72 := NB261_262.out
        obtain ⟨hcz73_0, hfz73_0⟩ := zb1 BK262.out
        obtain ⟨hcz74_0, hcz74_1, hcz74_2, hcz74_3, hcz74_4, hcz74_5, hfz74_0, hfz74_1, hfz74_2, hfz74_3, hfz74_4, hfz74_5⟩ := zb6 BK261.out
        go_wp2
        go_meet
        case rel => exact ⟨_, (false), apC, H', ⟨by first | omega | exact yJ _⟩, ⟨apI⟩, ⟨apG⟩, ⟨apH⟩⟩
       ·rw [if_neg c71] at H
        have c71b0 : (a0_0 == 6) = false := beq_eq_false_iff_ne.mpr c71
        have c71b1 : (a0_0 != 6) = true := bne_iff_ne.mpr c71
        have H' := zA H
        clear H
        have hnb75 := NB262_261.out
        have hnc75 := NB261_262.out
        obtain ⟨hcz76_0, hfz76_0⟩ := zb1 BK262.out
        obtain ⟨hcz77_0, hcz77_1, hcz77_2, hcz77_3, hcz77_4, hcz77_5, hfz77_0, hfz77_1, hfz77_2, hfz77_3, hfz77_4, hfz77_5⟩ := zb6 BK261.out
        go_wp2
        go_meet
        case rel => exact ⟨_, (decide ((l0_5.length : Int) > 0)), apC, H', ⟨by first | omega | exact yJ _⟩, ⟨apI⟩, ⟨apG⟩, ⟨apH⟩⟩
     ·rw [if_neg c58] at H
      have c58b0 : (a0_0 == 4) = false := beq_eq_false_iff_ne.mpr c58
      have c58b1 : (a0_0 != 4) = true := bne_iff_ne.mpr c58
      by_cases c78 : a0_3.toList = ([] : List UInt8)
      ·rw [if_pos c78] at H
       have c78b0 : (a0_3.toList == ([] : List UInt8)) = true := beq_iff_eq.mpr c78
       have c78b1 : (a0_3.toList != ([] : List UInt8)) = false := bne_eq_false_iff_eq.mpr c78
       clear c78
       by_cases c79 : a0_0 < 5
       ·rw [if_pos c79] at H
        have c79b0 : decide (a0_0 < 5) = true := yE c79
        clear c79
        by_cases c80 : (l0_4.length : Int) > 0
        ·rw [if_pos c80] at H
         have c80b0 : decide (0 < (l0_4.length : Int)) = true := yE c80
         have c80b1 : decide (0 < l0_4.length) = true := yE (by omega)
         clear c80
         have H' := zA H
         clear H
         have hnb81 := NB262_261.out
         have hnc81 := NB261_262.out
         obtain ⟨hcz82_0, hfz82_0⟩ := zb1 BK262.out
         obtain ⟨hcz83_0, hcz83_1, hcz83_2, hcz83_3, hcz83_4, hcz83_5, hfz83_0, hfz83_1, hfz83_2, hfz83_3, hfz83_4, hfz83_5⟩ := zb6 BK261.out
         go_wp2
         go_meet
         case rel => exact ⟨_, (true), apC, H', ⟨by first | omega | exact yJ _⟩, ⟨apI⟩, ⟨apG⟩, ⟨apH⟩⟩
        ·rw [if_neg c80] at H
         have c80b0 : decide (0 < (l0_4.length : Int)) = false := decide_eq_false c80
         have c80b1 : decide (0 < l0_4.length) = false := decide_eq_false (by omega)
         clear c80
         by_cases c84 : a0_0 = 6
         ·rw [if_pos c84] at H
          have c84b0 : (a0_0 == 6) = true := beq_iff_eq.mpr c84
          have c84b1 : (a0_0 != 6) = false := bne_eq_false_iff_eq.mpr c84
          clear c84
          have H' := zA H
          clear H
          have hnb85 := NB262_261.out
          have hnc85 := NB261_262.out
          obtain ⟨hcz86_0, hfz86_0⟩ := zb1 BK262.out
          obtain ⟨hcz87_0, hcz87_1, hcz87_2, hcz87_3, hcz87_4, hcz87_5, hfz87_0, hfz87_1, hfz87_2, hfz87_3, hfz87_4, hfz87_5⟩ := zb6 BK261.out
          go_wp2
          go_meet
          case rel => exact ⟨_, (false), apC, H', ⟨by first | omega | exact yJ _⟩, ⟨apI⟩, ⟨apG⟩, ⟨apH⟩⟩
         ·rw [if_neg c84] at H
          have c84b0 : (a0_0 == 6) = false := beq_eq_false_iff_ne.mpr c84
          have c84b1 : (a0_0 != 6) = true := bne_iff_ne.mpr c84
          have H' := zA H
          clear H
          have hnb88 := NB262_261.out
          have hnc88 := NB261_262.out
          obtain ⟨hcz89_0, hfz89_0⟩ := zb1 BK262.out
          obtain ⟨hcz90_0, hcz90_1, hcz90_2, hcz90_3, hcz90_4, hcz90_5, hfz90_0, hfz90_1, hfz90_2, hfz90_3, hfz90_4, hfz90_5⟩ := zb6 BK261.out
          go_wp2
          go_meet
          case rel => exact ⟨_, (decide ((l0_5.length : Int) > 0)), apC, H', ⟨by first | omega | exact yJ _⟩, ⟨apI⟩, ⟨apG⟩, ⟨apH⟩⟩
       ·rw [if_neg c79] at H
        have c79b0 : decide (a0_0 < 5) = false := decide_eq_false c79
        clear c79
        by_cases c91 : a0_0 = 6
        ·rw [if_pos c91] at H
         have c91b0 : (a0_0 == 6) = true := beq_iff_eq.mpr c91
         have c91b1 : (a0_0 != 6) = false := bne_eq_false_iff_eq.mpr c91
         clear c91
         have H' := zA H
         clear H
         have hnb92 := NB262_261.out
         have hnc92 := NB261_262.out
         obtain ⟨hcz93_0, hfz93_0⟩ := zb1 BK262.out
         obtain ⟨hcz94_0, hcz94_1, hcz94_2, hcz94_3, hcz94_4, hcz94_5, hfz94_0, hfz94_1, hfz94_2, hfz94_3, hfz94_4, hfz94_5⟩ := zb6 BK261.out
         go_wp2
         go_meet
         case rel => exact ⟨_, (false), apC, H', ⟨by first | omega | exact yJ _⟩, ⟨apI⟩, ⟨apG⟩, ⟨apH⟩⟩
        ·rw [if_neg c91] at H
         have c91b0 : (a0_0 == 6) = false := beq_eq_false_iff_ne.mpr c91
         have c91b1 : (a0_0 != 6) = true := bne_iff_ne.mpr c91
         have H' := zA H
         clear H
         have hnb95 := NB262_261.out
         have hnc95 := NB261_262.out
         obtain ⟨hcz96_0, hfz96_0⟩ := zb1 BK262.out
         obtain ⟨hcz97_0, hcz97_1, hcz97_2, hcz97_3, hcz97_4, hcz97_5, hfz97_0, hfz97_1, hfz97_2, hfz97_3, hfz97_4, hfz97_5⟩ := zb6 BK261.out
         go_wp2
         go_meet
         case rel => exact ⟨_, (decide ((l0_5.length : Int) > 0)), apC, H', ⟨by first | omega | exact yJ _⟩, ⟨apI⟩, ⟨apG⟩, ⟨apH⟩⟩
      ·rw [if_neg c78] at H
       have c78b0 : (a0_3.toList == ([] : List UInt8)) = false := beq_eq_false_iff_ne.mpr c78
       have c78b1 : (a0_3.toList != ([] : List UInt8)) = true := bne_iff_ne.mpr c78
       have H' := zA H
       clear H
       have hnb98 := NB262_261.out
       have hnc98 := NB261_262.out
       obtain ⟨hcz99_0, hfz99_0⟩ := zb1 BK262.out
       obtain ⟨hcz100_0, hcz100_1, hcz100_2, hcz100_3, hcz100_4, hcz100_5, hfz100_0, hfz100_1, hfz100_2, hfz100_3, hfz100_4, hfz100_5⟩ := zb6 BK261.out
       go_wp2
       go_meet
       case rel => exact ⟨_, (true), apC, H', ⟨by first | omega | exact yJ _⟩, ⟨apI⟩, ⟨apG⟩, ⟨apH⟩⟩
 case rest =>
  clear HC4
  try clear c1 c2 p2 c3 c4 c5 c6 c7 c8 c9 c10 c10b0 c10b1 c11 c11b0 c11b1 c12 c12b0 c17 c17b0 c17b1 c21 c24 c24b0 c24b1 c25 c28 c31 c31b0 c31b1 c32 c32b0 c33 c33b0 c33b1 c34 c37 c37b0 c37b1 c38 c41 c44 c44b0 c44b1 c45 c48 c51 c54 c54b0 c55 c58 c58b0 c58b1 c59 c59b0 c60 c60b0 c60b1 c61 c64 c64b0 c64b1 c65 c68 c71 c71b0 c71b1 c72 c75 c78 c78b0 c78b1 c79 c79b0 c80 c80b0 c80b1 c81 c84 c84b0 c84b1 c85 c88 c91 c91b0 c91b1 c92 c95 c98 hcz100_0 hcz100_1 hcz100_2 hcz100_3 hcz100_4 hcz100_5 hcz20_5 hcz22_0 hcz23_0 hcz23_1 hcz23_2 hcz23_3 hcz23_4 hcz23_5 hcz26_0 hcz27_0 hcz27_1 hcz27_2 hcz27_3 hcz27_4 hcz27_5 hcz29_0 hcz30_0 hcz30_1 hcz30_2 hcz30_3 hcz30_4 hcz30_5 hcz35_0 hcz36_0 hcz36_1 hcz36_2 hcz36_3 hcz36_4 hcz36_5 hcz39_0 hcz40_0 hcz40_1 hcz40_2 hcz40_3 hcz40_4 hcz40_5 hcz42_0 hcz43_0 hcz43_1 hcz43_2 hcz43_3 hcz43_4 hcz43_5 hcz46_0 hcz47_0 hcz47_1 hcz47_2 hcz47_3 hcz47_4 hcz47_5 hcz49_0 hcz50_0 hcz50_1 hcz50_2 hcz50_3 hcz50_4 hcz50_5 hcz52_0 hcz53_0 hcz53_1 hcz53_2 hcz53_3 hcz53_4 hcz53_5 hcz56_0 hcz57_0 hcz57_1 hcz57_2 hcz57_3 hcz57_4 hcz57_5 hcz62_0 hcz63_0 hcz63_1 hcz63_2 hcz63_3 hcz63_4 hcz63_5 hcz66_0 hcz67_0 hcz67_1 hcz67_2 hcz67_3 hcz67_4 hcz67_5 hcz69_0 hcz70_0 hcz70_1 hcz70_2 hcz70_3 hcz70_4 hcz70_5 hcz73_0 hcz74_0 hcz74_1 hcz74_2 hcz74_3 hcz74_4 hcz74_5 hcz76_0 hcz77_0 hcz77_1 hcz77_2 hcz77_3 hcz77_4 hcz77_5 hcz82_0 hcz83_0 hcz83_1 hcz83_2 hcz83_3 hcz83_4 hcz83_5 hcz86_0 hcz87_0 hcz87_1 hcz87_2 hcz87_3 hcz87_4 hcz87_5 hcz89_0 hcz90_0 hcz90_1 hcz90_2 hcz90_3 hcz90_4 hcz90_5 hcz93_0 hcz94_0 hcz94_1 hcz94_2 hcz94_3 hcz94_4 hcz94_5 hcz96_0 hcz97_0 hcz97_1 hcz97_2 hcz97_3 hcz97_4 hcz97_5 hcz99_0 hfz100_0 hfz100_1 hfz100_2 hfz100_3 hfz100_4 hfz100_5 hfz20_0 hfz20_1 hfz20_2 hfz20_3 hfz20_4 hfz20_5 hfz22_0 hfz23_0 hfz23_1 hfz23_2 hfz23_3 hfz23_4 hfz23_5 hfz26_0 hfz27_0 hfz27_1 hfz27_2 hfz27_3 hfz27_4 hfz27_5 hfz29_0 hfz30_0 hfz30_1 hfz30_2 hfz30_3 hfz30_4 hfz30_5 hfz35_0 hfz36_0 hfz36_1 hfz36_2 hfz36_3 hfz36_4 hfz36_5 hfz39_0 hfz40_0 hfz40_1 hfz40_2 hfz40_3 hfz40_4 hfz40_5 hfz42_0 hfz43_0 hfz43_1 hfz43_2 hfz43_3 hfz43_4 hfz43_5 hfz46_0 hfz47_0 hfz47_1 hfz47_2 hfz47_3 hfz47_4 hfz47_5 hfz49_0 hfz50_0 hfz50_1 hfz50_2 hfz50_3 hfz50_4 hfz50_5 hfz52_0 hfz53_0 hfz53_1 hfz53_2 hfz53_3 hfz53_4 hfz53_5 hfz56_0 hfz57_0 hfz57_1 hfz57_2 hfz57_3 hfz57_4 hfz57_5 hfz62_0 hfz63_0 hfz63_1 hfz63_2 hfz63_3 hfz63_4 hfz63_5 hfz66_0 hfz67_0 hfz67_1 hfz67_2 hfz67_3 hfz67_4 hfz67_5 hfz69_0 hfz70_0 hfz70_1 hfz70_2 hfz70_3 hfz70_4 hfz70_5 hfz73_0 hfz74_0 hfz74_1 hfz74_2 hfz74_3 hfz74_4 hfz74_5 hfz76_0 hfz77_0 hfz77_1 hfz77_2 hfz77_3 hfz77_4 hfz77_5 hfz82_0 hfz83_0 hfz83_1 hfz83_2 hfz83_3 hfz83_4 hfz83_5 hfz86_0 hfz87_0 hfz87_1 hfz87_2 hfz87_3 hfz87_4 hfz87_5 hfz89_0 hfz90_0 hfz90_1 hfz90_2 hfz90_3 hfz90_4 hfz90_5 hfz93_0 hfz94_0 hfz94_1 hfz94_2 hfz94_3 hfz94_4 hfz94_5 hfz96_0 hfz97_0 hfz97_1 hfz97_2 hfz97_3 hfz97_4 hfz97_5 hfz99_0
  obtain ⟨kq, x51_3, rfl, HA, HJ3, BK261, BK262, HB⟩ := hcut
  cases kq with
  | zero => exact absurd HA.out (by simp [impl_valueOk.j0])
  | succ kj3 =>
   have H := HA.out
   clear HA
   simp only [impl_valueOk.j0] at H
   by_cases c101 : x51_3 = true
   ·subst c101
    have H1 := H; rw [if_pos rfl] at H1
    clear H
    have H := H1
    clear H1
    obtain rfl := yG H
    go_wp2
    go_ret
    exact ⟨apD, apH⟩
   ·replace c101 := Bool.eq_false_iff.mpr c101
    subst c101
    have H1 := H; rw [if_neg (show ¬ (false = true) by decide)] at H1
    clear H
    have H := H1
    clear H1
    have HC102 := zA H
    clear H
    have hnb103 := NB261_262.out
    have hnc103 := NB262_261.out
    obtain ⟨hcz104_0, hcz104_1, hcz104_2, hcz104_3, hcz104_4, hcz104_5, hfz104_0, hfz104_1, hfz104_2, hfz104_3, hfz104_4, hfz104_5⟩ := zb6 BK261.out
    go_upto_if 54 with (fail)
    go_cut [54] (fun v54 wc => ∃ (kq : Nat) (x54_101 : Bool), v54 = .bool x54_101 ∧ Aside0 (impl_valueOk.j1 kq a0_0 x54_101 l2 a0_0 a0_1 a0_2 a0_3 l0_4 l0_5 a1 = some r) ∧ Aside0 (kq ≤ kj3) ∧ Aside0 (wc.heap[gb261]? = some (.cells #[.int .i64 a0_0, .int .i64 a0_1, .int .i64 a0_2, .string a0_3, (.slice A0_4 l0_4.length c0_4), (.slice A0_5 l0_5.length c0_5)] 34 (0, 0))) ∧ Aside0 (wc.heap[gb262]? = some (.cells #[.int .i64 a1] 3 (0, 0))) ∧ Aside0 (Below w.heap.size w wc))
    case first =>
     have H := HC102.out
     clear HC102
     by_cases c105 : a0_0 = 0
     ·rw [if_pos c105] at H
      have c105b0 : (a0_0 == 0) = true := beq_iff_eq.mpr c105
      have c105b1 : (a0_0 != 0) = false := bne_eq_false_iff_eq.mpr c105
      clear c105
      (first | rw [c105b0] | (simp only [i64_w, i32_w]; rw [c105b0]) | skip)
      have H' := zA H
      clear H
      go_wp2
      go_meet
      case rel => exact ⟨_, ((a0_0 == 0)), apC, H', ⟨by have := HJ3.out; first | omega | exact yJ _⟩, ⟨apI⟩, ⟨apG⟩, ⟨apH⟩⟩
     ·rw [if_neg c105] at H
      have c105b0 : (a0_0 == 0) = false := beq_eq_false_iff_ne.mpr c105
      have c105b1 : (a0_0 != 0) = true := bne_iff_ne.mpr c105
      (first | rw [c105b0] | (simp only [i64_w, i32_w]; rw [c105b0]) | skip)
      by_cases c106 : a0_0 = 1
      ·rw [if_pos c106] at H
       have c106b0 : (a0_0 == 1) = true := beq_iff_eq.mpr c106
       have c106b1 : (a0_0 != 1) = false := bne_eq_false_iff_eq.mpr c106
       clear c106
       have H' := zA H
       clear H
       go_wp2
       go_meet
       case rel => exact ⟨_, ((a0_0 == 1)), apC, H', ⟨by have := HJ3.out; first | omega | exact yJ _⟩, ⟨apI⟩, ⟨apG⟩, ⟨apH⟩⟩
      ·rw [if_neg c106] at H
       have c106b0 : (a0_0 == 1) = false := beq_eq_false_iff_ne.mpr c106
       have c106b1 : (a0_0 != 1) = true := bne_iff_ne.mpr c106
       by_cases c107 : a0_0 = 2
       ·rw [if_pos c107] at H
        have c107b0 : (a0_0 == 2) = true := beq_iff_eq.mpr c107
        have c107b1 : (a0_0 != 2) = false := bne_eq_false_iff_eq.mpr c107
        clear c107
        have H' := zA H
        clear H
        go_wp2
        go_meet
        case rel => exact ⟨_, ((a0_0 == 2)), apC, H', ⟨by have := HJ3.out; first | omega | exact yJ _⟩, ⟨apI⟩, ⟨apG⟩, ⟨apH⟩⟩
       ·rw [if_neg c107] at H
        have c107b0 : (a0_0 == 2) = false := beq_eq_false_iff_ne.mpr c107
        have c107b1 : (a0_0 != 2) = true := bne_iff_ne.mpr c107
        have H' := zA H
        clear H
        go_wp2
        go_meet
        case rel => exact ⟨_, ((a0_0 == 5)), apC, H', ⟨by have := HJ3.out; first | omega | exact yJ _⟩, ⟨apI⟩, ⟨apG⟩, ⟨apH⟩⟩
    case rest =>
     clear HC102
     try clear c1 c2 p2 c3 c4 c5 c6 c7 c8 c9 c10 c10b0 c10b1 c11 c11b0 c11b1 c12 c12b0 c17 c17b0 c17b1 c21 c24 c24b0 c24b1 c25 c28 c31 c31b0 c31b1 c32 c32b0 c33 c33b0 c33b1 c34 c37 c37b0 c37b1 c38 c41 c44 c44b0 c44b1 c45 c48 c51 c54 c54b0 c55 c58 c58b0 c58b1 c59 c59b0 c60 c60b0 c60b1 c61 c64 c64b0 c64b1 c65 c68 c71 c71b0 c71b1 c72 c75 c78 c78b0 c78b1 c79 c79b0 c80 c80b0 c80b1 c81 c84 c84b0 c84b1 c85 c88 c91 c91b0 c91b1 c92 c95 c98 c101 c103 c105 c105b0 c105b1 c106 c106b0 c106b1 c107 c107b0 c107b1 hcz100_0 hcz100_1 hcz100_2 hcz100_3 hcz100_4 hcz100_5 hcz104_0 hcz104_1 hcz104_2 hcz104_3 hcz104_4 hcz104_5 hcz20_5 hcz22_0 hcz23_0 hcz23_1 hcz23_2 hcz23_3 hcz23_4 hcz23_5 hcz26_0 hcz27_0 hcz27_1 hcz27_2 hcz27_3 hcz27_4 hcz27_5 hcz29_0 hcz30_0 hcz30_1 hcz30_2 hcz30_3 hcz30_4 hcz30_5 hcz35_0 hcz36_0 hcz36_1 hcz36_2 hcz36_3 hcz36_4 hcz36_5 hcz39_0 hcz40_0 hcz40_1 hcz40_2 hcz40_3 hcz40_4 hcz40_5 hcz42_0 hcz43_0 hcz43_1 hcz43_2 hcz43_3 hcz43_4 hcz43_5 hcz46_0 hcz47_0 hcz47_1 hcz47_2 hcz47_3 hcz47_4 hcz47_5 hcz49_0 hcz50_0 hcz50_1 hcz50_2 hcz50_3 hcz50_4 hcz50_5 hcz52_0 hcz53_0 hcz53_1 hcz53_2 hcz53_3 hcz53_4 hcz53_5 hcz56_0 hcz57_0 hcz57_1 hcz57_2 hcz57_3 hcz57_4 hcz57_5 hcz62_0 hcz63_0 hcz63_1 hcz63_2 hcz63_3 hcz63_4 hcz63_5 hcz66_0 hcz67_0 hcz67_1 hcz67_2 hcz67_3 hcz67_4 hcz67_5 hcz69_0 hcz70_0 hcz70_1 hcz70_2 hcz70_3 hcz70_4 hcz70_5 hcz73_0 hcz74_0 hcz74_1 hcz74_2 hcz74_3 hcz74_4 hcz74_5 hcz76_0 hcz77_0 hcz77_1 hcz77_2 hcz77_3 hcz77_4 hcz77_5 hcz82_0 hcz83_0 hcz83_1 hcz83_2 hcz83_3 hcz83_4 hcz83_5 hcz86_0 hcz87_0 hcz87_1 hcz87_2 hcz87_3 hcz87_4 hcz87_5 hcz89_0 hcz90_0 hcz90_1 hcz90_2 hcz90_3 hcz90_4 hcz90_5 hcz93_0 hcz94_0 hcz94_1 hcz94_2 hcz94_3 hcz94_4 hcz94_5 hcz96_0 hcz97_0 hcz97_1 hcz97_2 hcz97_3 hcz97_4 hcz97_5 hcz99_0 hfz100_0 hfz100_1 hfz100_2 hfz100_3 hfz100_4 hfz100_5 hfz104_0 hfz104_1 hfz104_2 hfz104_3 hfz104_4 hfz104_5 hfz20_0 hfz20_1 hfz20_2 hfz20_3 hfz20_4 hfz20_5 hfz22_0 hfz23_0 hfz23_1 hfz23_2 hfz23_3 hfz23_4 hfz23_5 hfz26_0 hfz27_0 hfz27_1 hfz27_2 hfz27_3 hfz27_4 hfz27_5 hfz29_0 hfz30_0 hfz30_1 hfz30_2 hfz30_3 hfz30_4 hfz30_5 hfz35_0 hfz36_0 hfz36_1 hfz36_2 hfz36_3 hfz36_4 hfz36_5 hfz39_0 hfz40_0 hfz40_1 hfz40_2 hfz40_3 hfz40_4 hfz40_5 hfz42_0 hfz43_0 hfz43_1 hfz43_2 hfz43_3 hfz43_4 hfz43_5 hfz46_0 hfz47_0 hfz47_1 hfz47_2 hfz47_3 hfz47_4 hfz47_5 hfz49_0 hfz50_0 hfz50_1 hfz50_2 hfz50_3 hfz50_4 hfz50_5 hfz52_0 hfz53_0 hfz53_1 hfz53_2 hfz53_3 hfz53_4 hfz53_5 hfz56_0 hfz57_0 hfz57_1 hfz57_2 hfz57_3 hfz57_4 hfz57_5 hfz62_0 hfz63_0 hfz63_1 hfz63_2 hfz63_3 hfz63_4 hfz63_5 hfz66_0 hfz67_0 hfz67_1 hfz67_2 hfz67_3 hfz67_4 hfz67_5 hfz69_0 hfz70_0 hfz70_1 hfz70_2 hfz70_3 hfz70_4 hfz70_5 hfz73_0 hfz74_0 hfz74_1 hfz74_2 hfz74_3 hfz74_4 hfz74_5 hfz76_0 hfz77_0 hfz77_1 hfz77_2 hfz77_3 hfz77_4 hfz77_5 hfz82_0 hfz83_0 hfz83_1 hfz83_2 hfz83_3 hfz83_4 hfz83_5 hfz86_0 hfz87_0 hfz87_1 hfz87_2 hfz87_3 hfz87_4 hfz87_5 hfz89_0 hfz90_0 hfz90_1 hfz90_2 hfz90_3 hfz90_4 hfz90_5 hfz93_0 hfz94_0 hfz94_1 hfz94_2 hfz94_3 hfz94_4 hfz94_5 hfz96_0 hfz97_0 hfz97_1 hfz97_2 hfz97_3 hfz97_4 hfz97_5 hfz99_0 p2
     obtain ⟨kq, x54_101, rfl, HA, HJ101, BK261, BK262, HB⟩ := hcut
     cases kq with
     | zero => exact absurd HA.out (by simp [impl_valueOk.j1])
     | succ kj101 =>
      have H := HA.out
      clear HA
      simp only [impl_valueOk.j1] at H
      by_cases c108 : x54_101 = true
      ·subst c108
       have H1 := H; rw [if_pos rfl] at H1
       clear H
       have H := H1
       clear H1
       replace H := Option.bind_eq_some_iff.mp H
       obtain ⟨t263, A1090, H⟩ := H
       have A109 := zA A1090
       clear A1090
       obtain rfl := yG H
       have hnb110 := NB261_262.out
       have hnc110 := NB262_261.out
       obtain ⟨hcz111_0, hcz111_1, hcz111_2, hcz111_3, hcz111_4, hcz111_5, hfz111_0, hfz111_1, hfz111_2, hfz111_3, hfz111_4, hfz111_5⟩ := zb6 BK261.out
       go_wp2_with (first | ((with_reducible refine zT (f := 27) rfl ?_); refine goesL_ (some 108) rfl rfl Tryd.func27 (by kernel_rfl) rfl #[.slice A0_4 l0_4.length c0_4, .func (.func 50) #[] #[.pointer (some ⟨gb262, 0, none⟩)]] rfl apE ?_; (with_reducible refine (ih_impl_Value_27_at_valueOk_1 kj101 (by have := HJ3.out; have := HJ101.out; omega) _ _ l0_4 A2 c2 l2 (some ⟨gb262, 0, none⟩) 1 [a1] t263 _ ?side1 ?side2 ?side3 ?side4 ?side5 ?side6 ?side7 A109.out).mono ?_); (case side1 => exact vc (Kd.C_below HR0_4.out HB.out)); (case side2 => exact HC0_4.out); (case side3 => exact vc (Kd.C_below HR2.out HB.out)); (case side4 => exact HC2.out); (case side5 => exact cap_mk apG); (case side6 => exact yJ _); (case side7 => exact HG2.out); rintro e w112 ⟨rfl, hb⟩; refine ⟨_, rfl, ?_⟩; replace BK262 := zA (zN (g := gb262) (o := .cells #[.int .i64 a1] 3 (0, 0)) apG hb); replace HB := zA (zP (by repeat (first | (with_reducible first | exact HB.out | apply zG | apply zE | apply zF | refine zH ?_ GE262.out) | exact HB.out)) hb); (try clear hb); (try clear hb2); (try clear hk); (try clear hi)))
       go_ret
       exact ⟨apD, by repeat (first | (with_reducible first | exact HB.out | apply zG | apply zE | apply zF | refine zH ?_ GE262.out) | exact HB.out)⟩
      ·replace c108 := Bool.eq_false_iff.mpr c108
       subst c108
       have H1 := H; rw [if_neg (show ¬ (false = true) by decide)] at H1
       clear H
       have H := H1
       clear H1
       by_cases c113 : a0_0 = 3
       ·rw [if_pos c113] at H
        have c113b0 : (a0_0 == 3) = true := beq_iff_eq.mpr c113
        have c113b1 : (a0_0 != 3) = false := bne_eq_false_iff_eq.mpr c113
        clear c113
        replace H := Option.bind_eq_some_iff.mp H
        obtain ⟨t264, A1140, H⟩ := H
        have A114 := zA A1140
        clear A1140
        obtain rfl := yG H
        have hnb115 := NB261_262.out
        have hnc115 := NB262_261.out
        obtain ⟨hcz116_0, hcz116_1, hcz116_2, hcz116_3, hcz116_4, hcz116_5, hfz116_0, hfz116_1, hfz116_2, hfz116_3, hfz116_4, hfz116_5⟩ := zb6 BK261.out
        go_wp2_with (first | ((with_reducible refine zT (f := 48) rfl ?_); refine goesL_ (some 63) rfl rfl Tryd.func48 (by kernel_rfl) rfl #[.agg #[.int .i64 a0_1, .int .i64 a0_2]] rfl apE ?_; (with_reducible refine (impl_DecOk.calls a0_1 a0_2 t264 _ A114.out).mono ?_); rintro e w117 ⟨rfl, hb⟩; refine ⟨_, rfl, ?_⟩; replace HB := zA (zP apA hb); (try clear hb); (try clear hb2); (try clear hk); (try clear hi)))
        go_ret
        exact ⟨apD, apA⟩
       ·rw [if_neg c113] at H
        have c113b0 : (a0_0 == 3) = false := beq_eq_false_iff_ne.mpr c113
        have c113b1 : (a0_0 != 3) = true := bne_iff_ne.mpr c113
        by_cases c118 : a0_0 = 4
        ·rw [if_pos c118] at H
         have c118b0 : (a0_0 == 4) = true := beq_iff_eq.mpr c118
         have c118b1 : (a0_0 != 4) = false := bne_eq_false_iff_eq.mpr c118
         clear c118
         obtain rfl := yG H
         have hnb119 := NB261_262.out
         have hnc119 := NB262_261.out
         obtain ⟨hcz120_0, hcz120_1, hcz120_2, hcz120_3, hcz120_4, hcz120_5, hfz120_0, hfz120_1, hfz120_2, hfz120_3, hfz120_4, hfz120_5⟩ := zb6 BK261.out
         go_wp2
         go_ret
         exact ⟨apD, apH⟩
        ·rw [if_neg c118] at H
         have c118b0 : (a0_0 == 4) = false := beq_eq_false_iff_ne.mpr c118
         have c118b1 : (a0_0 != 4) = true := bne_iff_ne.mpr c118
         by_cases c121 : a0_0 = 6
         ·rw [if_pos c121] at H
          have c121b0 : (a0_0 == 6) = true := beq_iff_eq.mpr c121
          have c121b1 : (a0_0 != 6) = false := bne_eq_false_iff_eq.mpr c121
          clear c121
          have H' := zA H
          clear H
          have hnb122 := NB261_262.out
          have hnc122 := NB262_261.out
          obtain ⟨hcz123_0, hcz123_1, hcz123_2, hcz123_3, hcz123_4, hcz123_5, hfz123_0, hfz123_1, hfz123_2, hfz123_3, hfz123_4, hfz123_5⟩ := zb6 BK261.out
          go_wp2
          go_loopg [75] kj101 (fun kq v75 w' => ∃ (x75_3 : Int), v75 = .int .i64 x75_3 ∧ Aside0 (impl_valueOk.l0 kq l0_5 (l0_5.length : Int) x75_3 l2 a0_0 a0_1 a0_2 a0_3 l0_4 l0_5 a1 = some r) ∧ Aside0 (kq ≤ kj101) ∧ Aside0 (w'.heap[gb261]? = some (.cells #[.int .i64 a0_0, .int .i64 a0_1, .int .i64 a0_2, .string a0_3, (.slice A0_4 l0_4.length c0_4), (.slice A0_5 l0_5.length c0_5)] 34 (0, 0))) ∧ Aside0 (w'.heap[gb262]? = some (.cells #[.int .i64 a1] 3 (0, 0))) ∧ Aside0 (Below w.heap.size w w'))
          case atStart => exact ⟨(0), apC, H', ⟨yJ _⟩, ⟨apI⟩, ⟨apG⟩, ⟨apH⟩⟩
          case round =>
           clear H'
           try clear c1 c2 p2 c3 c4 c5 c6 c7 c8 c9 c10 c10b0 c10b1 c11 c11b0 c11b1 c12 c12b0 c17 c17b0 c17b1 c21 c24 c24b0 c24b1 c25 c27 c28 c31 c31b0 c31b1 c32 c32b0 c33 c33b0 c33b1 c34 c37 c37b0 c37b1 c38 c41 c44 c44b0 c44b1 c45 c48 c51 c54 c54b0 c55 c58 c58b0 c58b1 c59 c59b0 c60 c60b0 c60b1 c61 c64 c64b0 c64b1 c65 c68 c71 c71b0 c71b1 c72 c75 c78 c78b0 c78b1 c79 c79b0 c80 c80b0 c80b1 c81 c84 c84b0 c84b1 c85 c88 c91 c91b0 c91b1 c92 c95 c98 c101 c103 c105 c105b0 c105b1 c106 c106b0 c106b1 c107 c107b0 c107b1 c108 c110 c113 c113b0 c113b1 c115 c118 c118b0 c118b1 c119 c121 c121b0 c121b1 c122 hcz100_0 hcz100_1 hcz100_2 hcz100_3 hcz100_4 hcz100_5 hcz104_0 hcz104_1 hcz104_2 hcz104_3 hcz104_4 hcz104_5 hcz111_0 hcz111_1 hcz111_2 hcz111_3 hcz111_4 hcz111_5 hcz116_0 hcz116_1 hcz116_2 hcz116_3 hcz116_4 hcz116_5 hcz120_0 hcz120_1 hcz120_2 hcz120_3 hcz120_4 hcz120_5 hcz123_0 hcz123_1 hcz123_2 hcz123_3 hcz123_4 hcz123_5 hcz20_5 hcz22_0 hcz23_0 hcz23_1 hcz23_2 hcz23_3 hcz23_4 hcz23_5 hcz26_0 hcz27_0 hcz27_1 hcz27_2 hcz27_3 hcz27_4 hcz27_5 hcz29_0 hcz30_0 hcz30_1 hcz30_2 hcz30_3 hcz30_4 hcz30_5 hcz35_0 hcz36_0 hcz36_1 hcz36_2 hcz36_3 hcz36_4 hcz36_5 hcz39_0 hcz40_0 hcz40_1 hcz40_2 hcz40_3 hcz40_4 hcz40_5 hcz42_0 hcz43_0 hcz43_1 hcz43_2 hcz43_3 hcz43_4 hcz43_5 hcz46_0 hcz47_0 hcz47_1 hcz47_2 hcz47_3 hcz47_4 hcz47_5 hcz49_0 hcz50_0 hcz50_1 hcz50_2 hcz50_3 hcz50_4 hcz50_5 hcz52_0 hcz53_0 hcz53_1 hcz53_2 hcz53_3 hcz53_4 hcz53_5 hcz56_0 hcz57_0 hcz57_1 hcz57_2 hcz57_3 hcz57_4 hcz57_5 hcz62_0 hcz63_0 hcz63_1 hcz63_2 hcz63_3 hcz63_4 hcz63_5 hcz66_0 hcz67_0 hcz67_1 hcz67_2 hcz67_3 hcz67_4 hcz67_5 hcz69_0 hcz70_0 hcz70_1 hcz70_2 hcz70_3 hcz70_4 hcz70_5 hcz73_0 hcz74_0 hcz74_1 hcz74_2 hcz74_3 hcz74_4 hcz74_5 hcz76_0 hcz77_0 hcz77_1 hcz77_2 hcz77_3 hcz77_4 hcz77_5 hcz82_0 hcz83_0 hcz83_1 hcz83_2 hcz83_3 hcz83_4 hcz83_5 hcz86_0 hcz87_0 hcz87_1 hcz87_2 hcz87_3 hcz87_4 hcz87_5 hcz89_0 hcz90_0 hcz90_1 hcz90_2 hcz90_3 hcz90_4 hcz90_5 hcz93_0 hcz94_0 hcz94_1 hcz94_2 hcz94_3 hcz94_4 hcz94_5 hcz96_0 hcz97_0 hcz97_1 hcz97_2 hcz97_3 hcz97_4 hcz97_5 hcz99_0 hfz100_0 hfz100_1 hfz100_2 hfz100_3 hfz100_4 hfz100_5 hfz104_0 hfz104_1 hfz104_2 hfz104_3 hfz104_4 hfz104_5 hfz111_0 hfz111_1 hfz111_2 hfz111_3 hfz111_4 hfz111_5 hfz116_0 hfz116_1 hfz116_2 hfz116_3 hfz116_4 hfz116_5 hfz120_0 hfz120_1 hfz120_2 hfz120_3 hfz120_4 hfz120_5 hfz123_0 hfz123_1 hfz123_2 hfz123_3 hfz123_4 hfz123_5 hfz20_0 hfz20_1 hfz20_2 hfz20_3 hfz20_4 hfz20_5 hfz22_0 hfz23_0 hfz23_1 hfz23_2 hfz23_3 hfz23_4 hfz23_5 hfz26_0 hfz27_0 hfz27_1 hfz27_2 hfz27_3 hfz27_4 hfz27_5 hfz29_0 hfz30_0 hfz30_1 hfz30_2 hfz30_3 hfz30_4 hfz30_5 hfz35_0 hfz36_0 hfz36_1 hfz36_2 hfz36_3 hfz36_4 hfz36_5 hfz39_0 hfz40_0 hfz40_1 hfz40_2 hfz40_3 hfz40_4 hfz40_5 hfz42_0 hfz43_0 hfz43_1 hfz43_2 hfz43_3 hfz43_4 hfz43_5 hfz46_0 hfz47_0 hfz47_1 hfz47_2 hfz47_3 hfz47_4 hfz47_5 hfz49_0 hfz50_0 hfz50_1 hfz50_2 hfz50_3 hfz50_4 hfz50_5 hfz52_0 hfz53_0 hfz53_1 hfz53_2 hfz53_3 hfz53_4 hfz53_5 hfz56_0 hfz57_0 hfz57_1 hfz57_2 hfz57_3 hfz57_4 hfz57_5 hfz62_0 hfz63_0 hfz63_1 hfz63_2 hfz63_3 hfz63_4 hfz63_5 hfz66_0 hfz67_0 hfz67_1 hfz67_2 hfz67_3 hfz67_4 hfz67_5 hfz69_0 hfz70_0 hfz70_1 hfz70_2 hfz70_3 hfz70_4 hfz70_5 hfz73_0 hfz74_0 hfz74_1 hfz74_2 hfz74_3 hfz74_4 hfz74_5 hfz76_0 hfz77_0 hfz77_1 hfz77_2 hfz77_3 hfz77_4 hfz77_5 hfz82_0 hfz83_0 hfz83_1 hfz83_2 hfz83_3 hfz83_4 hfz83_5 hfz86_0 hfz87_0 hfz87_1 hfz87_2 hfz87_3 hfz87_4 hfz87_5 hfz89_0 hfz90_0 hfz90_1 hfz90_2 hfz90_3 hfz90_4 hfz90_5 hfz93_0 hfz94_0 hfz94_1 hfz94_2 hfz94_3 hfz94_4 hfz94_5 hfz96_0 hfz97_0 hfz97_1 hfz97_2 hfz97_3 hfz97_4 hfz97_5 hfz99_0 p2
           obtain ⟨x75_3, rfl, HA, HK3, BK261, BK262, HB⟩ := hrel
           cases gk with
           | zero => exact absurd HA.out (by simp [impl_valueOk.l0])
           | succ k3 =>
            have H := HA.out
            clear HA
            simp only [impl_valueOk.l0] at H
            by_cases c124 : x75_3 < (l0_5.length : Int)
            ·rw [if_pos c124] at H
             have c124b0 : decide (x75_3 < (l0_5.length : Int)) = true := yE c124
             clear c124
             by_cases c125 : 0 ≤ x75_3
             ·rw [if_pos c125] at H
              have c125b0 : decide (0 ≤ x75_3) = true := yE c125
              clear c125
              by_cases c126 : x75_3 < (l0_5.length : Int)
              ·rw [if_pos c126] at H
               have c126b0 : decide (x75_3 < (l0_5.length : Int)) = true := yE c126
               clear c126
               replace H := Option.bind_eq_some_iff.mp H
               obtain ⟨t266, A1270, H⟩ := H
               have A127 := zA A1270
               clear A1270
               by_cases c128 : t266 = true
               ·subst c128
                have H1 := H; rw [if_pos rfl] at H1
                clear H
                have H := H1
                clear H1
                by_cases c129 : x75_3 > 0
                ·rw [if_pos c129] at H
                 have c129b0 : decide (0 < x75_3) = true := yE c129
                 clear c129
                 obtain ⟨ji130, hji130⟩ : ∃ j_ : Int, (wrap64 (x75_3 - 1)) = j_ := ⟨_, rfl⟩
                 replace H : (if 0 ≤ (ji130) then (if (ji130) < (l0_5.length : Int) then (if ((Op.bytesLess ((rdOf ByteArray.empty l0_5 (ji130)).toList) ((rdOf ByteArray.empty l0_5 x75_3).toList)) = true) then (impl_valueOk.l0 k3 l0_5 (l0_5.length : Int) (wrap64 (x75_3 + 1)) l2 a0_0 a0_1 a0_2 a0_3 l0_4 l0_5 a1) else (some false)) else (none)) else (none)) = some r := by first | (rw [hji130] at H; exact H) | (simp only [hji130] at H ⊢; exact H)
                 (try rw [hji130] at A127)
                 have hji130w : (IntKind.i64.wrap (x75_3 - 1)) = ji130 := (i64_w _).trans hji130
                 by_cases c131 : 0 ≤ (ji130)
                 ·rw [if_pos c131] at H
                  have c131b0 : decide (0 ≤ (ji130)) = true := yE c131
                  clear c131
                  by_cases c132 : (ji130) < (l0_5.length : Int)
                  ·rw [if_pos c132] at H
                   have c132b0 : decide ((ji130) < (l0_5.length : Int)) = true := yE c132
                   clear c132
                   by_cases c133 : ((Op.bytesLess ((rdOf ByteArray.empty l0_5 (ji130)).toList) ((rdOf ByteArray.empty l0_5 x75_3).toList)) = true)
                   ·rw [if_pos c133] at H
                    have c133b0 : (Op.bytesLess ((rdOf ByteArray.empty l0_5 (ji130)).toList) ((rdOf ByteArray.empty l0_5 x75_3).toList)) = true := c133
                    clear c133
                    have H' := zA H
                    clear H
                    have p265 : 0 ≤ (x75_3 : Int) := yF apB
                    have q265 : x75_3 < (l0_5.length : Int) := yF apB
                    obtain ⟨ad265, e265, hx265_0⟩ := Kd.at_string HR0_5.out x75_3 p265 q265
                    cases e265
                    replace hx265_0 := (HB.out.cell (zR w _ hx265_0)).trans hx265_0
                    replace p265 := eq_true p265
                    replace q265 := eq_true q265
                    go_wp2_with (first | ((with_reducible refine zT (f := 49) rfl ?_); refine goesL_ (some 81) rfl rfl Tryd.func49 (by kernel_rfl) rfl #[.string (rdOf ByteArray.empty l0_5 x75_3)] rfl apE ?_; (with_reducible refine (impl_NameOk.calls k3 (rdOf ByteArray.empty l0_5 x75_3) A2 c2 l2 true _ ?side1 ?side2 ?side3 A127.out).mono ?_); (case side1 => exact vc (Kd.C_below HR2.out HB.out)); (case side2 => exact HC2.out); (case side3 => exact HG2.out); rintro e w' ⟨rfl, ⟨nd, rfl⟩⟩; refine ⟨_, rfl, ?_⟩; have hnb134 := NB261_262.out; have hnc134 := NB262_261.out; obtain ⟨hcz135_0, hcz135_1, hcz135_2, hcz135_3, hcz135_4, hcz135_5, hfz135_0, hfz135_1, hfz135_2, hfz135_3, hfz135_4, hfz135_5⟩ := zb6 BK261.out; have p267 : 0 ≤ ((ji130) : Int) := yF apB; have q267 : (ji130) < (l0_5.length : Int) := yF apB; obtain ⟨ad267, e267, hx267_0⟩ := Kd.at_string HR0_5.out (ji130) p267 q267; obtain rfl : ad265 = ad267 := (by injection e267); replace hx267_0 := (HB.out.cell (zR w _ hx267_0)).trans hx267_0; replace p267 := eq_true p267; replace q267 := eq_true q267))
                    go_roundg k3
                    case measure => have := HJ3.out; have := HJ101.out; have := HK3.out; omega
                    case rel => exact ⟨(wrap64 (x75_3 + 1)), apC, H', ⟨by have := HJ3.out; have := HJ101.out; have := HK3.out; omega⟩, ⟨apI⟩, ⟨apG⟩, ⟨apH⟩⟩
                   ·rw [if_neg c133] at H
                    have c133b0 : (Op.bytesLess ((rdOf ByteArray.empty l0_5 (ji130)).toList) ((rdOf ByteArray.empty l0_5 x75_3).toList)) = false := by simpa using c133
                    clear c133
                    obtain rfl := yG H
                    have p265 : 0 ≤ (x75_3 : Int) := yF apB
                    have q265 : x75_3 < (l0_5.length : Int) := yF apB
                    obtain ⟨ad265, e265, hx265_0⟩ := Kd.at_string HR0_5.out x75_3 p265 q265
                    cases e265
                    replace hx265_0 := (HB.out.cell (zR w _ hx265_0)).trans hx265_0
                    replace p265 := eq_true p265
                    replace q265 := eq_true q265
                    go_wp2_with (first | ((with_reducible refine zT (f := 49) rfl ?_); refine goesL_ (some 81) rfl rfl Tryd.func49 (by kernel_rfl) rfl #[.string (rdOf ByteArray.empty l0_5 x75_3)] rfl apE ?_; (with_reducible refine (impl_NameOk.calls k3 (rdOf ByteArray.empty l0_5 x75_3) A2 c2 l2 true _ ?side1 ?side2 ?side3 A127.out).mono ?_); (case side1 => exact vc (Kd.C_below HR2.out HB.out)); (case side2 => exact HC2.out); (case side3 => exact HG2.out); rintro e w' ⟨rfl, ⟨nd, rfl⟩⟩; refine ⟨_, rfl, ?_⟩; obtain ⟨hcz136_0, hcz136_1, hcz136_2, hcz136_3, hcz136_4, hcz136_5, hfz136_0, hfz136_1, hfz136_2, hfz136_3, hfz136_4, hfz136_5⟩ := zb6 BK261.out; have p267 : 0 ≤ ((ji130) : Int) := yF apB; have q267 : (ji130) < (l0_5.length : Int) := yF apB; obtain ⟨ad267, e267, hx267_0⟩ := Kd.at_string HR0_5.out (ji130) p267 q267; obtain rfl : ad265 = ad267 := (by injection e267); replace hx267_0 := (HB.out.cell (zR w _ hx267_0)).trans hx267_0; replace p267 := eq_true p267; replace q267 := eq_true q267))
                    go_ret
                    exact ⟨by first | rfl | (simp [errW_none, errW_some] <;> rfl) | (simp only [← hji130]; first | rfl | (simp [errW_none, errW_some] <;> rfl)) | (simp [*, errW_none, errW_some] <;> rfl), by repeat (first | (with_reducible first | exact HB.out | apply zG | apply zE | apply zF | refine zH ?_ GE261.out) | exact HB.out)⟩
                  ·rw [if_neg c132] at H
                   exact absurd H (by simp)
                 ·rw [if_neg c131] at H
                  exact absurd H (by simp)
                ·rw [if_neg c129] at H
                 have c129b0 : decide (0 < x75_3) = false := decide_eq_false c129
                 clear c129
                 have H' := zA H
                 clear H
                 have p265 : 0 ≤ (x75_3 : Int) := yF apB
                 have q265 : x75_3 < (l0_5.length : Int) := yF apB
                 obtain ⟨ad265, e265, hx265_0⟩ := Kd.at_string HR0_5.out x75_3 p265 q265
                 cases e265
                 replace hx265_0 := (HB.out.cell (zR w _ hx265_0)).trans hx265_0
                 replace p265 := eq_true p265
                 replace q265 := eq_true q265
                 go_wp2_with (first | ((with_reducible refine zT (f := 49) rfl ?_); refine goesL_ (some 81) rfl rfl Tryd.func49 (by kernel_rfl) rfl #[.string (rdOf ByteArray.empty l0_5 x75_3)] rfl apE ?_; (with_reducible refine (impl_NameOk.calls k3 (rdOf ByteArray.empty l0_5 x75_3) A2 c2 l2 true _ ?side1 ?side2 ?side3 A127.out).mono ?_); (case side1 => exact vc (Kd.C_below HR2.out HB.out)); (case side2 => exact HC2.out); (case side3 => exact HG2.out); rintro e w' ⟨rfl, ⟨nd, rfl⟩⟩; refine ⟨_, rfl, ?_⟩))
                 go_roundg k3
                 case measure => have := HJ3.out; have := HJ101.out; have := HK3.out; omega
                 case rel => exact ⟨(wrap64 (x75_3 + 1)), apC, H', ⟨by have := HJ3.out; have := HJ101.out; have := HK3.out; omega⟩, ⟨apI⟩, ⟨apG⟩, ⟨apH⟩⟩
               ·replace c128 := Bool.eq_false_iff.mpr c128
                subst c128
                have H1 := H; rw [if_neg (show ¬ (false = true) by decide)] at H1
                clear H
                have H := H1
                clear H1
                obtain rfl := yG H
                have p265 : 0 ≤ (x75_3 : Int) := yF apB
                have q265 : x75_3 < (l0_5.length : Int) := yF apB
                obtain ⟨ad265, e265, hx265_0⟩ := Kd.at_string HR0_5.out x75_3 p265 q265
                cases e265
                replace hx265_0 := (HB.out.cell (zR w _ hx265_0)).trans hx265_0
                replace p265 := eq_true p265
                replace q265 := eq_true q265
                go_wp2_with (first | ((with_reducible refine zT (f := 49) rfl ?_); refine goesL_ (some 81) rfl rfl Tryd.func49 (by kernel_rfl) rfl #[.string (rdOf ByteArray.empty l0_5 x75_3)] rfl apE ?_; (with_reducible refine (impl_NameOk.calls k3 (rdOf ByteArray.empty l0_5 x75_3) A2 c2 l2 false _ ?side1 ?side2 ?side3 A127.out).mono ?_); (case side1 => exact vc (Kd.C_below HR2.out HB.out)); (case side2 => exact HC2.out); (case side3 => exact HG2.out); rintro e w' ⟨rfl, ⟨nd, rfl⟩⟩; refine ⟨_, rfl, ?_⟩))
                go_ret
                exact ⟨apD, apA⟩
              ·rw [if_neg c126] at H
               exact absurd H (by simp)
             ·rw [if_neg c125] at H
              exact absurd H (by simp)
            ·rw [if_neg c124] at H
             have c124b0 : decide (x75_3 < (l0_5.length : Int)) = false := decide_eq_false c124
             clear c124
             by_cases c137 : (l0_5.length : Int) = (l0_4.length : Int)
             ·rw [if_pos c137] at H
              have c137b0 : ((l0_5.length : Int) == (l0_4.length : Int)) = true := beq_iff_eq.mpr c137
              have c137b1 : ((l0_5.length : Int) != (l0_4.length : Int)) = false := bne_eq_false_iff_eq.mpr c137
              have c137b2 : (l0_5.length == l0_4.length) = true := by first | simpa using c137 | (simp at c137 ⊢; omega)
              clear c137
              replace H := Option.bind_eq_some_iff.mp H
              obtain ⟨t268, A1380, H⟩ := H
              have A138 := zA A1380
              clear A1380
              obtain rfl := yG H
              have hnb139 := NB261_262.out
              have hnc139 := NB262_261.out
              obtain ⟨hcz140_0, hcz140_1, hcz140_2, hcz140_3, hcz140_4, hcz140_5, hfz140_0, hfz140_1, hfz140_2, hfz140_3, hfz140_4, hfz140_5⟩ := zb6 BK261.out
              go_wp2_with (first | ((with_reducible refine zT (f := 27) rfl ?_); refine goesL_ (some 108) rfl rfl Tryd.func27 (by kernel_rfl) rfl #[.slice A0_4 l0_4.length c0_4, .func (.func 50) #[] #[.pointer (some ⟨gb262, 0, none⟩)]] rfl apE ?_; (with_reducible refine (ih_impl_Value_27_at_valueOk_1 k3 (by have := HJ3.out; have := HJ101.out; have := HK3.out; omega) _ _ l0_4 A2 c2 l2 (some ⟨gb262, 0, none⟩) 1 [a1] t268 _ ?side1 ?side2 ?side3 ?side4 ?side5 ?side6 ?side7 A138.out).mono ?_); (case side1 => exact vc (Kd.C_below HR0_4.out HB.out)); (case side2 => exact HC0_4.out); (case side3 => exact vc (Kd.C_below HR2.out HB.out)); (case side4 => exact HC2.out); (case side5 => exact cap_mk apG); (case side6 => exact yJ _); (case side7 => exact HG2.out); rintro e w141 ⟨rfl, hb⟩; refine ⟨_, rfl, ?_⟩; replace BK262 := zA (zN (g := gb262) (o := .cells #[.int .i64 a1] 3 (0, 0)) apG hb); replace HB := zA (zP (by repeat (first | (with_reducible first | exact HB.out | apply zG | apply zE | apply zF | refine zH ?_ GE262.out) | exact HB.out)) hb); (try clear hb); (try clear hb2); (try clear hk); (try clear hi)))
              go_ret
              exact ⟨apD, by repeat (first | (with_reducible first | exact HB.out | apply zG | apply zE | apply zF | refine zH ?_ GE262.out) | exact HB.out)⟩
             ·rw [if_neg c137] at H
              have c137b0 : ((l0_5.length : Int) == (l0_4.length : Int)) = false := beq_eq_false_iff_ne.mpr c137
              have c137b1 : ((l0_5.length : Int) != (l0_4.length : Int)) = true := bne_iff_ne.mpr c137
              have c137b2 : (l0_5.length == l0_4.length) = false := by first | simpa using c137 | (simp at c137 ⊢; omega)
              obtain rfl := yG H
              have hnb142 := NB261_262.out
              have hnc142 := NB262_261.out
              obtain ⟨hcz143_0, hcz143_1, hcz143_2, hcz143_3, hcz143_4, hcz143_5, hfz143_0, hfz143_1, hfz143_2, hfz143_3, hfz143_4, hfz143_5⟩ := zb6 BK261.out
              go_wp2
              go_ret
              exact ⟨apD, apH⟩
         ·rw [if_neg c121] at H
          have c121b0 : (a0_0 == 6) = false := beq_eq_false_iff_ne.mpr c121
          have c121b1 : (a0_0 != 6) = true := bne_iff_ne.mpr c121
          obtain rfl := yG H
          go_wp2
          go_ret
          exact ⟨apD, apH⟩

set_option maxHeartbeats 8000000 in
set_option maxRecDepth 100000 in
theorem impl_valueOk_1.step (k : Nat) (ih_impl_Value_27_at_valueOk_1 : ∀ m, m < k → impl_Value_27_at_valueOk_1.Spec m) (ih_impl_Value_36_at_valueOk_1 : ∀ m, m < k → impl_Value_36_at_valueOk_1.Spec m) (ih_impl_valueOk : ∀ m, m < k → impl_valueOk.Spec m) (ih_impl_valueOk_1 : ∀ m, m < k → impl_valueOk_1.Spec m) : impl_valueOk_1.Spec k := by
 intro a0_0 a0_1 a0_2 a0_3 A0_4 c0_4 l0_4 A0_5 c0_5 l0_5 A1 c1 l1 A2 c2 l2 r w hr0_4 hc0_4 hr0_5 hc0_5 hr1 hc1 hr2 hc2 hg1 h
 cases k with
 | zero => exact absurd h (by simp [impl_valueOk_1.f])
 | succ k =>
 simp only [impl_valueOk_1.f] at h
 have hu34 := Tryd.underlying34
 have HR0_4 := zA hr0_4
 have HC0_4 := zA hc0_4
 clear hr0_4 hc0_4
 have HR0_5 := zA hr0_5
 have HC0_5 := zA hc0_5
 clear hr0_5 hc0_5
 have HG1 := zA hg1
 clear hg1
 have HR1 := zA hr1
 have HC1 := zA hc1
 clear hr1 hc1
 have HR2 := zA hr2
 have HC2 := zA hc2
 clear hr2 hc2
 have HB := zA (yH w.heap.size w)
 have H : (if 0 < (l2.length : Int) then ((impl_valueOk.f k a0_0 a0_1 a0_2 a0_3 l0_4 l0_5 (wrap64 ((rd l2 0) - 1)) l1).bind fun t271 => (some (!t271))) else (none)) = some r := h
 clear h
 by_cases c4 : 0 < (l2.length : Int)
 ·rw [if_pos c4] at H
  have c4b0 : decide (0 < (l2.length : Int)) = true := yE c4
  have c4b1 : decide (0 < l2.length) = true := yE (by omega)
  clear c4
  replace H := Option.bind_eq_some_iff.mp H
  obtain ⟨t271, A50, H⟩ := H
  have A5 := zA A50
  clear A50
  obtain rfl := yG H
  go_enter Tryd.func50, Tryd.ntmps50
  go_wp2_with (first | ((with_reducible refine zS (N := 2) rfl ?_); refine zW ?hg (N := 2) ?hd (cs := #[.int .i64 a0_0, .int .i64 a0_1, .int .i64 a0_2, .string a0_3, .slice A0_4 l0_4.length c0_4, .slice A0_5 l0_5.length c0_5]) (t := 34) ?hr ?_; (case hd => rfl); (case hg => rfl); (case hr => first | (go_simp; done) | (go_simp; rfl)); intro gb269 hg w6 hbox hb; have BK269 := zA (hbox); have GW269 := zA ((by rw [hg]; exact (zQ apA) : w.heap.size ≤ gb269)); have GE269 := zA ((by rw [hg]; exact (zQ apA) : w.heap.size ≤ gb269)); replace HB := zA (zP apA hb); clear hb hbox hg; obtain ⟨hcz7_0, hcz7_1, hcz7_2, hcz7_3, hcz7_4, hcz7_5, hfz7_0, hfz7_1, hfz7_2, hfz7_3, hfz7_4, hfz7_5⟩ := zb6 BK269.out; have p270 : 0 ≤ (0 : Int) := (by omega); have q270 : 0 < (l2.length : Int) := yF apB; obtain ⟨ad270, e270, hx270_0⟩ := Kd.at_int HR2.out 0 p270 q270; cases e270; have qi270 : (0 < l2.length) = True := eq_true (by omega); (try rw [show ((0 : Int)).toNat = 0 from rfl] at hx270_0); (try rw [Addr.add_zero'] at hx270_0); replace hx270_0 := (HB.out.cell (zR w _ hx270_0)).trans hx270_0; replace p270 := eq_true p270; replace q270 := eq_true q270) | ((with_reducible refine zT (f := 37) rfl ?_); refine goesL_ (some 7) rfl rfl Tryd.func37 (by kernel_rfl) rfl #[.agg #[.int .i64 a0_0, .int .i64 a0_1, .int .i64 a0_2, .string a0_3, .slice A0_4 l0_4.length c0_4, .slice A0_5 l0_5.length c0_5], .int .i64 (wrap64 ((rd l2 0) - 1))] rfl apE ?_; (with_reducible refine (ih_impl_valueOk k (by omega) a0_0 a0_1 a0_2 a0_3 _ _ l0_4 _ _ l0_5 (wrap64 ((rd l2 0) - 1)) A1 c1 l1 t271 _ ?side1 ?side2 ?side3 ?side4 ?side5 ?side6 ?side7 A5.out).mono ?_); (case side1 => exact vc (Kd.C_below HR0_4.out HB.out)); (case side2 => exact HC0_4.out); (case side3 => exact vc (Kd.C_below HR0_5.out HB.out)); (case side4 => exact HC0_5.out); (case side5 => exact vc (Kd.C_below HR1.out HB.out)); (case side6 => exact HC1.out); (case side7 => exact HG1.out); rintro e w8 ⟨rfl, hb⟩; refine ⟨_, rfl, ?_⟩; replace HB := zA (zP apA hb); (try clear hb); (try clear hb2); (try clear hk); (try clear hi)))
  go_ret
  exact ⟨apD, apA⟩
 ·rw [if_neg c4] at H
  exact absurd H (by simp)

theorem impl_Value_27_at_valueOk_1.G.all (k : Nat) : impl_Value_27_at_valueOk_1.Spec k ∧ impl_Value_36_at_valueOk_1.Spec k ∧ impl_valueOk.Spec k ∧ impl_valueOk_1.Spec k := by
 induction k using Nat.strongRecOn with
 | _ k ih =>
  exact ⟨impl_Value_27_at_valueOk_1.step k (fun m hm => (ih m hm).1) (fun m hm => (ih m hm).2.1) (fun m hm => (ih m hm).2.2.1) (fun m hm => (ih m hm).2.2.2), impl_Value_36_at_valueOk_1.step k (fun m hm => (ih m hm).1) (fun m hm => (ih m hm).2.1) (fun m hm => (ih m hm).2.2.1) (fun m hm => (ih m hm).2.2.2), impl_valueOk.step k (fun m hm => (ih m hm).1) (fun m hm => (ih m hm).2.1) (fun m hm => (ih m hm).2.2.1) (fun m hm => (ih m hm).2.2.2), impl_valueOk_1.step k (fun m hm => (ih m hm).1) (fun m hm => (ih m hm).2.1) (fun m hm => (ih m hm).2.2.1) (fun m hm => (ih m hm).2.2.2)⟩
theorem impl_Value_27_at_valueOk_1.calls (k : Nat) : impl_Value_27_at_valueOk_1.Spec k := (impl_Value_27_at_valueOk_1.G.all k).1
theorem impl_Value_36_at_valueOk_1.calls (k : Nat) : impl_Value_36_at_valueOk_1.Spec k := (impl_Value_27_at_valueOk_1.G.all k).2.1
theorem impl_valueOk.calls (k : Nat) : impl_valueOk.Spec k := (impl_Value_27_at_valueOk_1.G.all k).2.2.1
theorem impl_valueOk_1.calls (k : Nat) : impl_valueOk_1.Spec k := (impl_Value_27_at_valueOk_1.G.all k).2.2.2

end Go.Proofs.YthaceblepbkjjaaDoor.Q

namespace Go.Proofs.YthaceblepbkjjaaDoor.Q
open Go.RowKit Go.Proofs.YthaceblepbkjjaaDoorW.PrintWords Go.Proofs.YthaceblepbkjjaaDoorW.PrintLast Go.Proofs.YthaceblepbkjjaaDoorW.PrintMore Go.Proofs.YthaceblepbkjjaaDoorX
attribute [local go_sem] max2_int min2_int max_two min_two max_three min_three max_four min_four   -- for this text's walks alone
set_option linter.unusedVariables false
set_option linter.unusedSimpArgs false

def impl_ValueOk.f (k : Nat) (a0_0 : Int) (a0_1 : Int) (a0_2 : Int) (a0_3 : ByteArray) (l0_4 : List (S34)) (l0_5 : List ByteArray) (l1 : List (List ByteArray)) : Option (Bool) := (impl_valueOk.f k a0_0 a0_1 a0_2 a0_3 l0_4 l0_5 20 l1).bind fun t277 => (if t277 = true then ((impl_ValueSize.f k a0_0 a0_1 a0_2 a0_3 l0_4 l0_5).bind fun t278 => (some (decide (t278 ≤ 200)))) else (some false))
theorem impl_ValueOk.mono : ∀ a0 a1 a2 a3 a4 a5 a6 k, LeO (impl_ValueOk.f k a0 a1 a2 a3 a4 a5 a6) (impl_ValueOk.f (k + 1) a0 a1 a2 a3 a4 a5 a6) := by
 intro a0 a1 a2 a3 a4 a5 a6 k
 unfold impl_ValueOk.f
 repeat' first
   | (with_reducible exact impl_ValueSize.mono _ _ _ _ _ _ _)
   | (with_reducible exact impl_valueOk.mono _ _ _ _ _ _ _ _ _)
   | (with_reducible exact LeO.refl _)
   | (with_reducible exact LeO.none _)
   | (with_reducible refine LeO.ite ?_ ?_)
   | (with_reducible refine LeO.bind ?_ (fun _ => ?_))
set_option maxHeartbeats 8000000 in
set_option maxRecDepth 100000 in
theorem impl_ValueOk.calls (k : Nat) (a0_0 : Int) (a0_1 : Int) (a0_2 : Int) (a0_3 : ByteArray) (A0_4 : Option Addr) (c0_4 : Nat) (l0_4 : List (S34)) (A0_5 : Option Addr) (c0_5 : Nat) (l0_5 : List ByteArray) (A1 : Option Addr) (c1 : Nat) (l1 : List (List ByteArray)) (r : Bool) (w : World) (hr0_4 : Kd.C k34 w A0_4 l0_4.length l0_4) (hc0_4 : l0_4.length ≤ c0_4) (hr0_5 : Kd.C Kd.string w A0_5 l0_5.length l0_5) (hc0_5 : l0_5.length ≤ c0_5) (hr1 : Kd.C (Kd.slice 9 Kd.string) w A1 l1.length l1) (hc1 : l1.length ≤ c1) (hg1 : A1 = some ⟨0, 0, none⟩) (h : impl_ValueOk.f k a0_0 a0_1 a0_2 a0_3 l0_4 l0_5 l1 = some r) :
  Calls Tryd.prog 30 #[.agg #[.int .i64 a0_0, .int .i64 a0_1, .int .i64 a0_2, .string a0_3, .slice A0_4 l0_4.length c0_4, .slice A0_5 l0_5.length c0_5]] w fun e w' => e = .returned (.bool r) ∧ Below w.heap.size w w' := by
 have hu34 := Tryd.underlying34
 have HR0_4 := zA hr0_4
 have HC0_4 := zA hc0_4
 clear hr0_4 hc0_4
 have HR0_5 := zA hr0_5
 have HC0_5 := zA hc0_5
 clear hr0_5 hc0_5
 have HG1 := zA hg1
 clear hg1
 have HR1 := zA hr1
 have HC1 := zA hc1
 clear hr1 hc1
 have HB := zA (yH w.heap.size w)
 have H : ((impl_valueOk.f k a0_0 a0_1 a0_2 a0_3 l0_4 l0_5 20 l1).bind fun t277 => (if t277 = true then ((impl_ValueSize.f k a0_0 a0_1 a0_2 a0_3 l0_4 l0_5).bind fun t278 => (some (decide (t278 ≤ 200)))) else (some false))) = some r := h
 clear h
 replace H := Option.bind_eq_some_iff.mp H
 obtain ⟨t277, A30, H⟩ := H
 have A3 := zA A30
 clear A30
 by_cases c4 : t277 = true
 ·subst c4
  have H1 := H; rw [if_pos rfl] at H1
  clear H
  have H := H1
  clear H1
  replace H := Option.bind_eq_some_iff.mp H
  obtain ⟨t278, A50, H⟩ := H
  have A5 := zA A50
  clear A50
  obtain rfl := yG H
  go_enter Tryd.func30, Tryd.ntmps30
  go_wp2_with (first | ((with_reducible refine zS (N := 1) rfl ?_); refine zW ?hg (N := 1) ?hd (cs := #[.int .i64 a0_0, .int .i64 a0_1, .int .i64 a0_2, .string a0_3, .slice A0_4 l0_4.length c0_4, .slice A0_5 l0_5.length c0_5]) (t := 34) ?hr ?_; (case hd => rfl); (case hg => rfl); (case hr => first | (go_simp; done) | (go_simp; rfl)); intro gb276 hg w6 hbox hb; have BK276 := zA (hbox); have GW276 := zA ((by rw [hg]; exact (zQ apA) : w.heap.size ≤ gb276)); have GE276 := zA ((by rw [hg]; exact (zQ apA) : w.heap.size ≤ gb276)); replace HB := zA (zP apA hb); clear hb hbox hg; obtain ⟨hcz7_0, hcz7_1, hcz7_2, hcz7_3, hcz7_4, hcz7_5, hfz7_0, hfz7_1, hfz7_2, hfz7_3, hfz7_4, hfz7_5⟩ := zb6 BK276.out) | ((with_reducible refine zT (f := 37) rfl ?_); refine goesL_ (some 4) rfl rfl Tryd.func37 (by kernel_rfl) rfl #[.agg #[.int .i64 a0_0, .int .i64 a0_1, .int .i64 a0_2, .string a0_3, .slice A0_4 l0_4.length c0_4, .slice A0_5 l0_5.length c0_5], .int .i64 20] rfl apE ?_; (with_reducible refine (impl_valueOk.calls k a0_0 a0_1 a0_2 a0_3 _ _ l0_4 _ _ l0_5 20 A1 c1 l1 true _ ?side1 ?side2 ?side3 ?side4 ?side5 ?side6 ?side7 A3.out).mono ?_); (case side1 => exact vc (Kd.C_below HR0_4.out HB.out)); (case side2 => exact HC0_4.out); (case side3 => exact vc (Kd.C_below HR0_5.out HB.out)); (case side4 => exact HC0_5.out); (case side5 => exact vc (Kd.C_below HR1.out HB.out)); (case side6 => exact HC1.out); (case side7 => exact HG1.out); rintro e w8 ⟨rfl, hb⟩; refine ⟨_, rfl, ?_⟩; replace BK276 := zA (zN (g := gb276) (o := .cells #[.int .i64 a0_0, .int .i64 a0_1, .int .i64 a0_2, .string a0_3, .slice A0_4 l0_4.length c0_4, .slice A0_5 l0_5.length c0_5] 34 (0, 0)) (by (with_reducible repeat (first | refine zB ?_ _ | refine zD ?_ | refine zC ?_ _)); exact BK276.out) hb); replace HB := zA (zP (by repeat (first | (with_reducible first | exact HB.out | apply zG | apply zE | apply zF | refine zH ?_ GE276.out) | exact HB.out)) hb); (try clear hb); (try clear hb2); (try clear hk); (try clear hi); obtain ⟨hcz9_0, hcz9_1, hcz9_2, hcz9_3, hcz9_4, hcz9_5, hfz9_0, hfz9_1, hfz9_2, hfz9_3, hfz9_4, hfz9_5⟩ := zb6 BK276.out) | (go_at_call 38; (with_reducible refine (impl_ValueSize.calls k a0_0 a0_1 a0_2 a0_3 _ _ l0_4 _ _ l0_5 t278 _ ?side1 ?side2 ?side3 ?side4 A5.out).mono ?_); (case side1 => exact vc (Kd.C_below HR0_4.out HB.out)); (case side2 => exact HC0_4.out); (case side3 => exact vc (Kd.C_below HR0_5.out HB.out)); (case side4 => exact HC0_5.out); rintro e w10 ⟨rfl, hb⟩; replace HB := zA (zP apA hb); (try clear hb); (try clear hb2); (try clear hk); (try clear hi)))
  go_ret
  exact ⟨apD, apA⟩
 ·replace c4 := Bool.eq_false_iff.mpr c4
  subst c4
  have H1 := H; rw [if_neg (show ¬ (false = true) by decide)] at H1
  clear H
  have H := H1
  clear H1
  obtain rfl := yG H
  go_enter Tryd.func30, Tryd.ntmps30
  go_wp2_with (first | ((with_reducible refine zS (N := 1) rfl ?_); refine zW ?hg (N := 1) ?hd (cs := #[.int .i64 a0_0, .int .i64 a0_1, .int .i64 a0_2, .string a0_3, .slice A0_4 l0_4.length c0_4, .slice A0_5 l0_5.length c0_5]) (t := 34) ?hr ?_; (case hd => rfl); (case hg => rfl); (case hr => first | (go_simp; done) | (go_simp; rfl)); intro gb276 hg w11 hbox hb; have BK276 := zA (hbox); have GW276 := zA ((by rw [hg]; exact (zQ apA) : w.heap.size ≤ gb276)); have GE276 := zA ((by rw [hg]; exact (zQ apA) : w.heap.size ≤ gb276)); replace HB := zA (zP apA hb); clear hb hbox hg; obtain ⟨hcz12_0, hcz12_1, hcz12_2, hcz12_3, hcz12_4, hcz12_5, hfz12_0, hfz12_1, hfz12_2, hfz12_3, hfz12_4, hfz12_5⟩ := zb6 BK276.out) | ((with_reducible refine zT (f := 37) rfl ?_); refine goesL_ (some 4) rfl rfl Tryd.func37 (by kernel_rfl) rfl #[.agg #[.int .i64 a0_0, .int .i64 a0_1, .int .i64 a0_2, .string a0_3, .slice A0_4 l0_4.length c0_4, .slice A0_5 l0_5.length c0_5], .int .i64 20] rfl apE ?_; (with_reducible refine (impl_valueOk.calls k a0_0 a0_1 a0_2 a0_3 _ _ l0_4 _ _ l0_5 20 A1 c1 l1 false _ ?side1 ?side2 ?side3 ?side4 ?side5 ?side6 ?side7 A3.out).mono ?_); (case side1 => exact vc (Kd.C_below HR0_4.out HB.out)); (case side2 => exact HC0_4.out); (case side3 => exact vc (Kd.C_below HR0_5.out HB.out)); (case side4 => exact HC0_5.out); (case side5 => exact vc (Kd.C_below HR1.out HB.out)); (case side6 => exact HC1.out); (case side7 => exact HG1.out); rintro e w13 ⟨rfl, hb⟩; refine ⟨_, rfl, ?_⟩; replace HB := zA (zP apA hb); (try clear hb); (try clear hb2); (try clear hk); (try clear hi)))
  go_ret
  exact ⟨apD, apA⟩


def spec_l1Neg.f (a0_0 : Int) (a0_1 : Int) : Option (Int × Int) := some (wrap64 (-a0_0), a0_1)
set_option maxHeartbeats 8000000 in
set_option maxRecDepth 100000 in
theorem spec_l1Neg.calls (a0_0 : Int) (a0_1 : Int) (r1 : Int) (r2 : Int) (w : World) (h : spec_l1Neg.f a0_0 a0_1 = some (r1, r2)) :
  Calls Tryd.prog 44 #[.agg #[.int .i64 a0_0, .int .i64 a0_1]] w fun e w' => e = .returned (.agg #[.int .i64 r1, .int .i64 r2]) ∧ Below w.heap.size w w' := by
 have hu31 := Tryd.underlying31
 have HB := zA (yH w.heap.size w)
 have H : (some (wrap64 (-a0_0), a0_1)) = some (r1, r2) := h
 clear h
 simp only [Option.some.injEq, Prod.mk.injEq] at H
 obtain ⟨rfl, rfl⟩ := H
 go_enter Tryd.func44, Tryd.ntmps44
 go_wp2_with (first | ((with_reducible refine zS (N := 1) rfl ?_); refine zW ?hg (N := 1) ?hd (cs := #[.int .i64 a0_0, .int .i64 a0_1]) (t := 31) ?hr ?_; (case hd => rfl); (case hg => rfl); (case hr => first | (go_simp; done) | (go_simp; rfl)); intro gb182 hg w2 hbox hb; have BK182 := zA (hbox); have GW182 := zA ((by rw [hg]; exact (zQ apA) : w.heap.size ≤ gb182)); have GE182 := zA ((by rw [hg]; exact (zQ apA) : w.heap.size ≤ gb182)); replace HB := zA (zP apA hb); clear hb hbox hg) | ((with_reducible refine zS (N := 2) rfl ?_); refine zW ?hg (N := 2) ?hd (cs := #[.int .i64 0, .int .i64 0]) (t := 31) ?hr ?_; (case hd => rfl); (case hg => rfl); (case hr => first | (go_simp; done) | (go_simp; rfl)); intro gb183 hg w3 hbox hb; have BK183 := zA (hbox); have GW183 := zA ((by rw [hg]; exact (zQ (by repeat (first | (with_reducible first | exact HB.out | apply zG | apply zE | apply zF | refine zH ?_ GE182.out) | exact HB.out))) : w.heap.size ≤ gb183)); have GE183 := zA ((by rw [hg]; exact (zQ (by repeat (first | (with_reducible first | exact HB.out | apply zG | apply zE | apply zF | refine zH ?_ GE182.out) | exact HB.out))) : w.heap.size ≤ gb183)); replace HB := zA (zP (by repeat (first | (with_reducible first | exact HB.out | apply zG | apply zE | apply zF | refine zH ?_ GE182.out) | exact HB.out)) hb); have NB182_183 := zA ((by rw [hg]; exact Nat.ne_of_lt (blk_lt (g := gb182) (o := .cells #[.int .i64 a0_0, .int .i64 a0_1] 31 (0, 0)) (by (with_reducible repeat (first | refine zB ?_ _ | refine zD ?_ | refine zC ?_ _)); exact BK182.out)) : gb182 ≠ gb183)); have NB183_182 := zA ((by rw [hg]; exact Nat.ne_of_gt (blk_lt (g := gb182) (o := .cells #[.int .i64 a0_0, .int .i64 a0_1] 31 (0, 0)) (by (with_reducible repeat (first | refine zB ?_ _ | refine zD ?_ | refine zC ?_ _)); exact BK182.out)) : gb183 ≠ gb182)); replace BK182 := zA (zN (g := gb182) (o := .cells #[.int .i64 a0_0, .int .i64 a0_1] 31 (0, 0)) (by (with_reducible repeat (first | refine zB ?_ _ | refine zD ?_ | refine zC ?_ _)); exact BK182.out) hb); clear hb hbox hg; have hnb4 := NB182_183.out; have hnc4 := NB183_182.out; obtain ⟨hcz5_0, hcz5_1, hfz5_0, hfz5_1⟩ := zb2 BK182.out; obtain ⟨hcz6_0, hcz6_1, hfz6_0, hfz6_1⟩ := zb2 BK183.out))
 refine bodyPost_ret (results_cell_row rfl _ _ gb183 31 #[.int .i64 (wrap64 (-a0_0)), .int .i64 a0_1] (0, 0) _ rfl (by (with_reducible repeat (first | refine zB ?_ _ | refine zD ?_ | refine zC ?_ _)); refine blk_put (cs := #[.int .i64 (wrap64 (-a0_0)), .int .i64 0]) ?_ 1 _ rfl; (with_reducible repeat (first | refine zB ?_ _ | refine zD ?_ | refine zC ?_ _)); refine blk_put (cs := #[.int .i64 0, .int .i64 0]) ?_ 0 _ rfl; (with_reducible repeat (first | refine zB ?_ _ | refine zD ?_ | refine zC ?_ _)); exact BK183.out) Tryd.underlying31 rfl (by kernel_rfl)) rfl ?_
 exact ⟨apD, by repeat (first | (with_reducible first | exact HB.out | apply zG | apply zE | apply zF | refine zH ?_ GE182.out | refine zH ?_ GE183.out) | exact HB.out)⟩


def spec_l1Dec.f : Nat → Int → Option (ByteArray)
 | 0, _ => none
 | k + 1, a0 => if a0 < (-9223372036854775807) then (some (⟨#[45, 57, 50, 50, 51, 51, 55, 50, 48, 51, 54, 56, 53, 52, 55, 55, 53, 56, 48, 56]⟩ : ByteArray)) else (if a0 < 0 then ((spec_l1Dec.f k (wrap64 (-a0))).bind fun t184 => (if 1 + t184.size ≤ 9223372036854775807 then (some ((⟨#[45]⟩ : ByteArray) ++ t184)) else (none))) else (if a0 < 10 then (some (strOfNums (([(wrap64 (48 + a0)) % 256] : List Int)))) else ((spec_l1Dec.f k (wrap64 (Int.tdiv a0 10))).bind fun t188 => ((some (([(wrap64 (48 + (Int.tmod a0 10))) % 256] : List Int) : List Int)).bind fun y189 => (if t188.size + (strOfNums y189).size ≤ 9223372036854775807 then (some (t188 ++ (strOfNums y189))) else (none))))))
theorem spec_l1Dec.mono_l : ∀ k, (∀ y0, LeO (spec_l1Dec.f k y0) (spec_l1Dec.f (k + 1) y0))
 | 0 => fun _ r h => by simp [spec_l1Dec.f] at h
 | k + 1 => by
  have ih0 := spec_l1Dec.mono_l k
  ·intro y0
   unfold spec_l1Dec.f
   repeat' first
   | (with_reducible exact ih0 _)
   | (with_reducible exact LeO.refl _)
   | (with_reducible exact LeO.none _)
   | (with_reducible refine LeO.ite ?_ ?_)
   | (with_reducible refine LeO.bind ?_ (fun _ => ?_))
   | exact ih0 _
theorem spec_l1Dec.mono : ∀ a0 k, LeO (spec_l1Dec.f k a0) (spec_l1Dec.f (k + 1) a0) := by
 intro a0 k
 have ih0 := spec_l1Dec.mono_l k
 exact ih0 a0
def spec_l1Dec.T7 : Bool × List (List Nat × List Nat) := (true, [([], []), ([0], [0]), ([1], [1]), ([], []), ([3], [3]), ([4], [4]), ([5], [5]), ([6], [6]), ([7], [7]), ([2, 8], [2, 8]), ([9, 2, 0, 1, 2, 3, 4, 5, 6, 7, 8, 9], [9])])
def spec_l1Dec.B7 : List Nat := [0, 1, 3, 0, 8, 24, 56, 120, 248, 511, 1023]
theorem spec_l1Dec.tab7 : rtab .any (opsOf Tryd.f45 7) = spec_l1Dec.T7 := by kernel_rfl
theorem spec_l1Dec.bits7 : waitsOk spec_l1Dec.T7.2 spec_l1Dec.B7 = true := by kernel_rfl
set_option maxHeartbeats 8000000 in
set_option maxRecDepth 100000 in
theorem spec_l1Dec.calls (k : Nat) : ∀ (a0 : Int) (r : ByteArray) (w : World) (h : spec_l1Dec.f k a0 = some r),
  Calls Tryd.prog 45 #[.int .i64 a0] w fun e w' => e = .returned (.string r) ∧ Below w.heap.size w w' := by
 induction k using Nat.strongRecOn with
 | _ k ih =>
 intro a0 r w h
 cases k with
 | zero => exact absurd h (by simp [spec_l1Dec.f])
 | succ k =>
 simp only [spec_l1Dec.f] at h
 have HB := zA (yH w.heap.size w)
 have H : (if a0 < (-9223372036854775807) then (some (⟨#[45, 57, 50, 50, 51, 51, 55, 50, 48, 51, 54, 56, 53, 52, 55, 55, 53, 56, 48, 56]⟩ : ByteArray)) else (if a0 < 0 then ((spec_l1Dec.f k (wrap64 (-a0))).bind fun t184 => (if 1 + t184.size ≤ 9223372036854775807 then (some ((⟨#[45]⟩ : ByteArray) ++ t184)) else (none))) else (if a0 < 10 then (some (strOfNums (([(wrap64 (48 + a0)) % 256] : List Int)))) else ((spec_l1Dec.f k (wrap64 (Int.tdiv a0 10))).bind fun t188 => ((some (([(wrap64 (48 + (Int.tmod a0 10))) % 256] : List Int) : List Int)).bind fun y189 => (if t188.size + (strOfNums y189).size ≤ 9223372036854775807 then (some (t188 ++ (strOfNums y189))) else (none))))))) = some r := h
 clear h
 by_cases c2 : a0 < (-9223372036854775807)
 ·rw [if_pos c2] at H
  have c2b0 : decide (a0 < (-9223372036854775807)) = true := yE c2
  clear c2
  obtain rfl := yG H
  go_enter Tryd.func45, Tryd.ntmps45
  go_wp2
  go_ret
  exact ⟨apD, apA⟩
 ·rw [if_neg c2] at H
  have c2b0 : decide (a0 < (-9223372036854775807)) = false := decide_eq_false c2
  clear c2
  by_cases c3 : a0 < 0
  ·rw [if_pos c3] at H
   have c3b0 : decide (a0 < 0) = true := yE c3
   clear c3
   replace H := Option.bind_eq_some_iff.mp H
   obtain ⟨t184, A40, H⟩ := H
   have A4 := zA A40
   clear A40
   by_cases c5 : 1 + t184.size ≤ 9223372036854775807
   ·rw [if_pos c5] at H
    have c5b0 := eq_true c5
    have c5b1 : decide (1 + t184.size ≤ 9223372036854775807) = true := yE c5
    try have c5b2 : (9223372036854775807 < 1 + t184.size) = False := eq_false (Nat.not_lt.2 c5)
    obtain rfl := yG H
    go_enter Tryd.func45, Tryd.ntmps45
    go_wp2_with (first | ((with_reducible refine zT (f := 45) rfl ?_); refine goesL_ (some 9) rfl rfl Tryd.func45 (by kernel_rfl) rfl #[.int .i64 (wrap64 (-a0))] rfl apE ?_; (with_reducible refine (ih k (by omega) (wrap64 (-a0)) t184 _ A4.out).mono ?_); rintro e w6 ⟨rfl, hb⟩; refine ⟨_, rfl, ?_⟩; replace HB := zA (zP apA hb); (try clear hb); (try clear hb2); (try clear hk); (try clear hi)))
    go_ret
    exact ⟨apD, apA⟩
   ·rw [if_neg c5] at H
    exact absurd H (by simp)
  ·rw [if_neg c3] at H
   have c3b0 : decide (a0 < 0) = false := decide_eq_false c3
   clear c3
   by_cases c7 : a0 < 10
   ·rw [if_pos c7] at H
    have c7b0 : decide (a0 < 10) = true := yE c7
    clear c7
    obtain ⟨y185, hy185⟩ : ∃ y_ : List Int, y_ = (([(wrap64 (48 + a0)) % 256] : List Int)) := ⟨_, rfl⟩
    replace H : (some (strOfNums y185)) = some r := by first | (rw [hy185]; with_reducible exact H) | (have H2_ := (Option.bind_some _ _).symm.trans H; rw [hy185]; with_reducible exact H2_) | (have H2_ := (Option.bind_some _ _).symm.trans H; with_reducible exact H2_) | with_reducible exact H | (rw [hy185]; exact H) | exact H
    have Ny185 := zA hy185
    clear hy185
    obtain rfl := yG H
    go_enter Tryd.func45, Tryd.ntmps45
    go_wp2_with (first | ((with_reducible refine zS (N := 16) rfl ?_); refine Kd.R_lit (Kd.int .u8) _ 5 ?hg (N := 16) ?hd (xs := ([(wrap64 (48 + a0)) % 256] : List Int)) (inner := [.int .u8 ((wrap64 (48 + a0)) % 256)]) (ok := fun _ => True) (okp := fun _ => True) ?hr ?hp (fun _ hk => hk) trivial (yH _ _) (yJ _) (by simp) ?_; (case hd => rfl); (case hg => rfl); (case hr => first | (go_simp; done) | (go_simp; rfl)); (case hp => exact (Reps.one (show Kd.M (Kd.int .u8) _ _ _ ((wrap64 (48 + a0)) % 256) [.int .u8 ((wrap64 (48 + a0)) % 256)] from rfl) (Reps.none _ _))); intro v186 w8 ho9 hb hg_ hnew_; clear hg_ hnew_; (first | rw [← Ny185.out] at ho9 | (simp only [Int.reduceToNat] at ho9; rw [← Ny185.out] at ho9)); have HO187 := zA (Kd.R_lower ho9 (zQ apA)); replace HB := zA (zP apA hb); clear hb ho9; have hcv10 := own_string (P := Tryd.prog) Tryd.underlying65 Tryd.underlying5 Tryd.underlying9 (Kd.own_of_R HO187.out)))
    go_ret
    exact ⟨apD, apA⟩
   ·rw [if_neg c7] at H
    have c7b0 : decide (a0 < 10) = false := decide_eq_false c7
    clear c7
    replace H := Option.bind_eq_some_iff.mp H
    obtain ⟨t188, A110, H⟩ := H
    have A11 := zA A110
    clear A110
    obtain ⟨y189, hy189⟩ : ∃ y_ : List Int, y_ = (([(wrap64 (48 + (Int.tmod a0 10))) % 256] : List Int)) := ⟨_, rfl⟩
    replace H : (if t188.size + (strOfNums y189).size ≤ 9223372036854775807 then (some (t188 ++ (strOfNums y189))) else (none)) = some r := by first | (rw [hy189]; with_reducible exact H) | (have H2_ := (Option.bind_some _ _).symm.trans H; rw [hy189]; with_reducible exact H2_) | (have H2_ := (Option.bind_some _ _).symm.trans H; with_reducible exact H2_) | with_reducible exact H | (rw [hy189]; exact H) | exact H
    have Ny189 := zA hy189
    clear hy189
    by_cases c12 : t188.size + (strOfNums y189).size ≤ 9223372036854775807
    ·rw [if_pos c12] at H
     have c12b0 := eq_true c12
     have c12b1 : decide (t188.size + (strOfNums y189).size ≤ 9223372036854775807) = true := yE c12
     try have c12b2 : (9223372036854775807 < t188.size + (strOfNums y189).size) = False := eq_false (Nat.not_lt.2 c12)
     obtain rfl := yG H
     go_enter Tryd.func45, Tryd.ntmps45
     try go_wp2
     replace HB := zA (zF HB.out)
     refine start_ (n := 11) (S := fun w' => True) (ds := []) #[false, false, false, false, false, false, false, false, false, false, false] (by kernel_rfl) rfl rfl trivial (fun hHeld => ?_); refine with_tabW spec_l1Dec.tab7 spec_l1Dec.bits7 (fun HT_ HW_ => ?_)
     generalize w.drew = w13 at HB hHeld ⊢
     refine pure_ (i := 0) (N := some 18) (v := ?_) (a' := ?_) #[true, false, false, false, false, false, false, false, false, false, false] rfl rfl (any_of HT_.out (by kernel_rfl)) (fun _ _ _ h => h) (Or.inl ⟨by rfl, ?_⟩) ?_ ?_
     rotate_left
     ·intro w'
      go_simp
      with_reducible rfl
     rotate_left
     ·simp only [Act.put, zK, zL, zM, i64_w, i32_w]
      rfl
     refine pure_ (i := 1) (N := some 19) (v := ?_) (a' := ?_) #[true, true, false, false, false, false, false, false, false, false, false] rfl rfl (any_of HT_.out (by kernel_rfl)) (fun _ _ _ h => h) (Or.inl ⟨by rfl, ?_⟩) ?_ ?_
     rotate_left
     ·intro w'
      go_simp
      with_reducible rfl
     rotate_left
     ·simp only [Act.put, zK, zL, zM, i64_w, i32_w]
      rfl
     refine pure_ (i := 3) (N := some 21) (v := ?_) (a' := ?_) #[true, true, false, true, false, false, false, false, false, false, false] rfl rfl (any_of HT_.out (by kernel_rfl)) (fun _ _ _ h => h) (Or.inl ⟨by rfl, ?_⟩) ?_ ?_
     rotate_left
     ·intro w'
      go_simp
      with_reducible rfl
     rotate_left
     ·simp only [Act.put, zK, zL, zM, i64_w, i32_w]
      rfl
     refine pure_ (i := 4) (N := some 22) (v := ?_) (a' := ?_) #[true, true, false, true, true, false, false, false, false, false, false] rfl rfl (any_of HT_.out (by kernel_rfl)) (fun _ _ _ h => h) (Or.inl ⟨by rfl, ?_⟩) ?_ ?_
     rotate_left
     ·intro w'
      go_simp
      with_reducible rfl
     rotate_left
     ·simp only [Act.put, zK, zL, zM, i64_w, i32_w]
      rfl
     refine pure_ (i := 5) (N := some 23) (v := ?_) (a' := ?_) #[true, true, false, true, true, true, false, false, false, false, false] rfl rfl (any_of HT_.out (by kernel_rfl)) (fun _ _ _ h => h) (Or.inl ⟨by rfl, ?_⟩) ?_ ?_
     rotate_left
     ·intro w'
      go_simp
      with_reducible rfl
     rotate_left
     ·simp only [Act.put, zK, zL, zM, i64_w, i32_w]
      rfl
     refine pure_ (i := 6) (N := some 24) (v := ?_) (a' := ?_) #[true, true, false, true, true, true, true, false, false, false, false] rfl rfl (any_of HT_.out (by kernel_rfl)) (fun _ _ _ h => h) (Or.inl ⟨by rfl, ?_⟩) ?_ ?_
     rotate_left
     ·intro w'
      go_simp
      with_reducible rfl
     rotate_left
     ·simp only [Act.put, zK, zL, zM, i64_w, i32_w]
      rfl
     refine join_ (σ := Value) 2 #[true, true, true, true, true, true, true, true, true, false, false] (fun s_ => [(20, .string t188), (25, s_), (26, .string (strOfNums y189))]) (fun s_ w' => (Kd.R (Kd.int .u8) 5 w' w.heap.size (fun _ => True) s_ y189) ∧ (Below w.heap.size w w')) ?_ ?_
     rotate_left
     ·intro hCont
      refine two_ (i := 2) (j := 7) (Ni := some 20) (Nj := some 25) #[true, true, true, true, true, true, true, false, false, false, false] #[true, true, false, true, true, true, true, true, false, false, false] rfl rfl rfl rfl (two_of HT_.out (by kernel_rfl)) (by decide) (by decide) (fun K hK => ?_) (fun K hK => ?_)
      ·skip
       refine goes_ Tryd.func45 (by kernel_rfl) rfl #[.int .i64 (wrap64 (Int.tdiv a0 10))] (by rfl) rfl rfl apE ?_
       with_reducible refine (ih k (by omega) (wrap64 (Int.tdiv a0 10)) t188 _ A11.out).mono ?_
       rintro e w14 ⟨rfl, hb⟩
       refine ⟨_, rfl, ?_⟩
       replace HB := zA (zP apA hb)
       (try clear hb)
       (try clear hb2)
       (try clear hk)
       (try clear hi)
       refine hK.out _ _ trivial (fun hHeld => ?_)
       clear hK K
       refine norm_ (a' := ?_) ?_ ?_
       rotate_left
       ·show Act.put _ (some 20) _ = _
        simp only [Act.put, zK, zL, zM, i64_w, i32_w]
        rfl
       refine one_ (i := 7) (N := some 25) #[true, true, true, true, true, true, true, true, false, false, false] rfl rfl (one_of HT_.out (by kernel_rfl)) (by decide) (fun K hK => ?_)
       refine Kd.R_lit_step (Kd.int .u8) _ 5 ?hg (N := 25) ?hd (xs := ([(wrap64 (48 + (Int.tmod a0 10))) % 256] : List Int)) (inner := [.int .u8 ((wrap64 (48 + (Int.tmod a0 10))) % 256)]) (ok := fun _ => True) (okp := fun _ => True) ?hr ?hp (fun _ hk => hk) trivial (yH _ _) (yJ _) (by simp) ?_; (case hd => rfl); (case hg => rfl); (case hr => first | (go_simp; done) | (go_simp; rfl)); (case hp => exact (Reps.one (show Kd.M (Kd.int .u8) _ _ _ ((wrap64 (48 + (Int.tmod a0 10))) % 256) [.int .u8 ((wrap64 (48 + (Int.tmod a0 10))) % 256)] from rfl) (Reps.none _ _)))
       intro v190 w15 ho16 hb hg_ hnew_
       clear hg_ hnew_
       (first | rw [← Ny189.out] at ho16 | (simp only [Int.reduceToNat] at ho16; rw [← Ny189.out] at ho16))
       have HO191 := zA (Kd.R_lower ho16 (zQ apA))
       replace HB := zA (zP apA hb)
       clear hb ho16
       refine hK.out _ _ trivial (fun hHeld => ?_)
       clear hK K
       refine norm_ (a' := ?_) ?_ ?_
       rotate_left
       ·show Act.put _ (some 25) _ = _
        simp only [Act.put, zK, zL, zM, i64_w, i32_w]
        rfl
       refine one_ (i := 8) (N := some 26) #[true, true, true, true, true, true, true, true, true, false, false] rfl rfl (one_of HT_.out (by kernel_rfl)) (by decide) (fun K hK => ?_)
       have hcv17 := own_string (P := Tryd.prog) Tryd.underlying65 Tryd.underlying5 Tryd.underlying9 (Kd.own_of_R HO191.out)
       refine value_ (w1 := ?_) (v := ?_) (by rfl) rfl ?_ ?_
       rotate_left 2
       ·go_simp
        constructor
        ·rfl
        ·rfl
       clear hcv17
       refine hK.out _ _ trivial (fun hHeld => ?_)
       clear hK K
       refine norm_ (a' := ?_) ?_ ?_
       rotate_left
       ·show Act.put _ (some 26) _ = _
        simp only [Act.put, zK, zL, zM, i64_w, i32_w]
        rfl
       exact norm_ (by simp only [putAll, Act.put, zK, zL, zM]) (hCont (v190) _ ⟨(vwR HO191.out), apA⟩)
      ·skip
       refine Kd.R_lit_step (Kd.int .u8) _ 5 ?hg (N := 25) ?hd (xs := ([(wrap64 (48 + (Int.tmod a0 10))) % 256] : List Int)) (inner := [.int .u8 ((wrap64 (48 + (Int.tmod a0 10))) % 256)]) (ok := fun _ => True) (okp := fun _ => True) ?hr ?hp (fun _ hk => hk) trivial (yH _ _) (yJ _) (by simp) ?_; (case hd => rfl); (case hg => rfl); (case hr => first | (go_simp; done) | (go_simp; rfl)); (case hp => exact (Reps.one (show Kd.M (Kd.int .u8) _ _ _ ((wrap64 (48 + (Int.tmod a0 10))) % 256) [.int .u8 ((wrap64 (48 + (Int.tmod a0 10))) % 256)] from rfl) (Reps.none _ _)))
       intro v190 w14 ho15 hb hg_ hnew_
       clear hg_ hnew_
       (first | rw [← Ny189.out] at ho15 | (simp only [Int.reduceToNat] at ho15; rw [← Ny189.out] at ho15))
       have HO191 := zA (Kd.R_lower ho15 (zQ apA))
       replace HB := zA (zP apA hb)
       clear hb ho15
       refine hK.out _ _ trivial (fun hHeld => ?_)
       clear hK K
       refine norm_ (a' := ?_) ?_ ?_
       rotate_left
       ·show Act.put _ (some 25) _ = _
        simp only [Act.put, zK, zL, zM, i64_w, i32_w]
        rfl
       refine two_ (i := 2) (j := 8) (Ni := some 20) (Nj := some 26) #[true, true, true, true, true, true, true, true, false, false, false] #[true, true, false, true, true, true, true, true, true, false, false] rfl rfl rfl rfl (two_of HT_.out (by kernel_rfl)) (by decide) (by decide) (fun K hK => ?_) (fun K hK => ?_)
       ·skip
        refine goes_ Tryd.func45 (by kernel_rfl) rfl #[.int .i64 (wrap64 (Int.tdiv a0 10))] (by rfl) rfl rfl apE ?_
        with_reducible refine (ih k (by omega) (wrap64 (Int.tdiv a0 10)) t188 _ A11.out).mono ?_
        rintro e w16 ⟨rfl, hb⟩
        refine ⟨_, rfl, ?_⟩
        replace HO191 := zA (Kd.R_below (vwR HO191.out) hb)
        replace HB := zA (zP apA hb)
        (try clear hb)
        (try clear hb2)
        (try clear hk)
        (try clear hi)
        refine hK.out _ _ trivial (fun hHeld => ?_)
        clear hK K
        refine norm_ (a' := ?_) ?_ ?_
        rotate_left
        ·show Act.put _ (some 20) _ = _
         simp only [Act.put, zK, zL, zM, i64_w, i32_w]
         rfl
        refine one_ (i := 8) (N := some 26) #[true, true, true, true, true, true, true, true, true, false, false] rfl rfl (one_of HT_.out (by kernel_rfl)) (by decide) (fun K hK => ?_)
        have hcv17 := own_string (P := Tryd.prog) Tryd.underlying65 Tryd.underlying5 Tryd.underlying9 (Kd.own_of_R HO191.out)
        refine value_ (w1 := ?_) (v := ?_) (by rfl) rfl ?_ ?_
        rotate_left 2
        ·go_simp
         constructor
         ·rfl
         ·rfl
        clear hcv17
        refine hK.out _ _ trivial (fun hHeld => ?_)
        clear hK K
        refine norm_ (a' := ?_) ?_ ?_
        rotate_left
        ·show Act.put _ (some 26) _ = _
         simp only [Act.put, zK, zL, zM, i64_w, i32_w]
         rfl
        exact norm_ (by simp only [putAll, Act.put, zK, zL, zM]) (hCont (v190) _ ⟨(vwR HO191.out), apA⟩)
       ·skip
        have hcv16 := own_string (P := Tryd.prog) Tryd.underlying65 Tryd.underlying5 Tryd.underlying9 (Kd.own_of_R HO191.out)
        refine value_ (w1 := ?_) (v := ?_) (by rfl) rfl ?_ ?_
        rotate_left 2
        ·go_simp
         constructor
         ·rfl
         ·rfl
        clear hcv16
        refine hK.out _ _ trivial (fun hHeld => ?_)
        clear hK K
        refine norm_ (a' := ?_) ?_ ?_
        rotate_left
        ·show Act.put _ (some 26) _ = _
         simp only [Act.put, zK, zL, zM, i64_w, i32_w]
         rfl
        refine one_ (i := 2) (N := some 20) #[true, true, true, true, true, true, true, true, true, false, false] rfl rfl (one_of HT_.out (by kernel_rfl)) (by decide) (fun K hK => ?_)
        refine goes_ Tryd.func45 (by kernel_rfl) rfl #[.int .i64 (wrap64 (Int.tdiv a0 10))] (by rfl) rfl rfl apE ?_
        with_reducible refine (ih k (by omega) (wrap64 (Int.tdiv a0 10)) t188 _ A11.out).mono ?_
        rintro e w17 ⟨rfl, hb⟩
        refine ⟨_, rfl, ?_⟩
        replace HO191 := zA (Kd.R_below (vwR HO191.out) hb)
        replace HB := zA (zP apA hb)
        (try clear hb)
        (try clear hb2)
        (try clear hk)
        (try clear hi)
        refine hK.out _ _ trivial (fun hHeld => ?_)
        clear hK K
        refine norm_ (a' := ?_) ?_ ?_
        rotate_left
        ·show Act.put _ (some 20) _ = _
         simp only [Act.put, zK, zL, zM, i64_w, i32_w]
         rfl
        exact norm_ (by simp only [putAll, Act.put, zK, zL, zM]) (hCont (v190) _ ⟨(vwR HO191.out), apA⟩)
     rintro v190 w18 ⟨h0_, h1_⟩
     have n0_ : Aside0 (Kd.R (Kd.int .u8) 5 w18 w.heap.size (fun _ => True) v190 y189) := ⟨h0_⟩
     have n1_ : Aside0 (Below w.heap.size w w18) := ⟨h1_⟩
     clear HB
     clear h0_ h1_
     have HO191 := n0_
     have HB := n1_
     clear n0_ n1_
     have hHeld := trivial
     refine norm_ (a' := ?_) ?_ ?_
     rotate_left
     ·simp only [putAll, Act.put, zK, zL, zM]
      rfl
     refine pure_ (i := 9) (N := some 27) (v := ?_) (a' := ?_) #[true, true, true, true, true, true, true, true, true, true, false] rfl rfl (any_of HT_.out (by kernel_rfl)) (fun _ _ _ h => h) (Or.inl ⟨by rfl, ?_⟩) ?_ ?_
     rotate_left
     ·intro w'
      go_simp
      with_reducible rfl
     rotate_left
     ·simp only [Act.put, zK, zL, zM, i64_w, i32_w]
      rfl
     refine pure_ (i := 10) (N := some 2) (v := ?_) (a' := ?_) #[true, true, true, true, true, true, true, true, true, true, true] rfl rfl (any_of HT_.out (by kernel_rfl)) (fun _ _ _ h => h) (Or.inl ⟨by rfl, ?_⟩) ?_ ?_
     rotate_left
     ·intro w'
      go_simp
      with_reducible rfl
     rotate_left
     ·simp only [Act.put, zK, zL, zM, i64_w, i32_w]
      rfl
     refine done_ (done_of HT_.out (by kernel_rfl)) ?_
     try go_wp2
     go_ret
     exact ⟨apD, apA⟩
    ·rw [if_neg c12] at H
     exact absurd H (by simp)


def spec_l1Many.l0 : Nat → ByteArray → Int → ByteArray → Option (ByteArray)
 | 0, _, _, _ => none
 | k + 1, x0, x1, x5 => if x1 > 0 then (if (Int.tmod x1 2) = 1 then (if x5.size + x0.size ≤ 9223372036854775807 then (if x0.size + x0.size ≤ 9223372036854775807 then (spec_l1Many.l0 k (x0 ++ x0) (wrap64 (Int.tdiv x1 2)) (x5 ++ x0)) else (none)) else (none)) else (if x0.size + x0.size ≤ 9223372036854775807 then (spec_l1Many.l0 k (x0 ++ x0) (wrap64 (Int.tdiv x1 2)) x5) else (none))) else (some x5)
def spec_l1Many.f (k : Nat) (a0 : ByteArray) (a1 : Int) : Option (ByteArray) := spec_l1Many.l0 k a0 a1 (⟨#[]⟩ : ByteArray)
theorem spec_l1Many.mono_l : ∀ k, (∀ y0 y1 y2, LeO (spec_l1Many.l0 k y0 y1 y2) (spec_l1Many.l0 (k + 1) y0 y1 y2))
 | 0 => fun _ _ _ r h => by simp [spec_l1Many.l0] at h
 | k + 1 => by
  have ih0 := spec_l1Many.mono_l k
  ·intro y0 y1 y2
   unfold spec_l1Many.l0
   repeat' first
   | (with_reducible exact ih0 _ _ _)
   | (with_reducible exact LeO.refl _)
   | (with_reducible exact LeO.none _)
   | (with_reducible refine LeO.ite ?_ ?_)
   | (with_reducible refine LeO.bind ?_ (fun _ => ?_))
   | exact ih0 _ _ _
theorem spec_l1Many.mono : ∀ a0 a1 k, LeO (spec_l1Many.f k a0 a1) (spec_l1Many.f (k + 1) a0 a1) := by
 intro a0 a1 k
 have ih0 := spec_l1Many.mono_l k
 unfold spec_l1Many.f
 repeat' first
   | (with_reducible exact ih0 _ _ _)
   | (with_reducible exact LeO.refl _)
   | (with_reducible exact LeO.none _)
   | (with_reducible refine LeO.ite ?_ ?_)
   | (with_reducible refine LeO.bind ?_ (fun _ => ?_))
   | exact ih0 _ _ _
set_option maxHeartbeats 8000000 in
set_option maxRecDepth 100000 in
theorem spec_l1Many.calls (k : Nat) (a0 : ByteArray) (a1 : Int) (r : ByteArray) (w : World) (h : spec_l1Many.f k a0 a1 = some r) :
  Calls Tryd.prog 46 #[.string a0, .int .i64 a1] w fun e w' => e = .returned (.string r) ∧ Drawn0 w w' := by
 have H : (spec_l1Many.l0 k a0 a1 (⟨#[]⟩ : ByteArray)) = some r := h
 clear h
 have H' := zA H
 clear H
 go_enter Tryd.func46, Tryd.ntmps46
 go_wp2
 go_loopg [0, 1, 5] k (fun kq v0 v1 v5 w' => ∃ (x0_1 : ByteArray) (x1_1 : Int) (x5_1 : ByteArray), v0 = .string x0_1 ∧ v1 = .int .i64 x1_1 ∧ v5 = .string x5_1 ∧ Aside0 (spec_l1Many.l0 kq x0_1 x1_1 x5_1 = some r) ∧ Aside0 (kq ≤ k) ∧ Drawn0 w w')
 case atStart => exact ⟨(a0), (a1), ((⟨#[]⟩ : ByteArray)), apC, apC, apC, H', ⟨yJ _⟩, apF⟩
 case round =>
  clear H'
  try clear p2
  obtain ⟨x0_1, x1_1, x5_1, rfl, rfl, rfl, HA, HK1, ⟨m1, rfl⟩⟩ := hrel
  cases gk with
  | zero => exact absurd HA.out (by simp [spec_l1Many.l0])
  | succ k1 =>
   have H := HA.out
   clear HA
   simp only [spec_l1Many.l0] at H
   by_cases c3 : x1_1 > 0
   ·rw [if_pos c3] at H
    have c3b0 : decide (0 < x1_1) = true := yE c3
    clear c3
    by_cases c4 : (Int.tmod x1_1 2) = 1
    ·rw [if_pos c4] at H
     have c4b0 : ((Int.tmod x1_1 2) == 1) = true := beq_iff_eq.mpr c4
     have c4b1 : ((Int.tmod x1_1 2) != 1) = false := bne_eq_false_iff_eq.mpr c4
     clear c4
     by_cases c5 : x5_1.size + x0_1.size ≤ 9223372036854775807
     ·rw [if_pos c5] at H
      have c5b0 := eq_true c5
      have c5b1 : decide (x5_1.size + x0_1.size ≤ 9223372036854775807) = true := yE c5
      try have c5b2 : (9223372036854775807 < x5_1.size + x0_1.size) = False := eq_false (Nat.not_lt.2 c5)
      by_cases c6 : x0_1.size + x0_1.size ≤ 9223372036854775807
      ·rw [if_pos c6] at H
       have c6b0 := eq_true c6
       have c6b1 : decide (x0_1.size + x0_1.size ≤ 9223372036854775807) = true := yE c6
       try have c6b2 : (9223372036854775807 < x0_1.size + x0_1.size) = False := eq_false (Nat.not_lt.2 c6)
       have H' := zA H
       clear H
       go_wp2
       go_roundg k1
       case measure => have := HK1.out; omega
       case rel => exact ⟨(x0_1 ++ x0_1), (wrap64 (Int.tdiv x1_1 2)), (x5_1 ++ x0_1), apC, apC, apC, H', ⟨by have := HK1.out; omega⟩, apF⟩
      ·rw [if_neg c6] at H
       exact absurd H (by simp)
     ·rw [if_neg c5] at H
      exact absurd H (by simp)
    ·rw [if_neg c4] at H
     have c4b0 : ((Int.tmod x1_1 2) == 1) = false := beq_eq_false_iff_ne.mpr c4
     have c4b1 : ((Int.tmod x1_1 2) != 1) = true := bne_iff_ne.mpr c4
     by_cases c7 : x0_1.size + x0_1.size ≤ 9223372036854775807
     ·rw [if_pos c7] at H
      have c7b0 := eq_true c7
      have c7b1 : decide (x0_1.size + x0_1.size ≤ 9223372036854775807) = true := yE c7
      try have c7b2 : (9223372036854775807 < x0_1.size + x0_1.size) = False := eq_false (Nat.not_lt.2 c7)
      have H' := zA H
      clear H
      go_wp2
      go_roundg k1
      case measure => have := HK1.out; omega
      case rel => exact ⟨(x0_1 ++ x0_1), (wrap64 (Int.tdiv x1_1 2)), (x5_1), apC, apC, apC, H', ⟨by have := HK1.out; omega⟩, apF⟩
     ·rw [if_neg c7] at H
      exact absurd H (by simp)
   ·rw [if_neg c3] at H
    have c3b0 : decide (0 < x1_1) = false := decide_eq_false c3
    clear c3
    obtain rfl := yG H
    go_wp2
    go_ret
    exact ⟨apC, apF⟩

end Go.Proofs.YthaceblepbkjjaaDoor.Q
