-- laid by a program of this session (wip/tools) out of the translation; Lean checks it
import Derived.Test.YtmdpjfmkhnjilaaDoorSh
import Derived.Lib.AppendIntMem
import Derived.Lib.AtoiErrMem
import Derived.Test.YtmdpjfmkhnjilaaDoorBFnExactTomlPutq1
namespace Go.Proofs.YtmdpjfmkhnjilaaDoor.Q
open Go.RowKit Go.Proofs.YtmdpjfmkhnjilaaDoorW.PrintWords Go.Proofs.YtmdpjfmkhnjilaaDoorW.PrintLast Go.Proofs.YtmdpjfmkhnjilaaDoorW.PrintMore Go.Proofs.YtmdpjfmkhnjilaaDoorX
attribute [local go_sem] max2_int min2_int max_two min_two max_three min_three max_four min_four   -- for this text's walks alone
set_option linter.unusedVariables false
set_option linter.unusedSimpArgs false

def spec_l1Dec.f : Nat → Int → Option (ByteArray)
 | 0, _ => none
 | k + 1, a0 => if a0 < (-9223372036854775807) then (some (⟨#[45, 57, 50, 50, 51, 51, 55, 50, 48, 51, 54, 56, 53, 52, 55, 55, 53, 56, 48, 56]⟩ : ByteArray)) else (if a0 < 0 then ((spec_l1Dec.f k (wrap64 (-a0))).bind fun t187 => (if 1 + t187.size ≤ 9223372036854775807 then (some ((⟨#[45]⟩ : ByteArray) ++ t187)) else (none))) else (if a0 < 10 then (some (strOfNums (([(wrap64 (48 + a0)) % 256] : List Int)))) else ((spec_l1Dec.f k (wrap64 (Int.tdiv a0 10))).bind fun t191 => ((some (([(wrap64 (48 + (Int.tmod a0 10))) % 256] : List Int) : List Int)).bind fun y192 => (if t191.size + (strOfNums y192).size ≤ 9223372036854775807 then (some (t191 ++ (strOfNums y192))) else (none))))))
theorem spec_l1Dec.mono_l : ∀ k, (∀ y0, LeO (spec_l1Dec.f k y0) (spec_l1Dec.f (k + 1) y0))
 | 0 => fun _ r h => by simp [spec_l1Dec.f] at h
 | k + 1 => by
  have ih0 := spec_l1Dec.mono_l k
  ·intro y0
   unfold spec_l1Dec.f
   repeat' first
   | (with_reducible exact ih0 _)
   | (with_reducible exact LeO.refl _)
   | (with_reducible exact LeO.none _)
   | (with_reducible refine LeO.ite ?_ ?_)
   | (with_reducible refine LeO.bind ?_ (fun _ => ?_))
   | exact ih0 _
theorem spec_l1Dec.mono : ∀ a0 k, LeO (spec_l1Dec.f k a0) (spec_l1Dec.f (k + 1) a0) := by
 intro a0 k
 have ih0 := spec_l1Dec.mono_l k
 exact ih0 a0
def spec_l1Dec.T7 : Bool × List (List Nat × List Nat) := (true, [([], []), ([0], [0]), ([1], [1]), ([], []), ([3], [3]), ([4], [4]), ([5], [5]), ([6], [6]), ([7], [7]), ([2, 8], [2, 8]), ([9, 2, 0, 1, 2, 3, 4, 5, 6, 7, 8, 9], [9])])
def spec_l1Dec.B7 : List Nat := [0, 1, 3, 0, 8, 24, 56, 120, 248, 511, 1023]
theorem spec_l1Dec.tab7 : rtab .any (opsOf Tryd.f48 7) = spec_l1Dec.T7 := by kernel_rfl
theorem spec_l1Dec.bits7 : waitsOk spec_l1Dec.T7.2 spec_l1Dec.B7 = true := by kernel_rfl
set_option maxHeartbeats 8000000 in
set_option maxRecDepth 100000 in
theorem spec_l1Dec.calls (k : Nat) : ∀ (a0 : Int) (r : ByteArray) (w : World) (h : spec_l1Dec.f k a0 = some r),
  Calls Tryd.prog 48 #[.int .i64 a0] w fun e w' => e = .returned (.string r) ∧ Below w.heap.size w w' := by
 induction k using Nat.strongRecOn with
 | _ k ih =>
 intro a0 r w h
 cases k with
 | zero => exact absurd h (by simp [spec_l1Dec.f])
 | succ k =>
 simp only [spec_l1Dec.f] at h
 have HB := zA (yH w.heap.size w)
 have H : (if a0 < (-9223372036854775807) then (some (⟨#[45, 57, 50, 50, 51, 51, 55, 50, 48, 51, 54, 56, 53, 52, 55, 55, 53, 56, 48, 56]⟩ : ByteArray)) else (if a0 < 0 then ((spec_l1Dec.f k (wrap64 (-a0))).bind fun t187 => (if 1 + t187.size ≤ 9223372036854775807 then (some ((⟨#[45]⟩ : ByteArray) ++ t187)) else (none))) else (if a0 < 10 then (some (strOfNums (([(wrap64 (48 + a0)) % 256] : List Int)))) else ((spec_l1Dec.f k (wrap64 (Int.tdiv a0 10))).bind fun t191 => ((some (([(wrap64 (48 + (Int.tmod a0 10))) % 256] : List Int) : List Int)).bind fun y192 => (if t191.size + (strOfNums y192).size ≤ 9223372036854775807 then (some (t191 ++ (strOfNums y192))) else (none))))))) = some r := h
 clear h
 by_cases c2 : a0 < (-9223372036854775807)
 ·rw [if_pos c2] at H
  have c2b0 : decide (a0 < (-9223372036854775807)) = true := yE c2
  clear c2
  obtain rfl := yG H
  go_enter Tryd.func48, Tryd.ntmps48
  go_wp2
  go_ret
  exact ⟨apD, apA⟩
 ·rw [if_neg c2] at H
  have c2b0 : decide (a0 < (-9223372036854775807)) = false := decide_eq_false c2
  clear c2
  by_cases c3 : a0 < 0
  ·rw [if_pos c3] at H
   have c3b0 : decide (a0 < 0) = true := yE c3
   clear c3
   replace H := Option.bind_eq_some_iff.mp H
   obtain ⟨t187, A40, H⟩ := H
   have A4 := zA A40
   clear A40
   by_cases c5 : 1 + t187.size ≤ 9223372036854775807
   ·rw [if_pos c5] at H
    have c5b0 := eq_true c5
    have c5b1 : decide (1 + t187.size ≤ 9223372036854775807) = true := yE c5
    try have c5b2 : (9223372036854775807 < 1 + t187.size) = False := eq_false (Nat.not_lt.2 c5)
    obtain rfl := yG H
    go_enter Tryd.func48, Tryd.ntmps48
    go_wp2_with (first | ((with_reducible refine zT (f := 48) rfl ?_); refine goesL_ (some 9) rfl rfl Tryd.func48 (by kernel_rfl) rfl #[.int .i64 (wrap64 (-a0))] rfl apE ?_; (with_reducible refine (ih k (by omega) (wrap64 (-a0)) t187 _ A4.out).mono ?_); rintro e w6 ⟨rfl, hb⟩; refine ⟨_, rfl, ?_⟩; have n0_ := zA (zP apA hb); clear HB; have HB := n0_; clear n0_; (try clear hb); (try clear hb2); (try clear hk); (try clear hi)))
    go_ret
    exact ⟨apD, apA⟩
   ·rw [if_neg c5] at H
    exact absurd H (by simp)
  ·rw [if_neg c3] at H
   have c3b0 : decide (a0 < 0) = false := decide_eq_false c3
   clear c3
   by_cases c7 : a0 < 10
   ·rw [if_pos c7] at H
    have c7b0 : decide (a0 < 10) = true := yE c7
    clear c7
    obtain ⟨y188, hy188⟩ : ∃ y_ : List Int, y_ = (([(wrap64 (48 + a0)) % 256] : List Int)) := ⟨_, rfl⟩
    replace H : (some (strOfNums y188)) = some r := by first | (rw [hy188]; with_reducible exact H) | (have H2_ := (Option.bind_some _ _).symm.trans H; rw [hy188]; with_reducible exact H2_) | (have H2_ := (Option.bind_some _ _).symm.trans H; with_reducible exact H2_) | with_reducible exact H | (rw [hy188]; exact H) | exact H
    have Ny188 := zA hy188
    clear hy188
    obtain rfl := yG H
    go_enter Tryd.func48, Tryd.ntmps48
    go_wp2_with (first | ((with_reducible refine zS (N := 16) rfl ?_); refine Kd.R_lit (Kd.int .u8) _ 5 ?hg (N := 16) ?hd (xs := ([(wrap64 (48 + a0)) % 256] : List Int)) (inner := [.int .u8 ((wrap64 (48 + a0)) % 256)]) (ok := fun _ => True) (okp := fun _ => True) ?hr ?hp (fun _ hk => hk) trivial (yH _ _) (yJ _) (by simp) ?_; (case hd => rfl); (case hg => rfl); (case hr => first | (go_simp; done) | (go_simp; rfl)); (case hp => exact (Reps.one (show Kd.M (Kd.int .u8) _ _ _ ((wrap64 (48 + a0)) % 256) [.int .u8 ((wrap64 (48 + a0)) % 256)] from rfl) (Reps.none _ _))); intro v189 w8 ho9 hb hg_ hnew_; clear hg_ hnew_; (first | rw [← Ny188.out] at ho9 | (simp only [Int.reduceToNat] at ho9; rw [← Ny188.out] at ho9)); have n0_ := zA (Kd.R_lower ho9 (zQ apA)); have n1_ := zA (zP apA hb); clear HB; have HO190 := n0_; have HB := n1_; clear n0_ n1_; clear hb ho9; have hcv10 := own_string (P := Tryd.prog) Tryd.underlying68 Tryd.underlying5 Tryd.underlying9 (Kd.own_of_R HO190.out)))
    go_ret
    exact ⟨apD, apA⟩
   ·rw [if_neg c7] at H
    have c7b0 : decide (a0 < 10) = false := decide_eq_false c7
    clear c7
    replace H := Option.bind_eq_some_iff.mp H
    obtain ⟨t191, A110, H⟩ := H
    have A11 := zA A110
    clear A110
    obtain ⟨y192, hy192⟩ : ∃ y_ : List Int, y_ = (([(wrap64 (48 + (Int.tmod a0 10))) % 256] : List Int)) := ⟨_, rfl⟩
    replace H : (if t191.size + (strOfNums y192).size ≤ 9223372036854775807 then (some (t191 ++ (strOfNums y192))) else (none)) = some r := by first | (rw [hy192]; with_reducible exact H) | (have H2_ := (Option.bind_some _ _).symm.trans H; rw [hy192]; with_reducible exact H2_) | (have H2_ := (Option.bind_some _ _).symm.trans H; with_reducible exact H2_) | with_reducible exact H | (rw [hy192]; exact H) | exact H
    have Ny192 := zA hy192
    clear hy192
    by_cases c12 : t191.size + (strOfNums y192).size ≤ 9223372036854775807
    ·rw [if_pos c12] at H
     have c12b0 := eq_true c12
     have c12b1 : decide (t191.size + (strOfNums y192).size ≤ 9223372036854775807) = true := yE c12
     try have c12b2 : (9223372036854775807 < t191.size + (strOfNums y192).size) = False := eq_false (Nat.not_lt.2 c12)
     obtain rfl := yG H
     go_enter Tryd.func48, Tryd.ntmps48
     try go_wp2
     have n0_ := zA (zF HB.out)
     clear HB
     have HB := n0_
     clear n0_
     refine start_ (n := 11) (S := fun w' => True) (ds := []) #[false, false, false, false, false, false, false, false, false, false, false] (by kernel_rfl) rfl rfl trivial (fun hHeld => ?_); refine with_tabW spec_l1Dec.tab7 spec_l1Dec.bits7 (fun HT_ HW_ => ?_)
     generalize w.drew = w13 at HB hHeld ⊢
     refine pure_ (i := 0) (N := some 18) (v := ?_) (a' := ?_) #[true, false, false, false, false, false, false, false, false, false, false] rfl rfl (any_of HT_.out (by kernel_rfl)) (fun _ _ _ h => h) (Or.inl ⟨by rfl, ?_⟩) ?_ ?_
     rotate_left
     ·intro w'
      go_simp
      with_reducible rfl
     rotate_left
     ·simp only [Act.put, zK, zL, zM, i64_w, i32_w]
      rfl
     refine pure_ (i := 1) (N := some 19) (v := ?_) (a' := ?_) #[true, true, false, false, false, false, false, false, false, false, false] rfl rfl (any_of HT_.out (by kernel_rfl)) (fun _ _ _ h => h) (Or.inl ⟨by rfl, ?_⟩) ?_ ?_
     rotate_left
     ·intro w'
      go_simp
      with_reducible rfl
     rotate_left
     ·simp only [Act.put, zK, zL, zM, i64_w, i32_w]
      rfl
     refine pure_ (i := 3) (N := some 21) (v := ?_) (a' := ?_) #[true, true, false, true, false, false, false, false, false, false, false] rfl rfl (any_of HT_.out (by kernel_rfl)) (fun _ _ _ h => h) (Or.inl ⟨by rfl, ?_⟩) ?_ ?_
     rotate_left
     ·intro w'
      go_simp
      with_reducible rfl
     rotate_left
     ·simp only [Act.put, zK, zL, zM, i64_w, i32_w]
      rfl
     refine pure_ (i := 4) (N := some 22) (v := ?_) (a' := ?_) #[true, true, false, true, true, false, false, false, false, false, false] rfl rfl (any_of HT_.out (by kernel_rfl)) (fun _ _ _ h => h) (Or.inl ⟨by rfl, ?_⟩) ?_ ?_
     rotate_left
     ·intro w'
      go_simp
      with_reducible rfl
     rotate_left
     ·simp only [Act.put, zK, zL, zM, i64_w, i32_w]
      rfl
     refine pure_ (i := 5) (N := some 23) (v := ?_) (a' := ?_) #[true, true, false, true, true, true, false, false, false, false, false] rfl rfl (any_of HT_.out (by kernel_rfl)) (fun _ _ _ h => h) (Or.inl ⟨by rfl, ?_⟩) ?_ ?_
     rotate_left
     ·intro w'
      go_simp
      with_reducible rfl
     rotate_left
     ·simp only [Act.put, zK, zL, zM, i64_w, i32_w]
      rfl
     refine pure_ (i := 6) (N := some 24) (v := ?_) (a' := ?_) #[true, true, false, true, true, true, true, false, false, false, false] rfl rfl (any_of HT_.out (by kernel_rfl)) (fun _ _ _ h => h) (Or.inl ⟨by rfl, ?_⟩) ?_ ?_
     rotate_left
     ·intro w'
      go_simp
      with_reducible rfl
     rotate_left
     ·simp only [Act.put, zK, zL, zM, i64_w, i32_w]
      rfl
     refine join_ (σ := Value) 2 #[true, true, true, true, true, true, true, true, true, false, false] (fun s_ => [(20, .string t191), (25, s_), (26, .string (strOfNums y192))]) (fun s_ w' => (Kd.R (Kd.int .u8) 5 w' w.heap.size (fun _ => True) s_ y192) ∧ (Below w.heap.size w w')) ?_ ?_
     rotate_left
     ·intro hCont
      refine two_ (i := 2) (j := 7) (Ni := some 20) (Nj := some 25) #[true, true, true, true, true, true, true, false, false, false, false] #[true, true, false, true, true, true, true, true, false, false, false] rfl rfl rfl rfl (two_of HT_.out (by kernel_rfl)) (by decide) (by decide) (fun K hK => ?_) (fun K hK => ?_)
      ·skip
       refine goes_ Tryd.func48 (by kernel_rfl) rfl #[.int .i64 (wrap64 (Int.tdiv a0 10))] (by rfl) rfl rfl apE ?_
       with_reducible refine (ih k (by omega) (wrap64 (Int.tdiv a0 10)) t191 _ A11.out).mono ?_
       rintro e w14 ⟨rfl, hb⟩
       refine ⟨_, rfl, ?_⟩
       have n0_ := zA (zP apA hb)
       clear HB
       have HB := n0_
       clear n0_
       (try clear hb)
       (try clear hb2)
       (try clear hk)
       (try clear hi)
       refine hK.out _ _ trivial (fun hHeld => ?_)
       clear hK K
       refine norm_ (a' := ?_) ?_ ?_
       rotate_left
       ·show Act.put _ (some 20) _ = _
        simp only [Act.put, zK, zL, zM, i64_w, i32_w]
        rfl
       refine one_ (i := 7) (N := some 25) #[true, true, true, true, true, true, true, true, false, false, false] rfl rfl (one_of HT_.out (by kernel_rfl)) (by decide) (fun K hK => ?_)
       refine Kd.R_lit_step (Kd.int .u8) _ 5 ?hg (N := 25) ?hd (xs := ([(wrap64 (48 + (Int.tmod a0 10))) % 256] : List Int)) (inner := [.int .u8 ((wrap64 (48 + (Int.tmod a0 10))) % 256)]) (ok := fun _ => True) (okp := fun _ => True) ?hr ?hp (fun _ hk => hk) trivial (yH _ _) (yJ _) (by simp) ?_; (case hd => rfl); (case hg => rfl); (case hr => first | (go_simp; done) | (go_simp; rfl)); (case hp => exact (Reps.one (show Kd.M (Kd.int .u8) _ _ _ ((wrap64 (48 + (Int.tmod a0 10))) % 256) [.int .u8 ((wrap64 (48 + (Int.tmod a0 10))) % 256)] from rfl) (Reps.none _ _)))
       intro v193 w15 ho16 hb hg_ hnew_
       clear hg_ hnew_
       (first | rw [← Ny192.out] at ho16 | (simp only [Int.reduceToNat] at ho16; rw [← Ny192.out] at ho16))
       have n0_ := zA (Kd.R_lower ho16 (zQ apA))
       have n1_ := zA (zP apA hb)
       clear HB
       have HO194 := n0_
       have HB := n1_
       clear n0_ n1_
       clear hb ho16
       refine hK.out _ _ trivial (fun hHeld => ?_)
       clear hK K
       refine norm_ (a' := ?_) ?_ ?_
       rotate_left
       ·show Act.put _ (some 25) _ = _
        simp only [Act.put, zK, zL, zM, i64_w, i32_w]
        rfl
       refine one_ (i := 8) (N := some 26) #[true, true, true, true, true, true, true, true, true, false, false] rfl rfl (one_of HT_.out (by kernel_rfl)) (by decide) (fun K hK => ?_)
       have hcv17 := own_string (P := Tryd.prog) Tryd.underlying68 Tryd.underlying5 Tryd.underlying9 (Kd.own_of_R HO194.out)
       refine value_ (w1 := ?_) (v := ?_) (by rfl) rfl ?_ ?_
       rotate_left 2
       ·go_simp
        constructor
        ·rfl
        ·rfl
       clear hcv17
       refine hK.out _ _ trivial (fun hHeld => ?_)
       clear hK K
       refine norm_ (a' := ?_) ?_ ?_
       rotate_left
       ·show Act.put _ (some 26) _ = _
        simp only [Act.put, zK, zL, zM, i64_w, i32_w]
        rfl
       exact norm_ (by simp only [putAll, Act.put, zK, zL, zM]) (hCont (v193) _ ⟨(by (with_reducible repeat (first | apply Kd.R_alloc | apply Kd.R_drewN | apply Kd.R_drew)); exact HO194.out), apA⟩)
      ·skip
       refine Kd.R_lit_step (Kd.int .u8) _ 5 ?hg (N := 25) ?hd (xs := ([(wrap64 (48 + (Int.tmod a0 10))) % 256] : List Int)) (inner := [.int .u8 ((wrap64 (48 + (Int.tmod a0 10))) % 256)]) (ok := fun _ => True) (okp := fun _ => True) ?hr ?hp (fun _ hk => hk) trivial (yH _ _) (yJ _) (by simp) ?_; (case hd => rfl); (case hg => rfl); (case hr => first | (go_simp; done) | (go_simp; rfl)); (case hp => exact (Reps.one (show Kd.M (Kd.int .u8) _ _ _ ((wrap64 (48 + (Int.tmod a0 10))) % 256) [.int .u8 ((wrap64 (48 + (Int.tmod a0 10))) % 256)] from rfl) (Reps.none _ _)))
       intro v193 w14 ho15 hb hg_ hnew_
       clear hg_ hnew_
       (first | rw [← Ny192.out] at ho15 | (simp only [Int.reduceToNat] at ho15; rw [← Ny192.out] at ho15))
       have n0_ := zA (Kd.R_lower ho15 (zQ apA))
       have n1_ := zA (zP apA hb)
       clear HB
       have HO194 := n0_
       have HB := n1_
       clear n0_ n1_
       clear hb ho15
       refine hK.out _ _ trivial (fun hHeld => ?_)
       clear hK K
       refine norm_ (a' := ?_) ?_ ?_
       rotate_left
       ·show Act.put _ (some 25) _ = _
        simp only [Act.put, zK, zL, zM, i64_w, i32_w]
        rfl
       refine two_ (i := 2) (j := 8) (Ni := some 20) (Nj := some 26) #[true, true, true, true, true, true, true, true, false, false, false] #[true, true, false, true, true, true, true, true, true, false, false] rfl rfl rfl rfl (two_of HT_.out (by kernel_rfl)) (by decide) (by decide) (fun K hK => ?_) (fun K hK => ?_)
       ·skip
        refine goes_ Tryd.func48 (by kernel_rfl) rfl #[.int .i64 (wrap64 (Int.tdiv a0 10))] (by rfl) rfl rfl apE ?_
        with_reducible refine (ih k (by omega) (wrap64 (Int.tdiv a0 10)) t191 _ A11.out).mono ?_
        rintro e w16 ⟨rfl, hb⟩
        refine ⟨_, rfl, ?_⟩
        have n0_ := zA (Kd.R_below (by (with_reducible repeat (first | apply Kd.R_alloc | apply Kd.R_drewN | apply Kd.R_drew)); exact HO194.out) hb)
        have n1_ := zA (zP apA hb)
        clear HO194
        clear HB
        have HO194 := n0_
        have HB := n1_
        clear n0_ n1_
        (try clear hb)
        (try clear hb2)
        (try clear hk)
        (try clear hi)
        refine hK.out _ _ trivial (fun hHeld => ?_)
        clear hK K
        refine norm_ (a' := ?_) ?_ ?_
        rotate_left
        ·show Act.put _ (some 20) _ = _
         simp only [Act.put, zK, zL, zM, i64_w, i32_w]
         rfl
        refine one_ (i := 8) (N := some 26) #[true, true, true, true, true, true, true, true, true, false, false] rfl rfl (one_of HT_.out (by kernel_rfl)) (by decide) (fun K hK => ?_)
        have hcv17 := own_string (P := Tryd.prog) Tryd.underlying68 Tryd.underlying5 Tryd.underlying9 (Kd.own_of_R HO194.out)
        refine value_ (w1 := ?_) (v := ?_) (by rfl) rfl ?_ ?_
        rotate_left 2
        ·go_simp
         constructor
         ·rfl
         ·rfl
        clear hcv17
        refine hK.out _ _ trivial (fun hHeld => ?_)
        clear hK K
        refine norm_ (a' := ?_) ?_ ?_
        rotate_left
        ·show Act.put _ (some 26) _ = _
         simp only [Act.put, zK, zL, zM, i64_w, i32_w]
         rfl
        exact norm_ (by simp only [putAll, Act.put, zK, zL, zM]) (hCont (v193) _ ⟨(by (with_reducible repeat (first | apply Kd.R_alloc | apply Kd.R_drewN | apply Kd.R_drew)); exact HO194.out), apA⟩)
       ·skip
        have hcv16 := own_string (P := Tryd.prog) Tryd.underlying68 Tryd.underlying5 Tryd.underlying9 (Kd.own_of_R HO194.out)
        refine value_ (w1 := ?_) (v := ?_) (by rfl) rfl ?_ ?_
        rotate_left 2
        ·go_simp
         constructor
         ·rfl
         ·rfl
        clear hcv16
        refine hK.out _ _ trivial (fun hHeld => ?_)
        clear hK K
        refine norm_ (a' := ?_) ?_ ?_
        rotate_left
        ·show Act.put _ (some 26) _ = _
         simp only [Act.put, zK, zL, zM, i64_w, i32_w]
         rfl
        refine one_ (i := 2) (N := some 20) #[true, true, true, true, true, true, true, true, true, false, false] rfl rfl (one_of HT_.out (by kernel_rfl)) (by decide) (fun K hK => ?_)
        refine goes_ Tryd.func48 (by kernel_rfl) rfl #[.int .i64 (wrap64 (Int.tdiv a0 10))] (by rfl) rfl rfl apE ?_
        with_reducible refine (ih k (by omega) (wrap64 (Int.tdiv a0 10)) t191 _ A11.out).mono ?_
        rintro e w17 ⟨rfl, hb⟩
        refine ⟨_, rfl, ?_⟩
        have n0_ := zA (Kd.R_below (by (with_reducible repeat (first | apply Kd.R_alloc | apply Kd.R_drewN | apply Kd.R_drew)); exact HO194.out) hb)
        have n1_ := zA (zP apA hb)
        clear HO194
        clear HB
        have HO194 := n0_
        have HB := n1_
        clear n0_ n1_
        (try clear hb)
        (try clear hb2)
        (try clear hk)
        (try clear hi)
        refine hK.out _ _ trivial (fun hHeld => ?_)
        clear hK K
        refine norm_ (a' := ?_) ?_ ?_
        rotate_left
        ·show Act.put _ (some 20) _ = _
         simp only [Act.put, zK, zL, zM, i64_w, i32_w]
         rfl
        exact norm_ (by simp only [putAll, Act.put, zK, zL, zM]) (hCont (v193) _ ⟨(by (with_reducible repeat (first | apply Kd.R_alloc | apply Kd.R_drewN | apply Kd.R_drew)); exact HO194.out), apA⟩)
     rintro v193 w18 ⟨h0_, h1_⟩
     have n0_ : Aside0 (Kd.R (Kd.int .u8) 5 w18 w.heap.size (fun _ => True) v193 y192) := ⟨h0_⟩
     have n1_ : Aside0 (Below w.heap.size w w18) := ⟨h1_⟩
     clear HB
     clear h0_ h1_
     have HO194 := n0_
     have HB := n1_
     clear n0_ n1_
     have hHeld := trivial
     refine norm_ (a' := ?_) ?_ ?_
     rotate_left
     ·simp only [putAll, Act.put, zK, zL, zM]
      rfl
     refine pure_ (i := 9) (N := some 27) (v := ?_) (a' := ?_) #[true, true, true, true, true, true, true, true, true, true, false] rfl rfl (any_of HT_.out (by kernel_rfl)) (fun _ _ _ h => h) (Or.inl ⟨by rfl, ?_⟩) ?_ ?_
     rotate_left
     ·intro w'
      go_simp
      with_reducible rfl
     rotate_left
     ·simp only [Act.put, zK, zL, zM, i64_w, i32_w]
      rfl
     refine pure_ (i := 10) (N := some 2) (v := ?_) (a' := ?_) #[true, true, true, true, true, true, true, true, true, true, true] rfl rfl (any_of HT_.out (by kernel_rfl)) (fun _ _ _ h => h) (Or.inl ⟨by rfl, ?_⟩) ?_ ?_
     rotate_left
     ·intro w'
      go_simp
      with_reducible rfl
     rotate_left
     ·simp only [Act.put, zK, zL, zM, i64_w, i32_w]
      rfl
     refine done_ (done_of HT_.out (by kernel_rfl)) ?_
     try go_wp2
     go_ret
     exact ⟨apD, apA⟩
    ·rw [if_neg c12] at H
     exact absurd H (by simp)


def spec_l1Many.l0 : Nat → ByteArray → Int → ByteArray → Option (ByteArray)
 | 0, _, _, _ => none
 | k + 1, x0, x1, x5 => if x1 > 0 then (if (Int.tmod x1 2) = 1 then (if x5.size + x0.size ≤ 9223372036854775807 then (if x0.size + x0.size ≤ 9223372036854775807 then (spec_l1Many.l0 k (x0 ++ x0) (wrap64 (Int.tdiv x1 2)) (x5 ++ x0)) else (none)) else (none)) else (if x0.size + x0.size ≤ 9223372036854775807 then (spec_l1Many.l0 k (x0 ++ x0) (wrap64 (Int.tdiv x1 2)) x5) else (none))) else (some x5)
def spec_l1Many.f (k : Nat) (a0 : ByteArray) (a1 : Int) : Option (ByteArray) := spec_l1Many.l0 k a0 a1 (⟨#[]⟩ : ByteArray)
theorem spec_l1Many.mono_l : ∀ k, (∀ y0 y1 y2, LeO (spec_l1Many.l0 k y0 y1 y2) (spec_l1Many.l0 (k + 1) y0 y1 y2))
 | 0 => fun _ _ _ r h => by simp [spec_l1Many.l0] at h
 | k + 1 => by
  have ih0 := spec_l1Many.mono_l k
  ·intro y0 y1 y2
   unfold spec_l1Many.l0
   repeat' first
   | (with_reducible exact ih0 _ _ _)
   | (with_reducible exact LeO.refl _)
   | (with_reducible exact LeO.none _)
   | (with_reducible refine LeO.ite ?_ ?_)
   | (with_reducible refine LeO.bind ?_ (fun _ => ?_))
   | exact ih0 _ _ _
theorem spec_l1Many.mono : ∀ a0 a1 k, LeO (spec_l1Many.f k a0 a1) (spec_l1Many.f (k + 1) a0 a1) := by
 intro a0 a1 k
 have ih0 := spec_l1Many.mono_l k
 unfold spec_l1Many.f
 repeat' first
   | (with_reducible exact ih0 _ _ _)
   | (with_reducible exact LeO.refl _)
   | (with_reducible exact LeO.none _)
   | (with_reducible refine LeO.ite ?_ ?_)
   | (with_reducible refine LeO.bind ?_ (fun _ => ?_))
   | exact ih0 _ _ _
set_option maxHeartbeats 8000000 in
set_option maxRecDepth 100000 in
theorem spec_l1Many.calls (k : Nat) (a0 : ByteArray) (a1 : Int) (r : ByteArray) (w : World) (h : spec_l1Many.f k a0 a1 = some r) :
  Calls Tryd.prog 49 #[.string a0, .int .i64 a1] w fun e w' => e = .returned (.string r) ∧ Drawn0 w w' := by
 have H : (spec_l1Many.l0 k a0 a1 (⟨#[]⟩ : ByteArray)) = some r := h
 clear h
 have H' := zA H
 clear H
 go_enter Tryd.func49, Tryd.ntmps49
 go_wp2
 go_loopg [0, 1, 5] k (fun kq v0 v1 v5 w' => ∃ (x0_1 : ByteArray) (x1_1 : Int) (x5_1 : ByteArray), v0 = .string x0_1 ∧ v1 = .int .i64 x1_1 ∧ v5 = .string x5_1 ∧ Aside0 (spec_l1Many.l0 kq x0_1 x1_1 x5_1 = some r) ∧ Aside0 (kq ≤ k) ∧ Drawn0 w w')
 case atStart => exact ⟨(a0), (a1), ((⟨#[]⟩ : ByteArray)), apC, apC, apC, H', ⟨yJ _⟩, apF⟩
 case round =>
  clear H'
  try clear p2
  obtain ⟨x0_1, x1_1, x5_1, rfl, rfl, rfl, HA, HK1, ⟨m1, rfl⟩⟩ := hrel
  cases gk with
  | zero => exact absurd HA.out (by simp [spec_l1Many.l0])
  | succ k1 =>
   have H := HA.out
   clear HA
   simp only [spec_l1Many.l0] at H
   by_cases c3 : x1_1 > 0
   ·rw [if_pos c3] at H
    have c3b0 : decide (0 < x1_1) = true := yE c3
    clear c3
    by_cases c4 : (Int.tmod x1_1 2) = 1
    ·rw [if_pos c4] at H
     have c4b0 : ((Int.tmod x1_1 2) == 1) = true := beq_iff_eq.mpr c4
     have c4b1 : ((Int.tmod x1_1 2) != 1) = false := bne_eq_false_iff_eq.mpr c4
     clear c4
     by_cases c5 : x5_1.size + x0_1.size ≤ 9223372036854775807
     ·rw [if_pos c5] at H
      have c5b0 := eq_true c5
      have c5b1 : decide (x5_1.size + x0_1.size ≤ 9223372036854775807) = true := yE c5
      try have c5b2 : (9223372036854775807 < x5_1.size + x0_1.size) = False := eq_false (Nat.not_lt.2 c5)
      by_cases c6 : x0_1.size + x0_1.size ≤ 9223372036854775807
      ·rw [if_pos c6] at H
       have c6b0 := eq_true c6
       have c6b1 : decide (x0_1.size + x0_1.size ≤ 9223372036854775807) = true := yE c6
       try have c6b2 : (9223372036854775807 < x0_1.size + x0_1.size) = False := eq_false (Nat.not_lt.2 c6)
       have H' := zA H
       clear H
       go_wp2
       go_roundg k1
       case measure => have := HK1.out; omega
       case rel => exact ⟨(x0_1 ++ x0_1), (wrap64 (Int.tdiv x1_1 2)), (x5_1 ++ x0_1), apC, apC, apC, H', ⟨by have := HK1.out; omega⟩, apF⟩
      ·rw [if_neg c6] at H
       exact absurd H (by simp)
     ·rw [if_neg c5] at H
      exact absurd H (by simp)
    ·rw [if_neg c4] at H
     have c4b0 : ((Int.tmod x1_1 2) == 1) = false := beq_eq_false_iff_ne.mpr c4
     have c4b1 : ((Int.tmod x1_1 2) != 1) = true := bne_iff_ne.mpr c4
     by_cases c7 : x0_1.size + x0_1.size ≤ 9223372036854775807
     ·rw [if_pos c7] at H
      have c7b0 := eq_true c7
      have c7b1 : decide (x0_1.size + x0_1.size ≤ 9223372036854775807) = true := yE c7
      try have c7b2 : (9223372036854775807 < x0_1.size + x0_1.size) = False := eq_false (Nat.not_lt.2 c7)
      have H' := zA H
      clear H
      go_wp2
      go_roundg k1
      case measure => have := HK1.out; omega
      case rel => exact ⟨(x0_1 ++ x0_1), (wrap64 (Int.tdiv x1_1 2)), (x5_1), apC, apC, apC, H', ⟨by have := HK1.out; omega⟩, apF⟩
     ·rw [if_neg c7] at H
      exact absurd H (by simp)
   ·rw [if_neg c3] at H
    have c3b0 : decide (0 < x1_1) = false := decide_eq_false c3
    clear c3
    obtain rfl := yG H
    go_wp2
    go_ret
    exact ⟨apC, apF⟩

end Go.Proofs.YtmdpjfmkhnjilaaDoor.Q

namespace Go.Proofs.YtmdpjfmkhnjilaaDoor.Q
open Go.RowKit Go.Proofs.YtmdpjfmkhnjilaaDoorW.PrintWords Go.Proofs.YtmdpjfmkhnjilaaDoorW.PrintLast Go.Proofs.YtmdpjfmkhnjilaaDoorW.PrintMore Go.Proofs.YtmdpjfmkhnjilaaDoorX
attribute [local go_sem] max2_int min2_int max_two min_two max_three min_three max_four min_four   -- for this text's walks alone
set_option linter.unusedVariables false
set_option linter.unusedSimpArgs false

attribute [-simp] ByteArray.size_extract
mutual
def spec_l1Text.l0 : Nat → ByteArray → Int → Int → Option (ByteArray)
 | 0, _, _, _ => none
 | k + 1, x3, x196000, x196001 => if (x3.size : Int) ≤ (wrap64 (-x196001)) then (if 1 + x3.size ≤ 9223372036854775807 then (spec_l1Text.l0 k ((⟨#[48]⟩ : ByteArray) ++ x3) x196000 x196001) else (none)) else (if 0 ≤ (wrap64 ((x3.size : Int) + x196001)) then (if (wrap64 ((x3.size : Int) + x196001)) ≤ (x3.size : Int) then (if (x3.extract 0 ((wrap64 ((x3.size : Int) + x196001)) : Int).toNat).size + 1 ≤ 9223372036854775807 then (if ((x3.extract 0 ((wrap64 ((x3.size : Int) + x196001)) : Int).toNat) ++ (⟨#[46]⟩ : ByteArray)).size + (x3.extract ((wrap64 ((x3.size : Int) + x196001)) : Int).toNat x3.size).size ≤ 9223372036854775807 then (some (((x3.extract 0 ((wrap64 ((x3.size : Int) + x196001)) : Int).toNat) ++ (⟨#[46]⟩ : ByteArray)) ++ (x3.extract ((wrap64 ((x3.size : Int) + x196001)) : Int).toNat x3.size))) else (none)) else (none)) else (none)) else (none))
def spec_l1Text.f : Nat → Int → Int → Option (ByteArray)
 | 0, _, _ => none
 | k + 1, a0_0, a0_1 => if a0_0 < 0 then ((spec_l1Neg.f a0_0 a0_1).bind fun bt196 => ((spec_l1Text.f k bt196.1 bt196.2).bind fun t198 => (if 1 + t198.size ≤ 9223372036854775807 then (some ((⟨#[45]⟩ : ByteArray) ++ t198)) else (none)))) else ((spec_l1Dec.f k a0_0).bind fun t199 => (if a0_1 ≥ 0 then ((spec_l1Many.f k (⟨#[48]⟩ : ByteArray) a0_1).bind fun t200 => (if t199.size + t200.size ≤ 9223372036854775807 then (some (t199 ++ t200)) else (none))) else (spec_l1Text.l0 k t199 a0_0 a0_1)))
end
theorem spec_l1Text.mono_l : ∀ k, (∀ y0 y1, LeO (spec_l1Text.f k y0 y1) (spec_l1Text.f (k + 1) y0 y1)) ∧ (∀ y0 y1 y2, LeO (spec_l1Text.l0 k y0 y1 y2) (spec_l1Text.l0 (k + 1) y0 y1 y2))
 | 0 => ⟨fun _ _ r h => by simp [spec_l1Text.f] at h, fun _ _ _ r h => by simp [spec_l1Text.l0] at h⟩
 | k + 1 => by
  obtain ⟨ih0, ih1⟩ := spec_l1Text.mono_l k
  refine ⟨?_, ?_⟩
  ·intro y0 y1
   unfold spec_l1Text.f
   repeat' first
   | (with_reducible exact ih0 _ _)
   | (with_reducible exact ih1 _ _ _)
   | (with_reducible exact spec_l1Dec.mono _ _)
   | (with_reducible exact spec_l1Many.mono _ _ _)
   | (with_reducible exact LeO.refl _)
   | (with_reducible exact LeO.none _)
   | (with_reducible refine LeO.ite ?_ ?_)
   | (with_reducible refine LeO.bind ?_ (fun _ => ?_))
   | exact ih0 _ _
   | exact ih1 _ _ _
  ·intro y0 y1 y2
   unfold spec_l1Text.l0
   repeat' first
   | (with_reducible exact ih0 _ _)
   | (with_reducible exact ih1 _ _ _)
   | (with_reducible exact spec_l1Dec.mono _ _)
   | (with_reducible exact spec_l1Many.mono _ _ _)
   | (with_reducible exact LeO.refl _)
   | (with_reducible exact LeO.none _)
   | (with_reducible refine LeO.ite ?_ ?_)
   | (with_reducible refine LeO.bind ?_ (fun _ => ?_))
   | exact ih0 _ _
   | exact ih1 _ _ _
theorem spec_l1Text.mono : ∀ a0 a1 k, LeO (spec_l1Text.f k a0 a1) (spec_l1Text.f (k + 1) a0 a1) := by
 intro a0 a1 k
 obtain ⟨ih0, ih1⟩ := spec_l1Text.mono_l k
 exact ih0 a0 a1
set_option maxHeartbeats 8000000 in
set_option maxRecDepth 100000 in
theorem spec_l1Text.calls (k : Nat) : ∀ (a0_0 : Int) (a0_1 : Int) (r : ByteArray) (w : World) (h : spec_l1Text.f k a0_0 a0_1 = some r),
  Calls Tryd.prog 35 #[.agg #[.int .i64 a0_0, .int .i64 a0_1]] w fun e w' => e = .returned (.string r) ∧ Below w.heap.size w w' := by
 induction k using Nat.strongRecOn with
 | _ k ih =>
 intro a0_0 a0_1 r w h
 cases k with
 | zero => exact absurd h (by simp [spec_l1Text.f])
 | succ k =>
 simp only [spec_l1Text.f] at h
 have hu31 := Tryd.underlying31
 have HB := zA (yH w.heap.size w)
 have H : (if a0_0 < 0 then ((spec_l1Neg.f a0_0 a0_1).bind fun bt196 => ((spec_l1Text.f k bt196.1 bt196.2).bind fun t198 => (if 1 + t198.size ≤ 9223372036854775807 then (some ((⟨#[45]⟩ : ByteArray) ++ t198)) else (none)))) else ((spec_l1Dec.f k a0_0).bind fun t199 => (if a0_1 ≥ 0 then ((spec_l1Many.f k (⟨#[48]⟩ : ByteArray) a0_1).bind fun t200 => (if t199.size + t200.size ≤ 9223372036854775807 then (some (t199 ++ t200)) else (none))) else (spec_l1Text.l0 k t199 a0_0 a0_1)))) = some r := h
 clear h
 by_cases c2 : a0_0 < 0
 ·rw [if_pos c2] at H
  have c2b0 : decide (a0_0 < 0) = true := yE c2
  clear c2
  replace H := Option.bind_eq_some_iff.mp H
  obtain ⟨⟨t196, t197⟩, A30, H⟩ := H
  have A3 := zA A30
  clear A30
  replace H := Option.bind_eq_some_iff.mp H
  obtain ⟨t198, A40, H⟩ := H
  have A4 := zA A40
  clear A40
  by_cases c5 : 1 + t198.size ≤ 9223372036854775807
  ·rw [if_pos c5] at H
   have c5b0 := eq_true c5
   have c5b1 : decide (1 + t198.size ≤ 9223372036854775807) = true := yE c5
   try have c5b2 : (9223372036854775807 < 1 + t198.size) = False := eq_false (Nat.not_lt.2 c5)
   obtain rfl := yG H
   go_enter Tryd.func35, Tryd.ntmps35
   go_wp2_with (first | ((with_reducible refine zS (N := 1) rfl ?_); refine zW ?hg (N := 1) ?hd (cs := #[.int .i64 a0_0, .int .i64 a0_1]) (t := 31) ?hr ?_; (case hd => rfl); (case hg => rfl); (case hr => first | (go_simp; done) | (go_simp; rfl)); intro gb195 hg w6 hbox hb; have n0_ := zA (zP apA hb); have n1_ := zA (hbox); have n2_ := zA ((by rw [hg]; exact (zQ apA) : w.heap.size ≤ gb195)); have n3_ := zA ((by rw [hg]; exact (zQ apA) : w.heap.size ≤ gb195)); clear HB; have HB := n0_; have BK195 := n1_; have GW195 := n2_; have GE195 := n3_; clear n0_ n1_ n2_ n3_; clear hb hbox hg; obtain ⟨hcz7_0, hcz7_1, hfz7_0, hfz7_1⟩ := zb2 BK195.out) | (go_at_call 47; (with_reducible refine (spec_l1Neg.calls a0_0 a0_1 t196 t197 _ A3.out).mono ?_); rintro e w8 ⟨rfl, hb⟩; have n0_ := zA (zP apA hb); clear HB; have HB := n0_; clear n0_; (try clear hb); (try clear hb2); (try clear hk); (try clear hi)) | (go_at_call 35; (with_reducible refine (ih k (by omega) t196 t197 t198 _ A4.out).mono ?_); rintro e w9 ⟨rfl, hb⟩; have n0_ := zA (zP apA hb); clear HB; have HB := n0_; clear n0_; (try clear hb); (try clear hb2); (try clear hk); (try clear hi)))
   repeat (go_quiet (first | ((with_reducible refine zS (N := 1) rfl ?_); refine zW ?hg (N := 1) ?hd (cs := #[.int .i64 a0_0, .int .i64 a0_1]) (t := 31) ?hr ?_; (case hd => rfl); (case hg => rfl); (case hr => first | (go_simp; done) | (go_simp; rfl)); intro gb195 hg w6 hbox hb; have n0_ := zA (zP apA hb); have n1_ := zA (hbox); have n2_ := zA ((by rw [hg]; exact (zQ apA) : w.heap.size ≤ gb195)); have n3_ := zA ((by rw [hg]; exact (zQ apA) : w.heap.size ≤ gb195)); clear HB; have HB := n0_; have BK195 := n1_; have GW195 := n2_; have GE195 := n3_; clear n0_ n1_ n2_ n3_; clear hb hbox hg; obtain ⟨hcz7_0, hcz7_1, hfz7_0, hfz7_1⟩ := zb2 BK195.out) | (go_at_call 47; (with_reducible refine (spec_l1Neg.calls a0_0 a0_1 t196 t197 _ A3.out).mono ?_); rintro e w8 ⟨rfl, hb⟩; have n0_ := zA (zP apA hb); clear HB; have HB := n0_; clear n0_; (try clear hb); (try clear hb2); (try clear hk); (try clear hi)) | (go_at_call 35; (with_reducible refine (ih k (by omega) t196 t197 t198 _ A4.out).mono ?_); rintro e w9 ⟨rfl, hb⟩; have n0_ := zA (zP apA hb); clear HB; have HB := n0_; clear n0_; (try clear hb); (try clear hb2); (try clear hk); (try clear hi))); try go_wp2_with (first | ((with_reducible refine zS (N := 1) rfl ?_); refine zW ?hg (N := 1) ?hd (cs := #[.int .i64 a0_0, .int .i64 a0_1]) (t := 31) ?hr ?_; (case hd => rfl); (case hg => rfl); (case hr => first | (go_simp; done) | (go_simp; rfl)); intro gb195 hg w6 hbox hb; have n0_ := zA (zP apA hb); have n1_ := zA (hbox); have n2_ := zA ((by rw [hg]; exact (zQ apA) : w.heap.size ≤ gb195)); have n3_ := zA ((by rw [hg]; exact (zQ apA) : w.heap.size ≤ gb195)); clear HB; have HB := n0_; have BK195 := n1_; have GW195 := n2_; have GE195 := n3_; clear n0_ n1_ n2_ n3_; clear hb hbox hg; obtain ⟨hcz7_0, hcz7_1, hfz7_0, hfz7_1⟩ := zb2 BK195.out) | (go_at_call 47; (with_reducible refine (spec_l1Neg.calls a0_0 a0_1 t196 t197 _ A3.out).mono ?_); rintro e w8 ⟨rfl, hb⟩; have n0_ := zA (zP apA hb); clear HB; have HB := n0_; clear n0_; (try clear hb); (try clear hb2); (try clear hk); (try clear hi)) | (go_at_call 35; (with_reducible refine (ih k (by omega) t196 t197 t198 _ A4.out).mono ?_); rintro e w9 ⟨rfl, hb⟩; have n0_ := zA (zP apA hb); clear HB; have HB := n0_; clear n0_; (try clear hb); (try clear hb2); (try clear hk); (try clear hi))))
   go_ret
   exact ⟨apD, apA⟩
  ·rw [if_neg c5] at H
   exact absurd H (by simp)
 ·rw [if_neg c2] at H
  have c2b0 : decide (a0_0 < 0) = false := decide_eq_false c2
  clear c2
  replace H := Option.bind_eq_some_iff.mp H
  obtain ⟨t199, A100, H⟩ := H
  have A10 := zA A100
  clear A100
  by_cases c11 : a0_1 ≥ 0
  ·rw [if_pos c11] at H
   have c11b0 : decide (0 ≤ a0_1) = true := yE c11
   clear c11
   replace H := Option.bind_eq_some_iff.mp H
   obtain ⟨t200, A120, H⟩ := H
   have A12 := zA A120
   clear A120
   by_cases c13 : t199.size + t200.size ≤ 9223372036854775807
   ·rw [if_pos c13] at H
    have c13b0 := eq_true c13
    have c13b1 : decide (t199.size + t200.size ≤ 9223372036854775807) = true := yE c13
    try have c13b2 : (9223372036854775807 < t199.size + t200.size) = False := eq_false (Nat.not_lt.2 c13)
    obtain rfl := yG H
    go_enter Tryd.func35, Tryd.ntmps35
    go_wp2_with (first | ((with_reducible refine zS (N := 1) rfl ?_); refine zW ?hg (N := 1) ?hd (cs := #[.int .i64 a0_0, .int .i64 a0_1]) (t := 31) ?hr ?_; (case hd => rfl); (case hg => rfl); (case hr => first | (go_simp; done) | (go_simp; rfl)); intro gb195 hg w14 hbox hb; have n0_ := zA (zP apA hb); have n1_ := zA (hbox); have n2_ := zA ((by rw [hg]; exact (zQ apA) : w.heap.size ≤ gb195)); have n3_ := zA ((by rw [hg]; exact (zQ apA) : w.heap.size ≤ gb195)); clear HB; have HB := n0_; have BK195 := n1_; have GW195 := n2_; have GE195 := n3_; clear n0_ n1_ n2_ n3_; clear hb hbox hg; obtain ⟨hcz15_0, hcz15_1, hfz15_0, hfz15_1⟩ := zb2 BK195.out) | (go_at_call 48; (with_reducible refine (spec_l1Dec.calls k a0_0 t199 _ A10.out).mono ?_); rintro e w16 ⟨rfl, hb⟩; have n0_ := zA (zN (g := gb195) (o := .cells #[.int .i64 a0_0, .int .i64 a0_1] 31 (0, 0)) (by (with_reducible repeat (first | refine zB ?_ _ | refine zD ?_ | refine zC ?_ _)); exact BK195.out) hb); have n1_ := zA (zP (by repeat (first | (with_reducible first | exact HB.out | apply zG | apply zE | apply zF | refine zH ?_ GE195.out) | exact HB.out)) hb); clear BK195; clear HB; have BK195 := n0_; have HB := n1_; clear n0_ n1_; (try clear hb); (try clear hb2); (try clear hk); (try clear hi); obtain ⟨hcz17_0, hcz17_1, hfz17_0, hfz17_1⟩ := zb2 BK195.out) | (go_at_call 49; (with_reducible refine (spec_l1Many.calls k (⟨#[48]⟩ : ByteArray) a0_1 t200 _ A12.out).mono ?_); rintro e w' ⟨rfl, ⟨nd, rfl⟩⟩; (try first | exact ⟨rfl, _, World.drewN_drewN _ _ _⟩ | exact ⟨rfl, _, Eq.trans (World.drewN_drewN _ _ _) (congrArg (World.drewN _) (Nat.add_assoc _ _ _))⟩)))
    repeat (go_quiet (first | ((with_reducible refine zS (N := 1) rfl ?_); refine zW ?hg (N := 1) ?hd (cs := #[.int .i64 a0_0, .int .i64 a0_1]) (t := 31) ?hr ?_; (case hd => rfl); (case hg => rfl); (case hr => first | (go_simp; done) | (go_simp; rfl)); intro gb195 hg w14 hbox hb; have n0_ := zA (zP apA hb); have n1_ := zA (hbox); have n2_ := zA ((by rw [hg]; exact (zQ apA) : w.heap.size ≤ gb195)); have n3_ := zA ((by rw [hg]; exact (zQ apA) : w.heap.size ≤ gb195)); clear HB; have HB := n0_; have BK195 := n1_; have GW195 := n2_; have GE195 := n3_; clear n0_ n1_ n2_ n3_; clear hb hbox hg; obtain ⟨hcz15_0, hcz15_1, hfz15_0, hfz15_1⟩ := zb2 BK195.out) | (go_at_call 48; (with_reducible refine (spec_l1Dec.calls k a0_0 t199 _ A10.out).mono ?_); rintro e w16 ⟨rfl, hb⟩; have n0_ := zA (zN (g := gb195) (o := .cells #[.int .i64 a0_0, .int .i64 a0_1] 31 (0, 0)) (by (with_reducible repeat (first | refine zB ?_ _ | refine zD ?_ | refine zC ?_ _)); exact BK195.out) hb); have n1_ := zA (zP (by repeat (first | (with_reducible first | exact HB.out | apply zG | apply zE | apply zF | refine zH ?_ GE195.out) | exact HB.out)) hb); clear BK195; clear HB; have BK195 := n0_; have HB := n1_; clear n0_ n1_; (try clear hb); (try clear hb2); (try clear hk); (try clear hi); obtain ⟨hcz17_0, hcz17_1, hfz17_0, hfz17_1⟩ := zb2 BK195.out) | (go_at_call 49; (with_reducible refine (spec_l1Many.calls k (⟨#[48]⟩ : ByteArray) a0_1 t200 _ A12.out).mono ?_); rintro e w' ⟨rfl, ⟨nd, rfl⟩⟩; (try first | exact ⟨rfl, _, World.drewN_drewN _ _ _⟩ | exact ⟨rfl, _, Eq.trans (World.drewN_drewN _ _ _) (congrArg (World.drewN _) (Nat.add_assoc _ _ _))⟩))); try go_wp2_with (first | ((with_reducible refine zS (N := 1) rfl ?_); refine zW ?hg (N := 1) ?hd (cs := #[.int .i64 a0_0, .int .i64 a0_1]) (t := 31) ?hr ?_; (case hd => rfl); (case hg => rfl); (case hr => first | (go_simp; done) | (go_simp; rfl)); intro gb195 hg w14 hbox hb; have n0_ := zA (zP apA hb); have n1_ := zA (hbox); have n2_ := zA ((by rw [hg]; exact (zQ apA) : w.heap.size ≤ gb195)); have n3_ := zA ((by rw [hg]; exact (zQ apA) : w.heap.size ≤ gb195)); clear HB; have HB := n0_; have BK195 := n1_; have GW195 := n2_; have GE195 := n3_; clear n0_ n1_ n2_ n3_; clear hb hbox hg; obtain ⟨hcz15_0, hcz15_1, hfz15_0, hfz15_1⟩ := zb2 BK195.out) | (go_at_call 48; (with_reducible refine (spec_l1Dec.calls k a0_0 t199 _ A10.out).mono ?_); rintro e w16 ⟨rfl, hb⟩; have n0_ := zA (zN (g := gb195) (o := .cells #[.int .i64 a0_0, .int .i64 a0_1] 31 (0, 0)) (by (with_reducible repeat (first | refine zB ?_ _ | refine zD ?_ | refine zC ?_ _)); exact BK195.out) hb); have n1_ := zA (zP (by repeat (first | (with_reducible first | exact HB.out | apply zG | apply zE | apply zF | refine zH ?_ GE195.out) | exact HB.out)) hb); clear BK195; clear HB; have BK195 := n0_; have HB := n1_; clear n0_ n1_; (try clear hb); (try clear hb2); (try clear hk); (try clear hi); obtain ⟨hcz17_0, hcz17_1, hfz17_0, hfz17_1⟩ := zb2 BK195.out) | (go_at_call 49; (with_reducible refine (spec_l1Many.calls k (⟨#[48]⟩ : ByteArray) a0_1 t200 _ A12.out).mono ?_); rintro e w' ⟨rfl, ⟨nd, rfl⟩⟩; (try first | exact ⟨rfl, _, World.drewN_drewN _ _ _⟩ | exact ⟨rfl, _, Eq.trans (World.drewN_drewN _ _ _) (congrArg (World.drewN _) (Nat.add_assoc _ _ _))⟩))))
    go_ret
    exact ⟨apD, apA⟩
   ·rw [if_neg c13] at H
    exact absurd H (by simp)
  ·rw [if_neg c11] at H
   have c11b0 : decide (0 ≤ a0_1) = false := decide_eq_false c11
   clear c11
   have H' := zA H
   clear H
   go_enter Tryd.func35, Tryd.ntmps35
   go_wp2_with (first | ((with_reducible refine zS (N := 1) rfl ?_); refine zW ?hg (N := 1) ?hd (cs := #[.int .i64 a0_0, .int .i64 a0_1]) (t := 31) ?hr ?_; (case hd => rfl); (case hg => rfl); (case hr => first | (go_simp; done) | (go_simp; rfl)); intro gb195 hg w18 hbox hb; have n0_ := zA (zP apA hb); have n1_ := zA (hbox); have n2_ := zA ((by rw [hg]; exact (zQ apA) : w.heap.size ≤ gb195)); have n3_ := zA ((by rw [hg]; exact (zQ apA) : w.heap.size ≤ gb195)); clear HB; have HB := n0_; have BK195 := n1_; have GW195 := n2_; have GE195 := n3_; clear n0_ n1_ n2_ n3_; clear hb hbox hg; obtain ⟨hcz19_0, hcz19_1, hfz19_0, hfz19_1⟩ := zb2 BK195.out) | (go_at_call 48; (with_reducible refine (spec_l1Dec.calls k a0_0 t199 _ A10.out).mono ?_); rintro e w20 ⟨rfl, hb⟩; have n0_ := zA (zN (g := gb195) (o := .cells #[.int .i64 a0_0, .int .i64 a0_1] 31 (0, 0)) (by (with_reducible repeat (first | refine zB ?_ _ | refine zD ?_ | refine zC ?_ _)); exact BK195.out) hb); have n1_ := zA (zP (by repeat (first | (with_reducible first | exact HB.out | apply zG | apply zE | apply zF | refine zH ?_ GE195.out) | exact HB.out)) hb); clear BK195; clear HB; have BK195 := n0_; have HB := n1_; clear n0_ n1_; (try clear hb); (try clear hb2); (try clear hk); (try clear hi); obtain ⟨hcz21_0, hcz21_1, hfz21_0, hfz21_1⟩ := zb2 BK195.out))
   repeat (go_quiet (first | ((with_reducible refine zS (N := 1) rfl ?_); refine zW ?hg (N := 1) ?hd (cs := #[.int .i64 a0_0, .int .i64 a0_1]) (t := 31) ?hr ?_; (case hd => rfl); (case hg => rfl); (case hr => first | (go_simp; done) | (go_simp; rfl)); intro gb195 hg w18 hbox hb; have n0_ := zA (zP apA hb); have n1_ := zA (hbox); have n2_ := zA ((by rw [hg]; exact (zQ apA) : w.heap.size ≤ gb195)); have n3_ := zA ((by rw [hg]; exact (zQ apA) : w.heap.size ≤ gb195)); clear HB; have HB := n0_; have BK195 := n1_; have GW195 := n2_; have GE195 := n3_; clear n0_ n1_ n2_ n3_; clear hb hbox hg; obtain ⟨hcz19_0, hcz19_1, hfz19_0, hfz19_1⟩ := zb2 BK195.out) | (go_at_call 48; (with_reducible refine (spec_l1Dec.calls k a0_0 t199 _ A10.out).mono ?_); rintro e w20 ⟨rfl, hb⟩; have n0_ := zA (zN (g := gb195) (o := .cells #[.int .i64 a0_0, .int .i64 a0_1] 31 (0, 0)) (by (with_reducible repeat (first | refine zB ?_ _ | refine zD ?_ | refine zC ?_ _)); exact BK195.out) hb); have n1_ := zA (zP (by repeat (first | (with_reducible first | exact HB.out | apply zG | apply zE | apply zF | refine zH ?_ GE195.out) | exact HB.out)) hb); clear BK195; clear HB; have BK195 := n0_; have HB := n1_; clear n0_ n1_; (try clear hb); (try clear hb2); (try clear hk); (try clear hi); obtain ⟨hcz21_0, hcz21_1, hfz21_0, hfz21_1⟩ := zb2 BK195.out)); try go_wp2_with (first | ((with_reducible refine zS (N := 1) rfl ?_); refine zW ?hg (N := 1) ?hd (cs := #[.int .i64 a0_0, .int .i64 a0_1]) (t := 31) ?hr ?_; (case hd => rfl); (case hg => rfl); (case hr => first | (go_simp; done) | (go_simp; rfl)); intro gb195 hg w18 hbox hb; have n0_ := zA (zP apA hb); have n1_ := zA (hbox); have n2_ := zA ((by rw [hg]; exact (zQ apA) : w.heap.size ≤ gb195)); have n3_ := zA ((by rw [hg]; exact (zQ apA) : w.heap.size ≤ gb195)); clear HB; have HB := n0_; have BK195 := n1_; have GW195 := n2_; have GE195 := n3_; clear n0_ n1_ n2_ n3_; clear hb hbox hg; obtain ⟨hcz19_0, hcz19_1, hfz19_0, hfz19_1⟩ := zb2 BK195.out) | (go_at_call 48; (with_reducible refine (spec_l1Dec.calls k a0_0 t199 _ A10.out).mono ?_); rintro e w20 ⟨rfl, hb⟩; have n0_ := zA (zN (g := gb195) (o := .cells #[.int .i64 a0_0, .int .i64 a0_1] 31 (0, 0)) (by (with_reducible repeat (first | refine zB ?_ _ | refine zD ?_ | refine zC ?_ _)); exact BK195.out) hb); have n1_ := zA (zP (by repeat (first | (with_reducible first | exact HB.out | apply zG | apply zE | apply zF | refine zH ?_ GE195.out) | exact HB.out)) hb); clear BK195; clear HB; have BK195 := n0_; have HB := n1_; clear n0_ n1_; (try clear hb); (try clear hb2); (try clear hk); (try clear hi); obtain ⟨hcz21_0, hcz21_1, hfz21_0, hfz21_1⟩ := zb2 BK195.out)))
   go_loopg [3] k (fun kq v3 w' => ∃ (x3_1 : ByteArray), v3 = .string x3_1 ∧ Aside0 (spec_l1Text.l0 kq x3_1 a0_0 a0_1 = some r) ∧ Aside0 (kq ≤ k) ∧ Aside0 (w'.heap[gb195]? = some (.cells #[.int .i64 a0_0, .int .i64 a0_1] 31 (0, 0))) ∧ Aside0 (Below w.heap.size w w'))
   case atStart => exact ⟨(t199), apC, H', ⟨yJ _⟩, ⟨by (with_reducible repeat (first | refine zB ?_ _ | refine zD ?_ | refine zC ?_ _)); exact BK195.out⟩, ⟨by repeat (first | (with_reducible first | exact HB.out | apply zG | apply zE | apply zF | refine zH ?_ GE195.out) | exact HB.out)⟩⟩
   case round =>
    clear H'
    try clear c1 c2 c2b0 p2 c3 c5 c5b0 c5b1 c5b2 c11 c11b0 c13 c13b0 c13b1 c13b2 hcz15_0 hcz15_1 hcz17_0 hcz17_1 hcz19_0 hcz19_1 hcz21_0 hcz21_1 hcz7_0 hcz7_1 hfz15_0 hfz15_1 hfz17_0 hfz17_1 hfz19_0 hfz19_1 hfz21_0 hfz21_1 hfz7_0 hfz7_1
    obtain ⟨x3_1, rfl, HA, HK1, BK195, HB⟩ := hrel
    cases gk with
    | zero => exact absurd HA.out (by simp [spec_l1Text.l0])
    | succ k1 =>
     have H := HA.out
     clear HA
     simp only [spec_l1Text.l0] at H
     by_cases c22 : (x3_1.size : Int) ≤ (wrap64 (-a0_1))
     ·rw [if_pos c22] at H
      have c22b0 : decide ((x3_1.size : Int) ≤ (wrap64 (-a0_1))) = true := yE c22
      clear c22
      by_cases c23 : 1 + x3_1.size ≤ 9223372036854775807
      ·rw [if_pos c23] at H
       have c23b0 := eq_true c23
       have c23b1 : decide (1 + x3_1.size ≤ 9223372036854775807) = true := yE c23
       try have c23b2 : (9223372036854775807 < 1 + x3_1.size) = False := eq_false (Nat.not_lt.2 c23)
       have H' := zA H
       clear H
       obtain ⟨hcz24_0, hcz24_1, hfz24_0, hfz24_1⟩ := zb2 BK195.out
       go_wp2
       repeat (go_quiet (fail); try go_wp2)
       go_roundg k1
       case measure => have := HK1.out; omega
       case rel => exact ⟨((⟨#[48]⟩ : ByteArray) ++ x3_1), apC, H', ⟨by have := HK1.out; omega⟩, ⟨by (with_reducible repeat (first | refine zB ?_ _ | refine zD ?_ | refine zC ?_ _)); exact BK195.out⟩, ⟨by repeat (first | (with_reducible first | exact HB.out | apply zG | apply zE | apply zF | refine zH ?_ GE195.out) | exact HB.out)⟩⟩
      ·rw [if_neg c23] at H
       exact absurd H (by simp)
     ·rw [if_neg c22] at H
      have c22b0 : decide ((x3_1.size : Int) ≤ (wrap64 (-a0_1))) = false := decide_eq_false c22
      clear c22
      obtain ⟨ji25, hji25⟩ : ∃ j_ : Int, (wrap64 ((x3_1.size : Int) + a0_1)) = j_ := ⟨_, rfl⟩
      replace H : (if 0 ≤ (ji25) then (if (ji25) ≤ (x3_1.size : Int) then (if (x3_1.extract 0 ((ji25) : Int).toNat).size + 1 ≤ 9223372036854775807 then (if ((x3_1.extract 0 ((ji25) : Int).toNat) ++ (⟨#[46]⟩ : ByteArray)).size + (x3_1.extract ((ji25) : Int).toNat x3_1.size).size ≤ 9223372036854775807 then (some (((x3_1.extract 0 ((ji25) : Int).toNat) ++ (⟨#[46]⟩ : ByteArray)) ++ (x3_1.extract ((ji25) : Int).toNat x3_1.size))) else (none)) else (none)) else (none)) else (none)) = some r := by first | (rw [hji25] at H; exact H) | (simp only [hji25] at H ⊢; exact H)
      have hji25w : (IntKind.i64.wrap ((x3_1.size : Int) + a0_1)) = ji25 := (i64_w _).trans hji25
      by_cases c26 : 0 ≤ (ji25)
      ·rw [if_pos c26] at H
       have c26b0 := eq_true c26
       have c26b1 : decide (0 ≤ (ji25)) = true := yE c26
       clear c26
       by_cases c27 : (ji25) ≤ (x3_1.size : Int)
       ·rw [if_pos c27] at H
        have c27b0 := eq_true c27
        have c27b1 : decide ((ji25) ≤ (x3_1.size : Int)) = true := yE c27
        clear c27
        by_cases c28 : (x3_1.extract 0 ((ji25) : Int).toNat).size + 1 ≤ 9223372036854775807
        ·rw [if_pos c28] at H
         have c28b0 := eq_true c28
         have c28b1 : decide ((x3_1.extract 0 ((ji25) : Int).toNat).size + 1 ≤ 9223372036854775807) = true := yE c28
         try have c28b2 : (9223372036854775807 < (x3_1.extract 0 ((ji25) : Int).toNat).size + 1) = False := eq_false (Nat.not_lt.2 c28)
         have c29b0 := eq_true (yF apB : 0 ≤ (ji25))
         have c30b0 := eq_true (yF apB : (ji25) ≤ (x3_1.size : Int))
         by_cases c31 : ((x3_1.extract 0 ((ji25) : Int).toNat) ++ (⟨#[46]⟩ : ByteArray)).size + (x3_1.extract ((ji25) : Int).toNat x3_1.size).size ≤ 9223372036854775807
         ·rw [if_pos c31] at H
          (try (have c31b9 := eq_true c31; simp only [ByteArray.size_append, Int.natCast_add, show ((⟨#[46]⟩ : ByteArray)).size = 1 from rfl] at c31b9))
          (try (have c31b8 := eq_false (Nat.not_lt.2 c31); simp only [ByteArray.size_append, show ((⟨#[46]⟩ : ByteArray)).size = 1 from rfl] at c31b8))
          have c31b0 := eq_true c31
          have c31b1 : decide (((x3_1.extract 0 ((ji25) : Int).toNat) ++ (⟨#[46]⟩ : ByteArray)).size + (x3_1.extract ((ji25) : Int).toNat x3_1.size).size ≤ 9223372036854775807) = true := yE c31
          try have c31b2 : (9223372036854775807 < ((x3_1.extract 0 ((ji25) : Int).toNat) ++ (⟨#[46]⟩ : ByteArray)).size + (x3_1.extract ((ji25) : Int).toNat x3_1.size).size) = False := eq_false (Nat.not_lt.2 c31)
          try simp only [ByteArray.size_append] at c31b2
          obtain rfl := yG H
          obtain ⟨hcz32_0, hcz32_1, hfz32_0, hfz32_1⟩ := zb2 BK195.out
          go_wp2
          repeat (go_quiet (fail); try go_wp2)
          go_ret
          exact ⟨by first | rfl | (simp [errW_none, errW_some] <;> rfl) | (simp only [← hji25]; first | rfl | (simp [errW_none, errW_some] <;> rfl)) | (simp [*, errW_none, errW_some] <;> rfl), by repeat (first | (with_reducible first | exact HB.out | apply zG | apply zE | apply zF | refine zH ?_ GE195.out) | exact HB.out)⟩
         ·rw [if_neg c31] at H
          exact absurd H (by simp)
        ·rw [if_neg c28] at H
         exact absurd H (by simp)
       ·rw [if_neg c27] at H
        exact absurd H (by simp)
      ·rw [if_neg c26] at H
       exact absurd H (by simp)

end Go.Proofs.YtmdpjfmkhnjilaaDoor.Q

namespace Go.Proofs.YtmdpjfmkhnjilaaDoor.Q
open Go.RowKit Go.Proofs.YtmdpjfmkhnjilaaDoorW.PrintWords Go.Proofs.YtmdpjfmkhnjilaaDoorW.PrintLast Go.Proofs.YtmdpjfmkhnjilaaDoorW.PrintMore Go.Proofs.YtmdpjfmkhnjilaaDoorX
attribute [local go_sem] max2_int min2_int max_two min_two max_three min_three max_four min_four   -- for this text's walks alone
set_option linter.unusedVariables false
set_option linter.unusedSimpArgs false

def impl_size.f (a0 : Int) : Option (Int) := some (mx a0 (wrap64 (-a0)))
set_option maxHeartbeats 8000000 in
set_option maxRecDepth 100000 in
theorem impl_size.calls (a0 : Int) (r : Int) (w : World) (h : impl_size.f a0 = some r) :
  Calls Tryd.prog 56 #[.int .i64 a0] w fun e w' => e = .returned (.int .i64 r) ∧ Below w.heap.size w w' := by
 have HB := zA (yH w.heap.size w)
 have H : (some (mx a0 (wrap64 (-a0)))) = some r := h
 clear h
 obtain ⟨ji2, hji2⟩ : ∃ j_ : Int, (mx a0 (wrap64 (-a0))) = j_ := ⟨_, rfl⟩
 replace H : (some ji2) = some r := by first | (rw [hji2] at H; exact H) | (simp only [hji2] at H ⊢; exact H)
 have hji2_ : (if a0 < (wrap64 (-a0)) then (wrap64 (-a0)) else a0) = ji2 := hji2
 obtain rfl := yG H
 go_enter Tryd.func56, Tryd.ntmps56
 go_wp2
 go_ret
 exact ⟨by first | rfl | (simp [errW_none, errW_some] <;> rfl) | (simp only [← hji2]; first | rfl | (simp [errW_none, errW_some] <;> rfl)) | (simp [*, errW_none, errW_some] <;> rfl), apA⟩


def strings_Repeat.f (a0 : ByteArray) (a1 : Int) : Option (ByteArray) := if 0 ≤ a1 ∧ a1 ≤ 9223372036854775807 ∧ a0.size * a1.toNat ≤ 140737488355328 then some (⟨(Lib.repeatL a0.data.toList a1.toNat).toArray⟩) else none
theorem strings_Repeat.calls (a0 : ByteArray) (a1 : Int) (r : ByteArray) (w : World) (h : strings_Repeat.f a0 a1 = some r) :
  Calls Tryd.prog 57 #[.string a0, .int .i64 a1] w fun e w' => e = .returned (.string r) ∧ Below w.heap.size w w' := by
 unfold strings_Repeat.f at h
 split at h
 ·rename_i hh
  have h2 := yG h
  subst h2
  obtain ⟨c, rfl⟩ := Int.eq_ofNat_of_zero_le hh.1
  simp only [Int.toNat_natCast] at hh ⊢
  refine (Tryd.strings_Repeat a0 c w (by omega) hh.2.2).mono ?_
  rintro e w' ⟨rfl, hb⟩
  exact ⟨rfl, hb⟩
 ·cases h

end Go.Proofs.YtmdpjfmkhnjilaaDoor.Q

namespace Go.Proofs.YtmdpjfmkhnjilaaDoor.Q
open Go.RowKit Go.Proofs.YtmdpjfmkhnjilaaDoorW.PrintWords Go.Proofs.YtmdpjfmkhnjilaaDoorW.PrintLast Go.Proofs.YtmdpjfmkhnjilaaDoorW.PrintMore Go.Proofs.YtmdpjfmkhnjilaaDoorX
attribute [local go_sem] max2_int min2_int max_two min_two max_three min_three max_four min_four   -- for this text's walks alone
set_option linter.unusedVariables false
set_option linter.unusedSimpArgs false

attribute [-simp] ByteArray.size_extract
def impl_DecText.j0 : Nat → ByteArray → ByteArray → Int → Int → Option (ByteArray)
 | 0, _, _, _, _ => none
 | k + 1, x3, x4, x283000, x283001 => if x283001 ≥ 0 then (if x4.size + x3.size ≤ 9223372036854775807 then ((strings_Repeat.f (⟨#[48]⟩ : ByteArray) x283001).bind fun t286 => (if (x4 ++ x3).size + t286.size ≤ 9223372036854775807 then (some ((x4 ++ x3) ++ t286)) else (none))) else (none)) else (if (wrap64 ((wrap64 (-x283001)) - (x3.size : Int))) ≥ 0 then ((strings_Repeat.f (⟨#[48]⟩ : ByteArray) (wrap64 ((wrap64 ((wrap64 (-x283001)) - (x3.size : Int))) + 1))).bind fun t287 => (if t287.size + x3.size ≤ 9223372036854775807 then (if 0 ≤ (wrap64 (((t287 ++ x3).size : Int) + x283001)) then (if (wrap64 (((t287 ++ x3).size : Int) + x283001)) ≤ ((t287 ++ x3).size : Int) then (if x4.size + ((t287 ++ x3).extract 0 ((wrap64 (((t287 ++ x3).size : Int) + x283001)) : Int).toNat).size ≤ 9223372036854775807 then (if (x4 ++ ((t287 ++ x3).extract 0 ((wrap64 (((t287 ++ x3).size : Int) + x283001)) : Int).toNat)).size + 1 ≤ 9223372036854775807 then (if ((x4 ++ ((t287 ++ x3).extract 0 ((wrap64 (((t287 ++ x3).size : Int) + x283001)) : Int).toNat)) ++ (⟨#[46]⟩ : ByteArray)).size + ((t287 ++ x3).extract ((wrap64 (((t287 ++ x3).size : Int) + x283001)) : Int).toNat (t287 ++ x3).size).size ≤ 9223372036854775807 then (some (((x4 ++ ((t287 ++ x3).extract 0 ((wrap64 (((t287 ++ x3).size : Int) + x283001)) : Int).toNat)) ++ (⟨#[46]⟩ : ByteArray)) ++ ((t287 ++ x3).extract ((wrap64 (((t287 ++ x3).size : Int) + x283001)) : Int).toNat (t287 ++ x3).size))) else (none)) else (none)) else (none)) else (none)) else (none)) else (none))) else (if 0 ≤ (wrap64 ((x3.size : Int) + x283001)) then (if (wrap64 ((x3.size : Int) + x283001)) ≤ (x3.size : Int) then (if x4.size + (x3.extract 0 ((wrap64 ((x3.size : Int) + x283001)) : Int).toNat).size ≤ 9223372036854775807 then (if (x4 ++ (x3.extract 0 ((wrap64 ((x3.size : Int) + x283001)) : Int).toNat)).size + 1 ≤ 9223372036854775807 then (if ((x4 ++ (x3.extract 0 ((wrap64 ((x3.size : Int) + x283001)) : Int).toNat)) ++ (⟨#[46]⟩ : ByteArray)).size + (x3.extract ((wrap64 ((x3.size : Int) + x283001)) : Int).toNat x3.size).size ≤ 9223372036854775807 then (some (((x4 ++ (x3.extract 0 ((wrap64 ((x3.size : Int) + x283001)) : Int).toNat)) ++ (⟨#[46]⟩ : ByteArray)) ++ (x3.extract ((wrap64 ((x3.size : Int) + x283001)) : Int).toNat x3.size))) else (none)) else (none)) else (none)) else (none)) else (none)))
def impl_DecText.f (k : Nat) (a0_0 : Int) (a0_1 : Int) (l1 : List Int) : Option (ByteArray) := (impl_DecOk.f a0_0 a0_1).bind fun t283 => (if t283 = true then ((impl_size.f a0_0).bind fun t284 => ((strconv_Itoa.f t284 l1).bind fun t285 => (if a0_0 < 0 then (impl_DecText.j0 k t285 (⟨#[45]⟩ : ByteArray) a0_0 a0_1) else (impl_DecText.j0 k t285 (⟨#[]⟩ : ByteArray) a0_0 a0_1)))) else (some (⟨#[]⟩ : ByteArray)))
theorem impl_DecText.mono_l : ∀ k, (∀ y0 y1 y2 y3, LeO (impl_DecText.j0 k y0 y1 y2 y3) (impl_DecText.j0 (k + 1) y0 y1 y2 y3))
 | 0 => fun _ _ _ _ r h => by simp [impl_DecText.j0] at h
 | k + 1 => by
  have ih0 := impl_DecText.mono_l k
  ·intro y0 y1 y2 y3
   unfold impl_DecText.j0
   repeat' first
   | (with_reducible exact ih0 _ _ _ _)
   | (with_reducible exact LeO.refl _)
   | (with_reducible exact LeO.none _)
   | (with_reducible refine LeO.ite ?_ ?_)
   | (with_reducible refine LeO.bind ?_ (fun _ => ?_))
   | exact ih0 _ _ _ _
theorem impl_DecText.mono : ∀ a0 a1 a2 k, LeO (impl_DecText.f k a0 a1 a2) (impl_DecText.f (k + 1) a0 a1 a2) := by
 intro a0 a1 a2 k
 have ih0 := impl_DecText.mono_l k
 unfold impl_DecText.f
 repeat' first
   | (with_reducible exact ih0 _ _ _ _)
   | (with_reducible exact LeO.refl _)
   | (with_reducible exact LeO.none _)
   | (with_reducible refine LeO.ite ?_ ?_)
   | (with_reducible refine LeO.bind ?_ (fun _ => ?_))
   | exact ih0 _ _ _ _
set_option maxHeartbeats 8000000 in
set_option maxRecDepth 100000 in
theorem impl_DecText.calls (k : Nat) (a0_0 : Int) (a0_1 : Int) (A1 : Option Addr) (c1 : Nat) (l1 : List Int) (r : ByteArray) (w : World) (hr1 : Kd.C kPow w A1 l1.length l1) (hc1 : l1.length ≤ c1) (hg1 : A1 = some ⟨2, 0, none⟩ ∧ l1 = [1]) (h : impl_DecText.f k a0_0 a0_1 l1 = some r) :
  Calls Tryd.prog 42 #[.agg #[.int .i64 a0_0, .int .i64 a0_1]] w fun e w' => e = .returned (.string r) ∧ Below w.heap.size w w' := by
 have hu31 := Tryd.underlying31
 have HG1 := zA hg1
 clear hg1
 have HR1 := zA hr1
 have HC1 := zA hc1
 clear hr1 hc1
 have HB := zA (yH w.heap.size w)
 have H : ((impl_DecOk.f a0_0 a0_1).bind fun t283 => (if t283 = true then ((impl_size.f a0_0).bind fun t284 => ((strconv_Itoa.f t284 l1).bind fun t285 => (if a0_0 < 0 then (impl_DecText.j0 k t285 (⟨#[45]⟩ : ByteArray) a0_0 a0_1) else (impl_DecText.j0 k t285 (⟨#[]⟩ : ByteArray) a0_0 a0_1)))) else (some (⟨#[]⟩ : ByteArray)))) = some r := h
 clear h
 replace H := Option.bind_eq_some_iff.mp H
 obtain ⟨t283, A30, H⟩ := H
 have A3 := zA A30
 clear A30
 by_cases c4 : t283 = true
 ·subst c4
  have H1 := H; rw [if_pos rfl] at H1
  clear H
  have H := H1
  clear H1
  replace H := Option.bind_eq_some_iff.mp H
  obtain ⟨t284, A50, H⟩ := H
  have A5 := zA A50
  clear A50
  replace H := Option.bind_eq_some_iff.mp H
  obtain ⟨t285, A60, H⟩ := H
  have A6 := zA A60
  clear A60
  have HC7 := zA H
  clear H
  go_enter Tryd.func42, Tryd.ntmps42
  go_upto_if 16 with (first | ((with_reducible refine zS (N := 1) rfl ?_); refine zW ?hg (N := 1) ?hd (cs := #[.int .i64 a0_0, .int .i64 a0_1]) (t := 31) ?hr ?_; (case hd => rfl); (case hg => rfl); (case hr => first | (go_simp; done) | (go_simp; rfl)); intro gb282 hg w8 hbox hb; have n0_ := zA (zP apA hb); have n1_ := zA (hbox); have n2_ := zA ((by rw [hg]; exact (zQ apA) : w.heap.size ≤ gb282)); have n3_ := zA ((by rw [hg]; exact (zQ apA) : w.heap.size ≤ gb282)); clear HB; have HB := n0_; have BK282 := n1_; have GW282 := n2_; have GE282 := n3_; clear n0_ n1_ n2_ n3_; clear hb hbox hg; obtain ⟨hcz9_0, hcz9_1, hfz9_0, hfz9_1⟩ := zb2 BK282.out) | (go_at_call 37; (with_reducible refine (impl_DecOk.calls a0_0 a0_1 true _ A3.out).mono ?_); rintro e w10 ⟨rfl, hb⟩; have n0_ := zA (zN (g := gb282) (o := .cells #[.int .i64 a0_0, .int .i64 a0_1] 31 (0, 0)) apR hb); have n1_ := zA (zP apP hb); clear BK282; clear HB; have BK282 := n0_; have HB := n1_; clear n0_ n1_; (try clear hb); (try clear hb2); (try clear hk); (try clear hi); obtain ⟨hcz11_0, hcz11_1, hfz11_0, hfz11_1⟩ := zb2 BK282.out) | (go_at_call 56; (with_reducible refine (impl_size.calls a0_0 t284 _ A5.out).mono ?_); rintro e w12 ⟨rfl, hb⟩; have n0_ := zA (zN (g := gb282) (o := .cells #[.int .i64 a0_0, .int .i64 a0_1] 31 (0, 0)) apR hb); have n1_ := zA (zP apP hb); clear BK282; clear HB; have BK282 := n0_; have HB := n1_; clear n0_ n1_; (try clear hb); (try clear hb2); (try clear hk); (try clear hi)) | (go_at_call 55; (with_reducible refine (strconv_Itoa.calls t284 A1 c1 l1 t285 _ ?side1 ?side2 ?side3 A6.out).mono ?_); (case side1 => repeat (first | exact (Kd.C_below HR1.out HB.out) | (with_reducible refine Kd.C_alloc ?_ _) | (with_reducible refine Kd.C_drewN ?_ _) | (with_reducible refine Kd.C_drew ?_))); (case side2 => exact HC1.out); (case side3 => exact HG1.out); rintro e w13 ⟨rfl, hb⟩; have n0_ := zA (zN (g := gb282) (o := .cells #[.int .i64 a0_0, .int .i64 a0_1] 31 (0, 0)) apR hb); have n1_ := zA (zP apP hb); clear BK282; clear HB; have BK282 := n0_; have HB := n1_; clear n0_ n1_; (try clear hb); (try clear hb2); (try clear hk); (try clear hi); obtain ⟨hcz14_0, hcz14_1, hfz14_0, hfz14_1⟩ := zb2 BK282.out))
  repeat (go_quiet (first | ((with_reducible refine zS (N := 1) rfl ?_); refine zW ?hg (N := 1) ?hd (cs := #[.int .i64 a0_0, .int .i64 a0_1]) (t := 31) ?hr ?_; (case hd => rfl); (case hg => rfl); (case hr => first | (go_simp; done) | (go_simp; rfl)); intro gb282 hg w8 hbox hb; have n0_ := zA (zP apA hb); have n1_ := zA (hbox); have n2_ := zA ((by rw [hg]; exact (zQ apA) : w.heap.size ≤ gb282)); have n3_ := zA ((by rw [hg]; exact (zQ apA) : w.heap.size ≤ gb282)); clear HB; have HB := n0_; have BK282 := n1_; have GW282 := n2_; have GE282 := n3_; clear n0_ n1_ n2_ n3_; clear hb hbox hg; obtain ⟨hcz9_0, hcz9_1, hfz9_0, hfz9_1⟩ := zb2 BK282.out) | (go_at_call 37; (with_reducible refine (impl_DecOk.calls a0_0 a0_1 true _ A3.out).mono ?_); rintro e w10 ⟨rfl, hb⟩; have n0_ := zA (zN (g := gb282) (o := .cells #[.int .i64 a0_0, .int .i64 a0_1] 31 (0, 0)) apR hb); have n1_ := zA (zP apP hb); clear BK282; clear HB; have BK282 := n0_; have HB := n1_; clear n0_ n1_; (try clear hb); (try clear hb2); (try clear hk); (try clear hi); obtain ⟨hcz11_0, hcz11_1, hfz11_0, hfz11_1⟩ := zb2 BK282.out) | (go_at_call 56; (with_reducible refine (impl_size.calls a0_0 t284 _ A5.out).mono ?_); rintro e w12 ⟨rfl, hb⟩; have n0_ := zA (zN (g := gb282) (o := .cells #[.int .i64 a0_0, .int .i64 a0_1] 31 (0, 0)) apR hb); have n1_ := zA (zP apP hb); clear BK282; clear HB; have BK282 := n0_; have HB := n1_; clear n0_ n1_; (try clear hb); (try clear hb2); (try clear hk); (try clear hi)) | (go_at_call 55; (with_reducible refine (strconv_Itoa.calls t284 A1 c1 l1 t285 _ ?side1 ?side2 ?side3 A6.out).mono ?_); (case side1 => repeat (first | exact (Kd.C_below HR1.out HB.out) | (with_reducible refine Kd.C_alloc ?_ _) | (with_reducible refine Kd.C_drewN ?_ _) | (with_reducible refine Kd.C_drew ?_))); (case side2 => exact HC1.out); (case side3 => exact HG1.out); rintro e w13 ⟨rfl, hb⟩; have n0_ := zA (zN (g := gb282) (o := .cells #[.int .i64 a0_0, .int .i64 a0_1] 31 (0, 0)) apR hb); have n1_ := zA (zP apP hb); clear BK282; clear HB; have BK282 := n0_; have HB := n1_; clear n0_ n1_; (try clear hb); (try clear hb2); (try clear hk); (try clear hi); obtain ⟨hcz14_0, hcz14_1, hfz14_0, hfz14_1⟩ := zb2 BK282.out)); go_upto_if 16 with (first | ((with_reducible refine zS (N := 1) rfl ?_); refine zW ?hg (N := 1) ?hd (cs := #[.int .i64 a0_0, .int .i64 a0_1]) (t := 31) ?hr ?_; (case hd => rfl); (case hg => rfl); (case hr => first | (go_simp; done) | (go_simp; rfl)); intro gb282 hg w8 hbox hb; have n0_ := zA (zP apA hb); have n1_ := zA (hbox); have n2_ := zA ((by rw [hg]; exact (zQ apA) : w.heap.size ≤ gb282)); have n3_ := zA ((by rw [hg]; exact (zQ apA) : w.heap.size ≤ gb282)); clear HB; have HB := n0_; have BK282 := n1_; have GW282 := n2_; have GE282 := n3_; clear n0_ n1_ n2_ n3_; clear hb hbox hg; obtain ⟨hcz9_0, hcz9_1, hfz9_0, hfz9_1⟩ := zb2 BK282.out) | (go_at_call 37; (with_reducible refine (impl_DecOk.calls a0_0 a0_1 true _ A3.out).mono ?_); rintro e w10 ⟨rfl, hb⟩; have n0_ := zA (zN (g := gb282) (o := .cells #[.int .i64 a0_0, .int .i64 a0_1] 31 (0, 0)) apR hb); have n1_ := zA (zP apP hb); clear BK282; clear HB; have BK282 := n0_; have HB := n1_; clear n0_ n1_; (try clear hb); (try clear hb2); (try clear hk); (try clear hi); obtain ⟨hcz11_0, hcz11_1, hfz11_0, hfz11_1⟩ := zb2 BK282.out) | (go_at_call 56; (with_reducible refine (impl_size.calls a0_0 t284 _ A5.out).mono ?_); rintro e w12 ⟨rfl, hb⟩; have n0_ := zA (zN (g := gb282) (o := .cells #[.int .i64 a0_0, .int .i64 a0_1] 31 (0, 0)) apR hb); have n1_ := zA (zP apP hb); clear BK282; clear HB; have BK282 := n0_; have HB := n1_; clear n0_ n1_; (try clear hb); (try clear hb2); (try clear hk); (try clear hi)) | (go_at_call 55; (with_reducible refine (strconv_Itoa.calls t284 A1 c1 l1 t285 _ ?side1 ?side2 ?side3 A6.out).mono ?_); (case side1 => repeat (first | exact (Kd.C_below HR1.out HB.out) | (with_reducible refine Kd.C_alloc ?_ _) | (with_reducible refine Kd.C_drewN ?_ _) | (with_reducible refine Kd.C_drew ?_))); (case side2 => exact HC1.out); (case side3 => exact HG1.out); rintro e w13 ⟨rfl, hb⟩; have n0_ := zA (zN (g := gb282) (o := .cells #[.int .i64 a0_0, .int .i64 a0_1] 31 (0, 0)) apR hb); have n1_ := zA (zP apP hb); clear BK282; clear HB; have BK282 := n0_; have HB := n1_; clear n0_ n1_; (try clear hb); (try clear hb2); (try clear hk); (try clear hi); obtain ⟨hcz14_0, hcz14_1, hfz14_0, hfz14_1⟩ := zb2 BK282.out)))
  (try simp only [Act.put, zK, zL, zM])
  go_cut [4] (fun v4 wc => ∃ (kq : Nat) (x4_6 : ByteArray), v4 = .string x4_6 ∧ Aside0 (impl_DecText.j0 kq t285 x4_6 a0_0 a0_1 = some r) ∧ Aside0 (kq ≤ k) ∧ Aside0 (wc.heap[gb282]? = some (.cells #[.int .i64 a0_0, .int .i64 a0_1] 31 (0, 0))) ∧ Aside0 (Below w.heap.size w wc))
  case first =>
   have H := HC7.out
   clear HC7
   by_cases c15 : a0_0 < 0
   ·rw [if_pos c15] at H
    have c15b0 : decide (a0_0 < 0) = true := yE c15
    clear c15
    (first | rw [c15b0] | (simp only [i64_w, i32_w]; rw [c15b0]) | skip)
    have H' := zA H
    clear H
    go_wp2
    repeat (go_quiet (fail); try go_wp2)
    go_meet
    case rel => exact ⟨_, ((⟨#[45]⟩ : ByteArray)), apC, H', ⟨by first | omega | exact yJ _⟩, ⟨apR⟩, ⟨apP⟩⟩
   ·rw [if_neg c15] at H
    have c15b0 : decide (a0_0 < 0) = false := decide_eq_false c15
    clear c15
    (first | rw [c15b0] | (simp only [i64_w, i32_w]; rw [c15b0]) | skip)
    have H' := zA H
    clear H
    go_wp2
    repeat (go_quiet (fail); try go_wp2)
    go_meet
    case rel => exact ⟨_, ((⟨#[]⟩ : ByteArray)), apC, H', ⟨by first | omega | exact yJ _⟩, ⟨apR⟩, ⟨apP⟩⟩
  case rest =>
   clear HC7
   try clear c1 p2 c4 c15 c15b0 hcz11_0 hcz11_1 hcz14_0 hcz14_1 hcz9_0 hcz9_1 hfz11_0 hfz11_1 hfz14_0 hfz14_1 hfz9_0 hfz9_1
   obtain ⟨kq, x4_6, rfl, HA, HJ6, BK282, HB⟩ := hcut
   cases kq with
   | zero => exact absurd HA.out (by simp [impl_DecText.j0])
   | succ kj6 =>
    have H := HA.out
    clear HA
    simp only [impl_DecText.j0] at H
    by_cases c16 : a0_1 ≥ 0
    ·rw [if_pos c16] at H
     have c16b0 : decide (0 ≤ a0_1) = true := yE c16
     clear c16
     by_cases c17 : x4_6.size + t285.size ≤ 9223372036854775807
     ·rw [if_pos c17] at H
      have c17b0 := eq_true c17
      have c17b1 : decide (x4_6.size + t285.size ≤ 9223372036854775807) = true := yE c17
      try have c17b2 : (9223372036854775807 < x4_6.size + t285.size) = False := eq_false (Nat.not_lt.2 c17)
      replace H := Option.bind_eq_some_iff.mp H
      obtain ⟨t286, A180, H⟩ := H
      have A18 := zA A180
      clear A180
      by_cases c19 : (x4_6 ++ t285).size + t286.size ≤ 9223372036854775807
      ·rw [if_pos c19] at H
       have c19b0 := eq_true c19
       have c19b1 : decide ((x4_6 ++ t285).size + t286.size ≤ 9223372036854775807) = true := yE c19
       try have c19b2 : (9223372036854775807 < (x4_6 ++ t285).size + t286.size) = False := eq_false (Nat.not_lt.2 c19)
       try simp only [ByteArray.size_append] at c19b2
       obtain rfl := yG H
       obtain ⟨hcz20_0, hcz20_1, hfz20_0, hfz20_1⟩ := zb2 BK282.out
       go_wp2_with (first | (go_at_call 57; (with_reducible refine (strings_Repeat.calls (⟨#[48]⟩ : ByteArray) a0_1 t286 _ A18.out).mono ?_); rintro e w21 ⟨rfl, hb⟩; have n0_ := zA (zP apA hb); clear HB; have HB := n0_; clear n0_; (try clear hb); (try clear hb2); (try clear hk); (try clear hi)))
       repeat (go_quiet (first | (go_at_call 57; (with_reducible refine (strings_Repeat.calls (⟨#[48]⟩ : ByteArray) a0_1 t286 _ A18.out).mono ?_); rintro e w21 ⟨rfl, hb⟩; have n0_ := zA (zP apA hb); clear HB; have HB := n0_; clear n0_; (try clear hb); (try clear hb2); (try clear hk); (try clear hi))); try go_wp2_with (first | (go_at_call 57; (with_reducible refine (strings_Repeat.calls (⟨#[48]⟩ : ByteArray) a0_1 t286 _ A18.out).mono ?_); rintro e w21 ⟨rfl, hb⟩; have n0_ := zA (zP apA hb); clear HB; have HB := n0_; clear n0_; (try clear hb); (try clear hb2); (try clear hk); (try clear hi))))
       go_ret
       exact ⟨apD, apA⟩
      ·rw [if_neg c19] at H
       exact absurd H (by simp)
     ·rw [if_neg c17] at H
      exact absurd H (by simp)
    ·rw [if_neg c16] at H
     have c16b0 : decide (0 ≤ a0_1) = false := decide_eq_false c16
     clear c16
     by_cases c22 : (wrap64 ((wrap64 (-a0_1)) - (t285.size : Int))) ≥ 0
     ·rw [if_pos c22] at H
      have c22b0 : decide (0 ≤ (wrap64 ((wrap64 (-a0_1)) - (t285.size : Int)))) = true := yE c22
      clear c22
      replace H := Option.bind_eq_some_iff.mp H
      obtain ⟨t287, A230, H⟩ := H
      have A23 := zA A230
      clear A230
      by_cases c24 : t287.size + t285.size ≤ 9223372036854775807
      ·rw [if_pos c24] at H
       have c24b0 := eq_true c24
       have c24b1 : decide (t287.size + t285.size ≤ 9223372036854775807) = true := yE c24
       try have c24b2 : (9223372036854775807 < t287.size + t285.size) = False := eq_false (Nat.not_lt.2 c24)
       obtain ⟨ji25, hji25⟩ : ∃ j_ : Int, (wrap64 (((t287 ++ t285).size : Int) + a0_1)) = j_ := ⟨_, rfl⟩
       replace H : (if 0 ≤ (ji25) then (if (ji25) ≤ ((t287 ++ t285).size : Int) then (if x4_6.size + ((t287 ++ t285).extract 0 ((ji25) : Int).toNat).size ≤ 9223372036854775807 then (if (x4_6 ++ ((t287 ++ t285).extract 0 ((ji25) : Int).toNat)).size + 1 ≤ 9223372036854775807 then (if ((x4_6 ++ ((t287 ++ t285).extract 0 ((ji25) : Int).toNat)) ++ (⟨#[46]⟩ : ByteArray)).size + ((t287 ++ t285).extract ((ji25) : Int).toNat (t287 ++ t285).size).size ≤ 9223372036854775807 then (some (((x4_6 ++ ((t287 ++ t285).extract 0 ((ji25) : Int).toNat)) ++ (⟨#[46]⟩ : ByteArray)) ++ ((t287 ++ t285).extract ((ji25) : Int).toNat (t287 ++ t285).size))) else (none)) else (none)) else (none)) else (none)) else (none)) = some r := by first | (rw [hji25] at H; exact H) | (simp only [hji25] at H ⊢; exact H)
       (try rw [hji25] at A23)
       (try (have hji25a := hji25; simp only [ByteArray.size_append, Int.natCast_add] at hji25a))
       have hji25w : (IntKind.i64.wrap (((t287 ++ t285).size : Int) + a0_1)) = ji25 := (i64_w _).trans hji25
       by_cases c26 : 0 ≤ (ji25)
       ·rw [if_pos c26] at H
        have c26b0 := eq_true c26
        have c26b1 : decide (0 ≤ (ji25)) = true := yE c26
        clear c26
        by_cases c27 : (ji25) ≤ ((t287 ++ t285).size : Int)
        ·rw [if_pos c27] at H
         (try (have c27b9 := eq_true c27; simp only [ByteArray.size_append, Int.natCast_add] at c27b9))
         have c27b0 := eq_true c27
         have c27b1 : decide ((ji25) ≤ ((t287 ++ t285).size : Int)) = true := yE c27
         by_cases c28 : x4_6.size + ((t287 ++ t285).extract 0 ((ji25) : Int).toNat).size ≤ 9223372036854775807
         ·rw [if_pos c28] at H
          (try (have c28b9 := eq_true c28; simp only [ByteArray.size_append, Int.natCast_add] at c28b9))
          have c28b0 := eq_true c28
          have c28b1 : decide (x4_6.size + ((t287 ++ t285).extract 0 ((ji25) : Int).toNat).size ≤ 9223372036854775807) = true := yE c28
          try have c28b2 : (9223372036854775807 < x4_6.size + ((t287 ++ t285).extract 0 ((ji25) : Int).toNat).size) = False := eq_false (Nat.not_lt.2 c28)
          try simp only [ByteArray.size_append] at c28b2
          by_cases c29 : (x4_6 ++ ((t287 ++ t285).extract 0 ((ji25) : Int).toNat)).size + 1 ≤ 9223372036854775807
          ·rw [if_pos c29] at H
           (try (have c29b9 := eq_true c29; simp only [ByteArray.size_append, Int.natCast_add] at c29b9))
           have c29b0 := eq_true c29
           have c29b1 : decide ((x4_6 ++ ((t287 ++ t285).extract 0 ((ji25) : Int).toNat)).size + 1 ≤ 9223372036854775807) = true := yE c29
           try have c29b2 : (9223372036854775807 < (x4_6 ++ ((t287 ++ t285).extract 0 ((ji25) : Int).toNat)).size + 1) = False := eq_false (Nat.not_lt.2 c29)
           try simp only [ByteArray.size_append] at c29b2
           have c30b0 := eq_true (yF apB : 0 ≤ (ji25))
           have c31b0 := eq_true (yF apB : (ji25) ≤ ((t287 ++ t285).size : Int))
           (try (have c31b9 := c31b0; simp only [ByteArray.size_append, Int.natCast_add] at c31b9))
           by_cases c32 : ((x4_6 ++ ((t287 ++ t285).extract 0 ((ji25) : Int).toNat)) ++ (⟨#[46]⟩ : ByteArray)).size + ((t287 ++ t285).extract ((ji25) : Int).toNat (t287 ++ t285).size).size ≤ 9223372036854775807
           ·rw [if_pos c32] at H
            (try (have c32b9 := eq_true c32; simp only [ByteArray.size_append, Int.natCast_add, show ((⟨#[46]⟩ : ByteArray)).size = 1 from rfl] at c32b9))
            (try (have c32b8 := eq_false (Nat.not_lt.2 c32); simp only [ByteArray.size_append, show ((⟨#[46]⟩ : ByteArray)).size = 1 from rfl] at c32b8))
            have c32b0 := eq_true c32
            have c32b1 : decide (((x4_6 ++ ((t287 ++ t285).extract 0 ((ji25) : Int).toNat)) ++ (⟨#[46]⟩ : ByteArray)).size + ((t287 ++ t285).extract ((ji25) : Int).toNat (t287 ++ t285).size).size ≤ 9223372036854775807) = true := yE c32
            try have c32b2 : (9223372036854775807 < ((x4_6 ++ ((t287 ++ t285).extract 0 ((ji25) : Int).toNat)) ++ (⟨#[46]⟩ : ByteArray)).size + ((t287 ++ t285).extract ((ji25) : Int).toNat (t287 ++ t285).size).size) = False := eq_false (Nat.not_lt.2 c32)
            try simp only [ByteArray.size_append] at c32b2
            obtain rfl := yG H
            obtain ⟨hcz33_0, hcz33_1, hfz33_0, hfz33_1⟩ := zb2 BK282.out
            go_wp2_with (first | (go_at_call 57; (with_reducible refine (strings_Repeat.calls (⟨#[48]⟩ : ByteArray) (wrap64 ((wrap64 ((wrap64 (-a0_1)) - (t285.size : Int))) + 1)) t287 _ A23.out).mono ?_); rintro e w34 ⟨rfl, hb⟩; have n0_ := zA (zN (g := gb282) (o := .cells #[.int .i64 a0_0, .int .i64 a0_1] 31 (0, 0)) apR hb); have n1_ := zA (zP apP hb); clear BK282; clear HB; have BK282 := n0_; have HB := n1_; clear n0_ n1_; (try clear hb); (try clear hb2); (try clear hk); (try clear hi); obtain ⟨hcz35_0, hcz35_1, hfz35_0, hfz35_1⟩ := zb2 BK282.out))
            repeat (go_quiet (first | (go_at_call 57; (with_reducible refine (strings_Repeat.calls (⟨#[48]⟩ : ByteArray) (wrap64 ((wrap64 ((wrap64 (-a0_1)) - (t285.size : Int))) + 1)) t287 _ A23.out).mono ?_); rintro e w34 ⟨rfl, hb⟩; have n0_ := zA (zN (g := gb282) (o := .cells #[.int .i64 a0_0, .int .i64 a0_1] 31 (0, 0)) apR hb); have n1_ := zA (zP apP hb); clear BK282; clear HB; have BK282 := n0_; have HB := n1_; clear n0_ n1_; (try clear hb); (try clear hb2); (try clear hk); (try clear hi); obtain ⟨hcz35_0, hcz35_1, hfz35_0, hfz35_1⟩ := zb2 BK282.out)); try go_wp2_with (first | (go_at_call 57; (with_reducible refine (strings_Repeat.calls (⟨#[48]⟩ : ByteArray) (wrap64 ((wrap64 ((wrap64 (-a0_1)) - (t285.size : Int))) + 1)) t287 _ A23.out).mono ?_); rintro e w34 ⟨rfl, hb⟩; have n0_ := zA (zN (g := gb282) (o := .cells #[.int .i64 a0_0, .int .i64 a0_1] 31 (0, 0)) apR hb); have n1_ := zA (zP apP hb); clear BK282; clear HB; have BK282 := n0_; have HB := n1_; clear n0_ n1_; (try clear hb); (try clear hb2); (try clear hk); (try clear hi); obtain ⟨hcz35_0, hcz35_1, hfz35_0, hfz35_1⟩ := zb2 BK282.out)))
            go_ret
            exact ⟨by first | rfl | (simp [errW_none, errW_some] <;> rfl) | (simp only [← hji25]; first | rfl | (simp [errW_none, errW_some] <;> rfl)) | (simp [*, errW_none, errW_some] <;> rfl), apP⟩
           ·rw [if_neg c32] at H
            exact absurd H (by simp)
          ·rw [if_neg c29] at H
           exact absurd H (by simp)
         ·rw [if_neg c28] at H
          exact absurd H (by simp)
        ·rw [if_neg c27] at H
         exact absurd H (by simp)
       ·rw [if_neg c26] at H
        exact absurd H (by simp)
      ·rw [if_neg c24] at H
       exact absurd H (by simp)
     ·rw [if_neg c22] at H
      have c22b0 : decide (0 ≤ (wrap64 ((wrap64 (-a0_1)) - (t285.size : Int)))) = false := decide_eq_false c22
      clear c22
      obtain ⟨ji36, hji36⟩ : ∃ j_ : Int, (wrap64 ((t285.size : Int) + a0_1)) = j_ := ⟨_, rfl⟩
      replace H : (if 0 ≤ (ji36) then (if (ji36) ≤ (t285.size : Int) then (if x4_6.size + (t285.extract 0 ((ji36) : Int).toNat).size ≤ 9223372036854775807 then (if (x4_6 ++ (t285.extract 0 ((ji36) : Int).toNat)).size + 1 ≤ 9223372036854775807 then (if ((x4_6 ++ (t285.extract 0 ((ji36) : Int).toNat)) ++ (⟨#[46]⟩ : ByteArray)).size + (t285.extract ((ji36) : Int).toNat t285.size).size ≤ 9223372036854775807 then (some (((x4_6 ++ (t285.extract 0 ((ji36) : Int).toNat)) ++ (⟨#[46]⟩ : ByteArray)) ++ (t285.extract ((ji36) : Int).toNat t285.size))) else (none)) else (none)) else (none)) else (none)) else (none)) = some r := by first | (rw [hji36] at H; exact H) | (simp only [hji36] at H ⊢; exact H)
      have hji36w : (IntKind.i64.wrap ((t285.size : Int) + a0_1)) = ji36 := (i64_w _).trans hji36
      by_cases c37 : 0 ≤ (ji36)
      ·rw [if_pos c37] at H
       have c37b0 := eq_true c37
       have c37b1 : decide (0 ≤ (ji36)) = true := yE c37
       clear c37
       by_cases c38 : (ji36) ≤ (t285.size : Int)
       ·rw [if_pos c38] at H
        have c38b0 := eq_true c38
        have c38b1 : decide ((ji36) ≤ (t285.size : Int)) = true := yE c38
        clear c38
        by_cases c39 : x4_6.size + (t285.extract 0 ((ji36) : Int).toNat).size ≤ 9223372036854775807
        ·rw [if_pos c39] at H
         have c39b0 := eq_true c39
         have c39b1 : decide (x4_6.size + (t285.extract 0 ((ji36) : Int).toNat).size ≤ 9223372036854775807) = true := yE c39
         try have c39b2 : (9223372036854775807 < x4_6.size + (t285.extract 0 ((ji36) : Int).toNat).size) = False := eq_false (Nat.not_lt.2 c39)
         by_cases c40 : (x4_6 ++ (t285.extract 0 ((ji36) : Int).toNat)).size + 1 ≤ 9223372036854775807
         ·rw [if_pos c40] at H
          (try (have c40b9 := eq_true c40; simp only [ByteArray.size_append, Int.natCast_add] at c40b9))
          have c40b0 := eq_true c40
          have c40b1 : decide ((x4_6 ++ (t285.extract 0 ((ji36) : Int).toNat)).size + 1 ≤ 9223372036854775807) = true := yE c40
          try have c40b2 : (9223372036854775807 < (x4_6 ++ (t285.extract 0 ((ji36) : Int).toNat)).size + 1) = False := eq_false (Nat.not_lt.2 c40)
          try simp only [ByteArray.size_append] at c40b2
          have c41b0 := eq_true (yF apB : 0 ≤ (ji36))
          have c42b0 := eq_true (yF apB : (ji36) ≤ (t285.size : Int))
          by_cases c43 : ((x4_6 ++ (t285.extract 0 ((ji36) : Int).toNat)) ++ (⟨#[46]⟩ : ByteArray)).size + (t285.extract ((ji36) : Int).toNat t285.size).size ≤ 9223372036854775807
          ·rw [if_pos c43] at H
           (try (have c43b9 := eq_true c43; simp only [ByteArray.size_append, Int.natCast_add, show ((⟨#[46]⟩ : ByteArray)).size = 1 from rfl] at c43b9))
           (try (have c43b8 := eq_false (Nat.not_lt.2 c43); simp only [ByteArray.size_append, show ((⟨#[46]⟩ : ByteArray)).size = 1 from rfl] at c43b8))
           have c43b0 := eq_true c43
           have c43b1 : decide (((x4_6 ++ (t285.extract 0 ((ji36) : Int).toNat)) ++ (⟨#[46]⟩ : ByteArray)).size + (t285.extract ((ji36) : Int).toNat t285.size).size ≤ 9223372036854775807) = true := yE c43
           try have c43b2 : (9223372036854775807 < ((x4_6 ++ (t285.extract 0 ((ji36) : Int).toNat)) ++ (⟨#[46]⟩ : ByteArray)).size + (t285.extract ((ji36) : Int).toNat t285.size).size) = False := eq_false (Nat.not_lt.2 c43)
           try simp only [ByteArray.size_append] at c43b2
           obtain rfl := yG H
           obtain ⟨hcz44_0, hcz44_1, hfz44_0, hfz44_1⟩ := zb2 BK282.out
           go_wp2
           repeat (go_quiet (fail); try go_wp2)
           go_ret
           exact ⟨by first | rfl | (simp [errW_none, errW_some] <;> rfl) | (simp only [← hji36]; first | rfl | (simp [errW_none, errW_some] <;> rfl)) | (simp [*, errW_none, errW_some] <;> rfl), apP⟩
          ·rw [if_neg c43] at H
           exact absurd H (by simp)
         ·rw [if_neg c40] at H
          exact absurd H (by simp)
        ·rw [if_neg c39] at H
         exact absurd H (by simp)
       ·rw [if_neg c38] at H
        exact absurd H (by simp)
      ·rw [if_neg c37] at H
       exact absurd H (by simp)
 ·replace c4 := Bool.eq_false_iff.mpr c4
  subst c4
  have H1 := H; rw [if_neg (show ¬ (false = true) by decide)] at H1
  clear H
  have H := H1
  clear H1
  obtain rfl := yG H
  go_enter Tryd.func42, Tryd.ntmps42
  go_wp2_with (first | ((with_reducible refine zS (N := 1) rfl ?_); refine zW ?hg (N := 1) ?hd (cs := #[.int .i64 a0_0, .int .i64 a0_1]) (t := 31) ?hr ?_; (case hd => rfl); (case hg => rfl); (case hr => first | (go_simp; done) | (go_simp; rfl)); intro gb282 hg w45 hbox hb; have n0_ := zA (zP apA hb); have n1_ := zA (hbox); have n2_ := zA ((by rw [hg]; exact (zQ apA) : w.heap.size ≤ gb282)); have n3_ := zA ((by rw [hg]; exact (zQ apA) : w.heap.size ≤ gb282)); clear HB; have HB := n0_; have BK282 := n1_; have GW282 := n2_; have GE282 := n3_; clear n0_ n1_ n2_ n3_; clear hb hbox hg; obtain ⟨hcz46_0, hcz46_1, hfz46_0, hfz46_1⟩ := zb2 BK282.out) | (go_at_call 37; (with_reducible refine (impl_DecOk.calls a0_0 a0_1 false _ A3.out).mono ?_); rintro e w47 ⟨rfl, hb⟩; have n0_ := zA (zP apA hb); clear HB; have HB := n0_; clear n0_; (try clear hb); (try clear hb2); (try clear hk); (try clear hi)))
  repeat (go_quiet (first | ((with_reducible refine zS (N := 1) rfl ?_); refine zW ?hg (N := 1) ?hd (cs := #[.int .i64 a0_0, .int .i64 a0_1]) (t := 31) ?hr ?_; (case hd => rfl); (case hg => rfl); (case hr => first | (go_simp; done) | (go_simp; rfl)); intro gb282 hg w45 hbox hb; have n0_ := zA (zP apA hb); have n1_ := zA (hbox); have n2_ := zA ((by rw [hg]; exact (zQ apA) : w.heap.size ≤ gb282)); have n3_ := zA ((by rw [hg]; exact (zQ apA) : w.heap.size ≤ gb282)); clear HB; have HB := n0_; have BK282 := n1_; have GW282 := n2_; have GE282 := n3_; clear n0_ n1_ n2_ n3_; clear hb hbox hg; obtain ⟨hcz46_0, hcz46_1, hfz46_0, hfz46_1⟩ := zb2 BK282.out) | (go_at_call 37; (with_reducible refine (impl_DecOk.calls a0_0 a0_1 false _ A3.out).mono ?_); rintro e w47 ⟨rfl, hb⟩; have n0_ := zA (zP apA hb); clear HB; have HB := n0_; clear n0_; (try clear hb); (try clear hb2); (try clear hk); (try clear hi))); try go_wp2_with (first | ((with_reducible refine zS (N := 1) rfl ?_); refine zW ?hg (N := 1) ?hd (cs := #[.int .i64 a0_0, .int .i64 a0_1]) (t := 31) ?hr ?_; (case hd => rfl); (case hg => rfl); (case hr => first | (go_simp; done) | (go_simp; rfl)); intro gb282 hg w45 hbox hb; have n0_ := zA (zP apA hb); have n1_ := zA (hbox); have n2_ := zA ((by rw [hg]; exact (zQ apA) : w.heap.size ≤ gb282)); have n3_ := zA ((by rw [hg]; exact (zQ apA) : w.heap.size ≤ gb282)); clear HB; have HB := n0_; have BK282 := n1_; have GW282 := n2_; have GE282 := n3_; clear n0_ n1_ n2_ n3_; clear hb hbox hg; obtain ⟨hcz46_0, hcz46_1, hfz46_0, hfz46_1⟩ := zb2 BK282.out) | (go_at_call 37; (with_reducible refine (impl_DecOk.calls a0_0 a0_1 false _ A3.out).mono ?_); rintro e w47 ⟨rfl, hb⟩; have n0_ := zA (zP apA hb); clear HB; have HB := n0_; clear n0_; (try clear hb); (try clear hb2); (try clear hk); (try clear hi))))
  go_ret
  exact ⟨apD, apA⟩

end Go.Proofs.YtmdpjfmkhnjilaaDoor.Q

namespace Go.Proofs.YtmdpjfmkhnjilaaDoor.Q
open Go.RowKit Go.Proofs.YtmdpjfmkhnjilaaDoorW.PrintWords Go.Proofs.YtmdpjfmkhnjilaaDoorW.PrintLast Go.Proofs.YtmdpjfmkhnjilaaDoorW.PrintMore Go.Proofs.YtmdpjfmkhnjilaaDoorX
attribute [local go_sem] max2_int min2_int max_two min_two max_three min_three max_four min_four   -- for this text's walks alone
set_option linter.unusedVariables false
set_option linter.unusedSimpArgs false

def spec_l7Escape.j0 : Nat → Int → ByteArray → Bool → Option (ByteArray)
 | 0, _, _, _ => none
 | k + 1, x0, x3, x4 => if x4 = true then (some (strOfNums (([92, x0] : List Int)))) else (if x0 ≥ 32 then (if x0 < 127 then (some (strOfNums (([x0] : List Int)))) else (if 0 ≤ ((Int.tdiv x0 16) % 256) then (if ((Int.tdiv x0 16) % 256) < (x3.size : Int) then (if 0 ≤ (Int.tmod x0 16) then (if (Int.tmod x0 16) < (x3.size : Int) then ((some (([bt x3 ((Int.tdiv x0 16) % 256), bt x3 (Int.tmod x0 16)] : List Int) : List Int)).bind fun y207 => (if 4 + (strOfNums y207).size ≤ 9223372036854775807 then (some ((⟨#[92, 117, 48, 48]⟩ : ByteArray) ++ (strOfNums y207))) else (none))) else (none)) else (none)) else (none)) else (none))) else (if 0 ≤ ((Int.tdiv x0 16) % 256) then (if ((Int.tdiv x0 16) % 256) < (x3.size : Int) then (if 0 ≤ (Int.tmod x0 16) then (if (Int.tmod x0 16) < (x3.size : Int) then ((some (([bt x3 ((Int.tdiv x0 16) % 256), bt x3 (Int.tmod x0 16)] : List Int) : List Int)).bind fun y210 => (if 4 + (strOfNums y210).size ≤ 9223372036854775807 then (some ((⟨#[92, 117, 48, 48]⟩ : ByteArray) ++ (strOfNums y210))) else (none))) else (none)) else (none)) else (none)) else (none)))
def spec_l7Escape.f (k : Nat) (a0 : Int) : Option (ByteArray) := if a0 = 34 then (spec_l7Escape.j0 k a0 (⟨#[48, 49, 50, 51, 52, 53, 54, 55, 56, 57, 97, 98, 99, 100, 101, 102]⟩ : ByteArray) true) else (spec_l7Escape.j0 k a0 (⟨#[48, 49, 50, 51, 52, 53, 54, 55, 56, 57, 97, 98, 99, 100, 101, 102]⟩ : ByteArray) (a0 == 92))
theorem spec_l7Escape.mono_l : ∀ k, (∀ y0 y1 y2, LeO (spec_l7Escape.j0 k y0 y1 y2) (spec_l7Escape.j0 (k + 1) y0 y1 y2))
 | 0 => fun _ _ _ r h => by simp [spec_l7Escape.j0] at h
 | k + 1 => by
  have ih0 := spec_l7Escape.mono_l k
  ·intro y0 y1 y2
   unfold spec_l7Escape.j0
   repeat' first
   | (with_reducible exact ih0 _ _ _)
   | (with_reducible exact LeO.refl _)
   | (with_reducible exact LeO.none _)
   | (with_reducible refine LeO.ite ?_ ?_)
   | (with_reducible refine LeO.bind ?_ (fun _ => ?_))
   | exact ih0 _ _ _
theorem spec_l7Escape.mono : ∀ a0 k, LeO (spec_l7Escape.f k a0) (spec_l7Escape.f (k + 1) a0) := by
 intro a0 k
 have ih0 := spec_l7Escape.mono_l k
 unfold spec_l7Escape.f
 repeat' first
   | (with_reducible exact ih0 _ _ _)
   | (with_reducible exact LeO.refl _)
   | (with_reducible exact LeO.none _)
   | (with_reducible refine LeO.ite ?_ ?_)
   | (with_reducible refine LeO.bind ?_ (fun _ => ?_))
   | exact ih0 _ _ _
def spec_l7Escape.T6 : Bool × List (List Nat × List Nat) := (true, [([], []), ([], []), ([1], [1]), ([0, 2], [0, 2]), ([], []), ([], []), ([5], [5]), ([4, 6], [4, 6]), ([3, 7], [3, 7]), ([8], [8]), ([9], [9]), ([10, 0, 1, 2, 3, 4, 5, 6, 7, 8, 9, 10], [10])])
def spec_l7Escape.B6 : List Nat := [0, 0, 2, 7, 0, 0, 32, 112, 255, 511, 1023, 2047]
theorem spec_l7Escape.tab6 : rtab .any (opsOf Tryd.f50 6) = spec_l7Escape.T6 := by kernel_rfl
theorem spec_l7Escape.bits6 : waitsOk spec_l7Escape.T6.2 spec_l7Escape.B6 = true := by kernel_rfl
set_option maxHeartbeats 8000000 in
set_option maxRecDepth 100000 in
theorem spec_l7Escape.calls (k : Nat) (a0 : Int) (r : ByteArray) (w : World) (h : spec_l7Escape.f k a0 = some r) :
  Calls Tryd.prog 50 #[.int .u8 a0] w fun e w' => e = .returned (.string r) ∧ Below w.heap.size w w' := by
 have HB := zA (yH w.heap.size w)
 have H : (if a0 = 34 then (spec_l7Escape.j0 k a0 (⟨#[48, 49, 50, 51, 52, 53, 54, 55, 56, 57, 97, 98, 99, 100, 101, 102]⟩ : ByteArray) true) else (spec_l7Escape.j0 k a0 (⟨#[48, 49, 50, 51, 52, 53, 54, 55, 56, 57, 97, 98, 99, 100, 101, 102]⟩ : ByteArray) (a0 == 92))) = some r := h
 clear h
 have HC2 := zA H
 clear H
 go_enter Tryd.func50, Tryd.ntmps50
 go_upto_region 2 with (fail)
 go_cut [4] (fun v4 wc => ∃ (kq : Nat) (x4_1 : Bool), v4 = .bool x4_1 ∧ Aside0 (spec_l7Escape.j0 kq a0 (⟨#[48, 49, 50, 51, 52, 53, 54, 55, 56, 57, 97, 98, 99, 100, 101, 102]⟩ : ByteArray) x4_1 = some r) ∧ Aside0 (kq ≤ k) ∧ Aside0 (Below w.heap.size w wc))
 case first =>
  have H := HC2.out
  clear HC2
  by_cases c3 : a0 = 34
  ·rw [if_pos c3] at H
   have c3b0 : (a0 == 34) = true := beq_iff_eq.mpr c3
   have c3b1 : (a0 != 34) = false := bne_eq_false_iff_eq.mpr c3
   clear c3
   (first | rw [c3b0] | (simp only [i64_w, i32_w]; rw [c3b0]) | skip)
   have H' := zA H
   clear H
   go_wp2
   go_meet
   case rel => exact ⟨_, (true), apC, H', ⟨by first | omega | exact yJ _⟩, ⟨apA⟩⟩
  ·rw [if_neg c3] at H
   have c3b0 : (a0 == 34) = false := beq_eq_false_iff_ne.mpr c3
   have c3b1 : (a0 != 34) = true := bne_iff_ne.mpr c3
   (first | rw [c3b0] | (simp only [i64_w, i32_w]; rw [c3b0]) | skip)
   have H' := zA H
   clear H
   go_wp2
   go_meet
   case rel => exact ⟨_, ((a0 == 92)), apC, H', ⟨by first | omega | exact yJ _⟩, ⟨apA⟩⟩
 case rest =>
  clear HC2
  try clear p2 c3 c3b0 c3b1
  obtain ⟨kq, x4_1, rfl, HA, HJ1, HB⟩ := hcut
  cases kq with
  | zero => exact absurd HA.out (by simp [spec_l7Escape.j0])
  | succ kj1 =>
   have H := HA.out
   clear HA
   simp only [spec_l7Escape.j0] at H
   by_cases c4 : x4_1 = true
   ·subst c4
    have H1 := H; rw [if_pos rfl] at H1
    clear H
    have H := H1
    clear H1
    obtain ⟨y201, hy201⟩ : ∃ y_ : List Int, y_ = (([92, a0] : List Int)) := ⟨_, rfl⟩
    replace H : (some (strOfNums y201)) = some r := by first | (rw [hy201]; with_reducible exact H) | (have H2_ := (Option.bind_some _ _).symm.trans H; rw [hy201]; with_reducible exact H2_) | (have H2_ := (Option.bind_some _ _).symm.trans H; with_reducible exact H2_) | with_reducible exact H | (rw [hy201]; exact H) | exact H
    have Ny201 := zA hy201
    clear hy201
    obtain rfl := yG H
    go_wp2_with (first | ((with_reducible refine zS (N := 12) rfl ?_); refine Kd.R_lit (Kd.int .u8) _ 5 ?hg (N := 12) ?hd (xs := ([92, a0] : List Int)) (inner := [.int .u8 92, .int .u8 a0]) (ok := fun _ => True) (okp := fun _ => True) ?hr ?hp (fun _ hk => hk) trivial (yH _ _) (yJ _) (by simp) ?_; (case hd => rfl); (case hg => rfl); (case hr => first | (go_simp; done) | (go_simp; rfl)); (case hp => exact (Reps.one (show Kd.M (Kd.int .u8) _ _ _ 92 [.int .u8 92] from rfl) (Reps.one (show Kd.M (Kd.int .u8) _ _ _ a0 [.int .u8 a0] from rfl) (Reps.none _ _)))); intro v202 w5 ho6 hb hg_ hnew_; clear hg_ hnew_; (first | rw [← Ny201.out] at ho6 | (simp only [Int.reduceToNat] at ho6; rw [← Ny201.out] at ho6)); have n0_ := zA (Kd.R_lower ho6 (zQ apA)); have n1_ := zA (zP apA hb); clear HB; have HO203 := n0_; have HB := n1_; clear n0_ n1_; clear hb ho6; have hcv7 := own_string (P := Tryd.prog) Tryd.underlying68 Tryd.underlying5 Tryd.underlying9 (Kd.own_of_R HO203.out)))
    go_ret
    exact ⟨apD, apA⟩
   ·replace c4 := Bool.eq_false_iff.mpr c4
    subst c4
    have H1 := H; rw [if_neg (show ¬ (false = true) by decide)] at H1
    clear H
    have H := H1
    clear H1
    by_cases c8 : a0 ≥ 32
    ·rw [if_pos c8] at H
     have c8b0 : decide (32 ≤ a0) = true := yE c8
     clear c8
     by_cases c9 : a0 < 127
     ·rw [if_pos c9] at H
      have c9b0 : decide (a0 < 127) = true := yE c9
      clear c9
      obtain ⟨y204, hy204⟩ : ∃ y_ : List Int, y_ = (([a0] : List Int)) := ⟨_, rfl⟩
      replace H : (some (strOfNums y204)) = some r := by first | (rw [hy204]; with_reducible exact H) | (have H2_ := (Option.bind_some _ _).symm.trans H; rw [hy204]; with_reducible exact H2_) | (have H2_ := (Option.bind_some _ _).symm.trans H; with_reducible exact H2_) | with_reducible exact H | (rw [hy204]; exact H) | exact H
      have Ny204 := zA hy204
      clear hy204
      obtain rfl := yG H
      go_wp2_with (first | ((with_reducible refine zS (N := 22) rfl ?_); refine Kd.R_lit (Kd.int .u8) _ 5 ?hg (N := 22) ?hd (xs := ([a0] : List Int)) (inner := [.int .u8 a0]) (ok := fun _ => True) (okp := fun _ => True) ?hr ?hp (fun _ hk => hk) trivial (yH _ _) (yJ _) (by simp) ?_; (case hd => rfl); (case hg => rfl); (case hr => first | (go_simp; done) | (go_simp; rfl)); (case hp => exact (Reps.one (show Kd.M (Kd.int .u8) _ _ _ a0 [.int .u8 a0] from rfl) (Reps.none _ _))); intro v205 w10 ho11 hb hg_ hnew_; clear hg_ hnew_; (first | rw [← Ny204.out] at ho11 | (simp only [Int.reduceToNat] at ho11; rw [← Ny204.out] at ho11)); have n0_ := zA (Kd.R_lower ho11 (zQ apA)); have n1_ := zA (zP apA hb); clear HB; have HO206 := n0_; have HB := n1_; clear n0_ n1_; clear hb ho11; have hcv12 := own_string (P := Tryd.prog) Tryd.underlying68 Tryd.underlying5 Tryd.underlying9 (Kd.own_of_R HO206.out)))
      go_ret
      exact ⟨apD, apA⟩
     ·rw [if_neg c9] at H
      have c9b0 : decide (a0 < 127) = false := decide_eq_false c9
      clear c9
      obtain ⟨ji13, hji13⟩ : ∃ j_ : Int, ((Int.tdiv a0 16) % 256) = j_ := ⟨_, rfl⟩
      replace H : (if 0 ≤ (ji13) then (if (ji13) < ((⟨#[48, 49, 50, 51, 52, 53, 54, 55, 56, 57, 97, 98, 99, 100, 101, 102]⟩ : ByteArray).size : Int) then (if 0 ≤ (Int.tmod a0 16) then (if (Int.tmod a0 16) < ((⟨#[48, 49, 50, 51, 52, 53, 54, 55, 56, 57, 97, 98, 99, 100, 101, 102]⟩ : ByteArray).size : Int) then ((some (([bt (⟨#[48, 49, 50, 51, 52, 53, 54, 55, 56, 57, 97, 98, 99, 100, 101, 102]⟩ : ByteArray) (ji13), bt (⟨#[48, 49, 50, 51, 52, 53, 54, 55, 56, 57, 97, 98, 99, 100, 101, 102]⟩ : ByteArray) (Int.tmod a0 16)] : List Int) : List Int)).bind fun y207 => (if 4 + (strOfNums y207).size ≤ 9223372036854775807 then (some ((⟨#[92, 117, 48, 48]⟩ : ByteArray) ++ (strOfNums y207))) else (none))) else (none)) else (none)) else (none)) else (none)) = some r := by first | (rw [hji13] at H; exact H) | (simp only [hji13] at H ⊢; exact H)
      (try have hji13u : (IntKind.u8.wrap (Int.tdiv a0 16)) = ji13 := (IntKind.wrap_u8 _).trans hji13)
      by_cases c14 : 0 ≤ (ji13)
      ·rw [if_pos c14] at H
       have c14b0 : decide (0 ≤ (ji13)) = true := yE c14
       clear c14
       by_cases c15 : (ji13) < ((⟨#[48, 49, 50, 51, 52, 53, 54, 55, 56, 57, 97, 98, 99, 100, 101, 102]⟩ : ByteArray).size : Int)
       ·rw [if_pos c15] at H
        have c15b0 : decide ((ji13) < ((⟨#[48, 49, 50, 51, 52, 53, 54, 55, 56, 57, 97, 98, 99, 100, 101, 102]⟩ : ByteArray).size : Int)) = true := yE c15
        clear c15
        obtain ⟨ji17, hji17⟩ : ∃ j_ : Int, (Int.tmod a0 16) = j_ := ⟨_, rfl⟩
        replace H : (if 0 ≤ (ji17) then (if (ji17) < ((⟨#[48, 49, 50, 51, 52, 53, 54, 55, 56, 57, 97, 98, 99, 100, 101, 102]⟩ : ByteArray).size : Int) then ((some (([bt (⟨#[48, 49, 50, 51, 52, 53, 54, 55, 56, 57, 97, 98, 99, 100, 101, 102]⟩ : ByteArray) (ji13), bt (⟨#[48, 49, 50, 51, 52, 53, 54, 55, 56, 57, 97, 98, 99, 100, 101, 102]⟩ : ByteArray) (ji17)] : List Int) : List Int)).bind fun y207 => (if 4 + (strOfNums y207).size ≤ 9223372036854775807 then (some ((⟨#[92, 117, 48, 48]⟩ : ByteArray) ++ (strOfNums y207))) else (none))) else (none)) else (none)) = some r := by first | (rw [hji17] at H; exact H) | (simp only [hji17] at H ⊢; exact H)
        by_cases c18 : 0 ≤ (ji17)
        ·rw [if_pos c18] at H
         have c18b0 : decide (0 ≤ (ji17)) = true := yE c18
         clear c18
         by_cases c19 : (ji17) < ((⟨#[48, 49, 50, 51, 52, 53, 54, 55, 56, 57, 97, 98, 99, 100, 101, 102]⟩ : ByteArray).size : Int)
         ·rw [if_pos c19] at H
          have c19b0 : decide ((ji17) < ((⟨#[48, 49, 50, 51, 52, 53, 54, 55, 56, 57, 97, 98, 99, 100, 101, 102]⟩ : ByteArray).size : Int)) = true := yE c19
          clear c19
          obtain ⟨y207, hy207⟩ : ∃ y_ : List Int, y_ = (([bt (⟨#[48, 49, 50, 51, 52, 53, 54, 55, 56, 57, 97, 98, 99, 100, 101, 102]⟩ : ByteArray) (ji13), bt (⟨#[48, 49, 50, 51, 52, 53, 54, 55, 56, 57, 97, 98, 99, 100, 101, 102]⟩ : ByteArray) (ji17)] : List Int)) := ⟨_, rfl⟩
          replace H : (if 4 + (strOfNums y207).size ≤ 9223372036854775807 then (some ((⟨#[92, 117, 48, 48]⟩ : ByteArray) ++ (strOfNums y207))) else (none)) = some r := by first | (rw [hy207]; with_reducible exact H) | (have H2_ := (Option.bind_some _ _).symm.trans H; rw [hy207]; with_reducible exact H2_) | (have H2_ := (Option.bind_some _ _).symm.trans H; with_reducible exact H2_) | with_reducible exact H | (rw [hy207]; exact H) | exact H
          have Ny207 := zA hy207
          clear hy207
          by_cases c21 : 4 + (strOfNums y207).size ≤ 9223372036854775807
          ·rw [if_pos c21] at H
           have c21b0 := eq_true c21
           have c21b1 : decide (4 + (strOfNums y207).size ≤ 9223372036854775807) = true := yE c21
           try have c21b2 : (9223372036854775807 < 4 + (strOfNums y207).size) = False := eq_false (Nat.not_lt.2 c21)
           obtain rfl := yG H
           try go_wp2
           have n0_ := zA (zF HB.out)
           clear HB
           have HB := n0_
           clear n0_
           have p16 : 0 ≤ ((ji13) : Int) := yF apB
           have q16 : (ji13) < (16 : Int) := yF apB
           have hx16 := bt_at (⟨#[48, 49, 50, 51, 52, 53, 54, 55, 56, 57, 97, 98, 99, 100, 101, 102]⟩ : ByteArray) (ji13)
           replace p16 := eq_true p16
           replace q16 := eq_true q16
           have p20 : 0 ≤ ((ji17) : Int) := yF apB
           have q20 : (ji17) < (16 : Int) := yF apB
           have hx20 := bt_at (⟨#[48, 49, 50, 51, 52, 53, 54, 55, 56, 57, 97, 98, 99, 100, 101, 102]⟩ : ByteArray) (ji17)
           replace p20 := eq_true p20
           replace q20 := eq_true q20
           refine start_ (n := 12) (S := fun w' => True) (ds := []) #[false, false, false, false, false, false, false, false, false, false, false, false] (by kernel_rfl) rfl rfl trivial (fun hHeld => ?_); refine with_tabW spec_l7Escape.tab6 spec_l7Escape.bits6 (fun HT_ HW_ => ?_)
           generalize wc.drew = w22 at HB hHeld ⊢
           refine pure_ (i := 0) (N := some 24) (v := ?_) (a' := ?_) #[true, false, false, false, false, false, false, false, false, false, false, false] rfl rfl (any_of HT_.out (by kernel_rfl)) (fun _ _ _ h => h) (Or.inl ⟨by rfl, ?_⟩) ?_ ?_
           rotate_left
           ·intro w'
            go_simp
            with_reducible rfl
           rotate_left
           ·simp only [Act.put, zK, zL, zM, i64_w, i32_w]
            rfl
           refine pure_ (i := 1) (N := some 25) (v := ?_) (a' := ?_) #[true, true, false, false, false, false, false, false, false, false, false, false] rfl rfl (any_of HT_.out (by kernel_rfl)) (fun _ _ _ h => h) (Or.inl ⟨by rfl, ?_⟩) ?_ ?_
           rotate_left
           ·intro w'
            go_simp
            with_reducible rfl
           rotate_left
           ·simp only [Act.put, zK, zL, zM, i64_w, i32_w]
            rfl
           refine pure_ (i := 2) (N := some 26) (v := ?_) (a' := ?_) #[true, true, true, false, false, false, false, false, false, false, false, false] rfl rfl (any_of HT_.out (by kernel_rfl)) (fun _ _ _ h => h) (Or.inl ⟨by rfl, ?_⟩) ?_ ?_
           rotate_left
           ·intro w'
            go_simp
            with_reducible rfl
           rotate_left
           ·simp only [Act.put, zK, zL, zM, i64_w, i32_w]
            rfl
           refine pure_ (i := 4) (N := some 28) (v := ?_) (a' := ?_) #[true, true, true, false, true, false, false, false, false, false, false, false] rfl rfl (any_of HT_.out (by kernel_rfl)) (fun _ _ _ h => h) (Or.inl ⟨by rfl, ?_⟩) ?_ ?_
           rotate_left
           ·intro w'
            go_simp
            with_reducible rfl
           rotate_left
           ·simp only [Act.put, zK, zL, zM, i64_w, i32_w]
            rfl
           refine pure_ (i := 5) (N := some 29) (v := ?_) (a' := ?_) #[true, true, true, false, true, true, false, false, false, false, false, false] rfl rfl (any_of HT_.out (by kernel_rfl)) (fun _ _ _ h => h) (Or.inl ⟨by rfl, ?_⟩) ?_ ?_
           rotate_left
           ·intro w'
            go_simp
            with_reducible rfl
           rotate_left
           ·simp only [Act.put, zK, zL, zM, i64_w, i32_w]
            rfl
           refine pure_ (i := 6) (N := some 30) (v := ?_) (a' := ?_) #[true, true, true, false, true, true, true, false, false, false, false, false] rfl rfl (any_of HT_.out (by kernel_rfl)) (fun _ _ _ h => h) (Or.inl ⟨by rfl, ?_⟩) ?_ ?_
           rotate_left
           ·intro w'
            go_simp
            with_reducible rfl
           rotate_left
           ·simp only [Act.put, zK, zL, zM, i64_w, i32_w]
            rfl
           refine take_ (i := 3) (N := some 27) (v := ?_) (a' := ?_) #[true, true, true, true, true, true, true, false, false, false, false, false] rfl rfl (take_ofW HT_.out HW_.out (by kernel_rfl)) (fun _ _ _ h => h) (Or.inl ⟨by rfl, ?_⟩) hHeld ?_ ?_
           rotate_left
           ·intro w' _
            go_simp
            with_reducible rfl
           rotate_left
           ·simp only [Act.put, zK, zL, zM, i64_w, i32_w]
            rfl
           refine take_ (i := 7) (N := some 31) (v := ?_) (a' := ?_) #[true, true, true, true, true, true, true, true, false, false, false, false] rfl rfl (take_ofW HT_.out HW_.out (by kernel_rfl)) (fun _ _ _ h => h) (Or.inl ⟨by rfl, ?_⟩) hHeld ?_ ?_
           rotate_left
           ·intro w' _
            go_simp
            with_reducible rfl
           rotate_left
           ·simp only [Act.put, zK, zL, zM, i64_w, i32_w]
            rfl
           refine one_ (i := 8) (N := some 32) #[true, true, true, true, true, true, true, true, true, false, false, false] rfl rfl (one_of HT_.out (by kernel_rfl)) (by decide) (fun K hK => ?_)
           refine Kd.R_lit_step (Kd.int .u8) _ 5 ?hg (N := 32) ?hd (xs := ([bt (⟨#[48, 49, 50, 51, 52, 53, 54, 55, 56, 57, 97, 98, 99, 100, 101, 102]⟩ : ByteArray) (ji13), bt (⟨#[48, 49, 50, 51, 52, 53, 54, 55, 56, 57, 97, 98, 99, 100, 101, 102]⟩ : ByteArray) (ji17)] : List Int)) (inner := [.int .u8 (bt (⟨#[48, 49, 50, 51, 52, 53, 54, 55, 56, 57, 97, 98, 99, 100, 101, 102]⟩ : ByteArray) (ji13)), .int .u8 (bt (⟨#[48, 49, 50, 51, 52, 53, 54, 55, 56, 57, 97, 98, 99, 100, 101, 102]⟩ : ByteArray) (ji17))]) (ok := fun _ => True) (okp := fun _ => True) ?hr ?hp (fun _ hk => hk) trivial (yH _ _) (yJ _) (by simp) ?_; (case hd => rfl); (case hg => rfl); (case hr => first | (go_simp; done) | (go_simp; rfl)); (case hp => exact (Reps.one (show Kd.M (Kd.int .u8) _ _ _ (bt (⟨#[48, 49, 50, 51, 52, 53, 54, 55, 56, 57, 97, 98, 99, 100, 101, 102]⟩ : ByteArray) (ji13)) [.int .u8 (bt (⟨#[48, 49, 50, 51, 52, 53, 54, 55, 56, 57, 97, 98, 99, 100, 101, 102]⟩ : ByteArray) (ji13))] from rfl) (Reps.one (show Kd.M (Kd.int .u8) _ _ _ (bt (⟨#[48, 49, 50, 51, 52, 53, 54, 55, 56, 57, 97, 98, 99, 100, 101, 102]⟩ : ByteArray) (ji17)) [.int .u8 (bt (⟨#[48, 49, 50, 51, 52, 53, 54, 55, 56, 57, 97, 98, 99, 100, 101, 102]⟩ : ByteArray) (ji17))] from rfl) (Reps.none _ _))))
           intro v208 w23 ho24 hb hg_ hnew_
           clear hg_ hnew_
           (first | rw [← Ny207.out] at ho24 | (simp only [Int.reduceToNat] at ho24; rw [← Ny207.out] at ho24))
           have n0_ := zA (Kd.R_lower ho24 (zQ apA))
           have n1_ := zA (zP apA hb)
           clear HB
           have HO209 := n0_
           have HB := n1_
           clear n0_ n1_
           clear hb ho24
           refine hK.out _ _ trivial (fun hHeld => ?_)
           clear hK K
           refine norm_ (a' := ?_) ?_ ?_
           rotate_left
           ·show Act.put _ (some 32) _ = _
            simp only [Act.put, zK, zL, zM, i64_w, i32_w]
            rfl
           refine one_ (i := 9) (N := some 33) #[true, true, true, true, true, true, true, true, true, true, false, false] rfl rfl (one_of HT_.out (by kernel_rfl)) (by decide) (fun K hK => ?_)
           have hcv25 := own_string (P := Tryd.prog) Tryd.underlying68 Tryd.underlying5 Tryd.underlying9 (Kd.own_of_R HO209.out)
           refine value_ (w1 := ?_) (v := ?_) (by rfl) rfl ?_ ?_
           rotate_left 2
           ·go_simp
            constructor
            ·rfl
            ·rfl
           clear hcv25
           refine hK.out _ _ trivial (fun hHeld => ?_)
           clear hK K
           refine norm_ (a' := ?_) ?_ ?_
           rotate_left
           ·show Act.put _ (some 33) _ = _
            simp only [Act.put, zK, zL, zM, i64_w, i32_w]
            rfl
           refine pure_ (i := 10) (N := some 34) (v := ?_) (a' := ?_) #[true, true, true, true, true, true, true, true, true, true, true, false] rfl rfl (any_of HT_.out (by kernel_rfl)) (fun _ _ _ h => h) (Or.inl ⟨by rfl, ?_⟩) ?_ ?_
           rotate_left
           ·intro w'
            go_simp
            with_reducible rfl
           rotate_left
           ·simp only [Act.put, zK, zL, zM, i64_w, i32_w]
            rfl
           refine pure_ (i := 11) (N := some 2) (v := ?_) (a' := ?_) #[true, true, true, true, true, true, true, true, true, true, true, true] rfl rfl (any_of HT_.out (by kernel_rfl)) (fun _ _ _ h => h) (Or.inl ⟨by rfl, ?_⟩) ?_ ?_
           rotate_left
           ·intro w'
            go_simp
            with_reducible rfl
           rotate_left
           ·simp only [Act.put, zK, zL, zM, i64_w, i32_w]
            rfl
           refine done_ (done_of HT_.out (by kernel_rfl)) ?_
           try go_wp2
           go_ret
           exact ⟨by first | rfl | (simp [errW_none, errW_some] <;> rfl) | (simp only [← hji13, ← hji17]; first | rfl | (simp [errW_none, errW_some] <;> rfl)) | (simp [*, errW_none, errW_some] <;> rfl), apA⟩
          ·rw [if_neg c21] at H
           exact absurd H (by simp)
         ·rw [if_neg c19] at H
          exact absurd H (by simp)
        ·rw [if_neg c18] at H
         exact absurd H (by simp)
       ·rw [if_neg c15] at H
        exact absurd H (by simp)
      ·rw [if_neg c14] at H
       exact absurd H (by simp)
    ·rw [if_neg c8] at H
     have c8b0 : decide (32 ≤ a0) = false := decide_eq_false c8
     clear c8
     obtain ⟨ji26, hji26⟩ : ∃ j_ : Int, ((Int.tdiv a0 16) % 256) = j_ := ⟨_, rfl⟩
     replace H : (if 0 ≤ (ji26) then (if (ji26) < ((⟨#[48, 49, 50, 51, 52, 53, 54, 55, 56, 57, 97, 98, 99, 100, 101, 102]⟩ : ByteArray).size : Int) then (if 0 ≤ (Int.tmod a0 16) then (if (Int.tmod a0 16) < ((⟨#[48, 49, 50, 51, 52, 53, 54, 55, 56, 57, 97, 98, 99, 100, 101, 102]⟩ : ByteArray).size : Int) then ((some (([bt (⟨#[48, 49, 50, 51, 52, 53, 54, 55, 56, 57, 97, 98, 99, 100, 101, 102]⟩ : ByteArray) (ji26), bt (⟨#[48, 49, 50, 51, 52, 53, 54, 55, 56, 57, 97, 98, 99, 100, 101, 102]⟩ : ByteArray) (Int.tmod a0 16)] : List Int) : List Int)).bind fun y210 => (if 4 + (strOfNums y210).size ≤ 9223372036854775807 then (some ((⟨#[92, 117, 48, 48]⟩ : ByteArray) ++ (strOfNums y210))) else (none))) else (none)) else (none)) else (none)) else (none)) = some r := by first | (rw [hji26] at H; exact H) | (simp only [hji26] at H ⊢; exact H)
     (try have hji26u : (IntKind.u8.wrap (Int.tdiv a0 16)) = ji26 := (IntKind.wrap_u8 _).trans hji26)
     by_cases c27 : 0 ≤ (ji26)
     ·rw [if_pos c27] at H
      have c27b0 : decide (0 ≤ (ji26)) = true := yE c27
      clear c27
      by_cases c28 : (ji26) < ((⟨#[48, 49, 50, 51, 52, 53, 54, 55, 56, 57, 97, 98, 99, 100, 101, 102]⟩ : ByteArray).size : Int)
      ·rw [if_pos c28] at H
       have c28b0 : decide ((ji26) < ((⟨#[48, 49, 50, 51, 52, 53, 54, 55, 56, 57, 97, 98, 99, 100, 101, 102]⟩ : ByteArray).size : Int)) = true := yE c28
       clear c28
       obtain ⟨ji30, hji30⟩ : ∃ j_ : Int, (Int.tmod a0 16) = j_ := ⟨_, rfl⟩
       replace H : (if 0 ≤ (ji30) then (if (ji30) < ((⟨#[48, 49, 50, 51, 52, 53, 54, 55, 56, 57, 97, 98, 99, 100, 101, 102]⟩ : ByteArray).size : Int) then ((some (([bt (⟨#[48, 49, 50, 51, 52, 53, 54, 55, 56, 57, 97, 98, 99, 100, 101, 102]⟩ : ByteArray) (ji26), bt (⟨#[48, 49, 50, 51, 52, 53, 54, 55, 56, 57, 97, 98, 99, 100, 101, 102]⟩ : ByteArray) (ji30)] : List Int) : List Int)).bind fun y210 => (if 4 + (strOfNums y210).size ≤ 9223372036854775807 then (some ((⟨#[92, 117, 48, 48]⟩ : ByteArray) ++ (strOfNums y210))) else (none))) else (none)) else (none)) = some r := by first | (rw [hji30] at H; exact H) | (simp only [hji30] at H ⊢; exact H)
       by_cases c31 : 0 ≤ (ji30)
       ·rw [if_pos c31] at H
        have c31b0 : decide (0 ≤ (ji30)) = true := yE c31
        clear c31
        by_cases c32 : (ji30) < ((⟨#[48, 49, 50, 51, 52, 53, 54, 55, 56, 57, 97, 98, 99, 100, 101, 102]⟩ : ByteArray).size : Int)
        ·rw [if_pos c32] at H
         have c32b0 : decide ((ji30) < ((⟨#[48, 49, 50, 51, 52, 53, 54, 55, 56, 57, 97, 98, 99, 100, 101, 102]⟩ : ByteArray).size : Int)) = true := yE c32
         clear c32
         obtain ⟨y210, hy210⟩ : ∃ y_ : List Int, y_ = (([bt (⟨#[48, 49, 50, 51, 52, 53, 54, 55, 56, 57, 97, 98, 99, 100, 101, 102]⟩ : ByteArray) (ji26), bt (⟨#[48, 49, 50, 51, 52, 53, 54, 55, 56, 57, 97, 98, 99, 100, 101, 102]⟩ : ByteArray) (ji30)] : List Int)) := ⟨_, rfl⟩
         replace H : (if 4 + (strOfNums y210).size ≤ 9223372036854775807 then (some ((⟨#[92, 117, 48, 48]⟩ : ByteArray) ++ (strOfNums y210))) else (none)) = some r := by first | (rw [hy210]; with_reducible exact H) | (have H2_ := (Option.bind_some _ _).symm.trans H; rw [hy210]; with_reducible exact H2_) | (have H2_ := (Option.bind_some _ _).symm.trans H; with_reducible exact H2_) | with_reducible exact H | (rw [hy210]; exact H) | exact H
         have Ny210 := zA hy210
         clear hy210
         by_cases c34 : 4 + (strOfNums y210).size ≤ 9223372036854775807
         ·rw [if_pos c34] at H
          have c34b0 := eq_true c34
          have c34b1 : decide (4 + (strOfNums y210).size ≤ 9223372036854775807) = true := yE c34
          try have c34b2 : (9223372036854775807 < 4 + (strOfNums y210).size) = False := eq_false (Nat.not_lt.2 c34)
          obtain rfl := yG H
          try go_wp2
          have n0_ := zA (zF HB.out)
          clear HB
          have HB := n0_
          clear n0_
          have p29 : 0 ≤ ((ji26) : Int) := yF apB
          have q29 : (ji26) < (16 : Int) := yF apB
          have hx29 := bt_at (⟨#[48, 49, 50, 51, 52, 53, 54, 55, 56, 57, 97, 98, 99, 100, 101, 102]⟩ : ByteArray) (ji26)
          replace p29 := eq_true p29
          replace q29 := eq_true q29
          have p33 : 0 ≤ ((ji30) : Int) := yF apB
          have q33 : (ji30) < (16 : Int) := yF apB
          have hx33 := bt_at (⟨#[48, 49, 50, 51, 52, 53, 54, 55, 56, 57, 97, 98, 99, 100, 101, 102]⟩ : ByteArray) (ji30)
          replace p33 := eq_true p33
          replace q33 := eq_true q33
          refine start_ (n := 12) (S := fun w' => True) (ds := []) #[false, false, false, false, false, false, false, false, false, false, false, false] (by kernel_rfl) rfl rfl trivial (fun hHeld => ?_); refine with_tabW spec_l7Escape.tab6 spec_l7Escape.bits6 (fun HT_ HW_ => ?_)
          generalize wc.drew = w35 at HB hHeld ⊢
          refine pure_ (i := 0) (N := some 24) (v := ?_) (a' := ?_) #[true, false, false, false, false, false, false, false, false, false, false, false] rfl rfl (any_of HT_.out (by kernel_rfl)) (fun _ _ _ h => h) (Or.inl ⟨by rfl, ?_⟩) ?_ ?_
          rotate_left
          ·intro w'
           go_simp
           with_reducible rfl
          rotate_left
          ·simp only [Act.put, zK, zL, zM, i64_w, i32_w]
           rfl
          refine pure_ (i := 1) (N := some 25) (v := ?_) (a' := ?_) #[true, true, false, false, false, false, false, false, false, false, false, false] rfl rfl (any_of HT_.out (by kernel_rfl)) (fun _ _ _ h => h) (Or.inl ⟨by rfl, ?_⟩) ?_ ?_
          rotate_left
          ·intro w'
           go_simp
           with_reducible rfl
          rotate_left
          ·simp only [Act.put, zK, zL, zM, i64_w, i32_w]
           rfl
          refine pure_ (i := 2) (N := some 26) (v := ?_) (a' := ?_) #[true, true, true, false, false, false, false, false, false, false, false, false] rfl rfl (any_of HT_.out (by kernel_rfl)) (fun _ _ _ h => h) (Or.inl ⟨by rfl, ?_⟩) ?_ ?_
          rotate_left
          ·intro w'
           go_simp
           with_reducible rfl
          rotate_left
          ·simp only [Act.put, zK, zL, zM, i64_w, i32_w]
           rfl
          refine pure_ (i := 4) (N := some 28) (v := ?_) (a' := ?_) #[true, true, true, false, true, false, false, false, false, false, false, false] rfl rfl (any_of HT_.out (by kernel_rfl)) (fun _ _ _ h => h) (Or.inl ⟨by rfl, ?_⟩) ?_ ?_
          rotate_left
          ·intro w'
           go_simp
           with_reducible rfl
          rotate_left
          ·simp only [Act.put, zK, zL, zM, i64_w, i32_w]
           rfl
          refine pure_ (i := 5) (N := some 29) (v := ?_) (a' := ?_) #[true, true, true, false, true, true, false, false, false, false, false, false] rfl rfl (any_of HT_.out (by kernel_rfl)) (fun _ _ _ h => h) (Or.inl ⟨by rfl, ?_⟩) ?_ ?_
          rotate_left
          ·intro w'
           go_simp
           with_reducible rfl
          rotate_left
          ·simp only [Act.put, zK, zL, zM, i64_w, i32_w]
           rfl
          refine pure_ (i := 6) (N := some 30) (v := ?_) (a' := ?_) #[true, true, true, false, true, true, true, false, false, false, false, false] rfl rfl (any_of HT_.out (by kernel_rfl)) (fun _ _ _ h => h) (Or.inl ⟨by rfl, ?_⟩) ?_ ?_
          rotate_left
          ·intro w'
           go_simp
           with_reducible rfl
          rotate_left
          ·simp only [Act.put, zK, zL, zM, i64_w, i32_w]
           rfl
          refine take_ (i := 3) (N := some 27) (v := ?_) (a' := ?_) #[true, true, true, true, true, true, true, false, false, false, false, false] rfl rfl (take_ofW HT_.out HW_.out (by kernel_rfl)) (fun _ _ _ h => h) (Or.inl ⟨by rfl, ?_⟩) hHeld ?_ ?_
          rotate_left
          ·intro w' _
           go_simp
           with_reducible rfl
          rotate_left
          ·simp only [Act.put, zK, zL, zM, i64_w, i32_w]
           rfl
          refine take_ (i := 7) (N := some 31) (v := ?_) (a' := ?_) #[true, true, true, true, true, true, true, true, false, false, false, false] rfl rfl (take_ofW HT_.out HW_.out (by kernel_rfl)) (fun _ _ _ h => h) (Or.inl ⟨by rfl, ?_⟩) hHeld ?_ ?_
          rotate_left
          ·intro w' _
           go_simp
           with_reducible rfl
          rotate_left
          ·simp only [Act.put, zK, zL, zM, i64_w, i32_w]
           rfl
          refine one_ (i := 8) (N := some 32) #[true, true, true, true, true, true, true, true, true, false, false, false] rfl rfl (one_of HT_.out (by kernel_rfl)) (by decide) (fun K hK => ?_)
          refine Kd.R_lit_step (Kd.int .u8) _ 5 ?hg (N := 32) ?hd (xs := ([bt (⟨#[48, 49, 50, 51, 52, 53, 54, 55, 56, 57, 97, 98, 99, 100, 101, 102]⟩ : ByteArray) (ji26), bt (⟨#[48, 49, 50, 51, 52, 53, 54, 55, 56, 57, 97, 98, 99, 100, 101, 102]⟩ : ByteArray) (ji30)] : List Int)) (inner := [.int .u8 (bt (⟨#[48, 49, 50, 51, 52, 53, 54, 55, 56, 57, 97, 98, 99, 100, 101, 102]⟩ : ByteArray) (ji26)), .int .u8 (bt (⟨#[48, 49, 50, 51, 52, 53, 54, 55, 56, 57, 97, 98, 99, 100, 101, 102]⟩ : ByteArray) (ji30))]) (ok := fun _ => True) (okp := fun _ => True) ?hr ?hp (fun _ hk => hk) trivial (yH _ _) (yJ _) (by simp) ?_; (case hd => rfl); (case hg => rfl); (case hr => first | (go_simp; done) | (go_simp; rfl)); (case hp => exact (Reps.one (show Kd.M (Kd.int .u8) _ _ _ (bt (⟨#[48, 49, 50, 51, 52, 53, 54, 55, 56, 57, 97, 98, 99, 100, 101, 102]⟩ : ByteArray) (ji26)) [.int .u8 (bt (⟨#[48, 49, 50, 51, 52, 53, 54, 55, 56, 57, 97, 98, 99, 100, 101, 102]⟩ : ByteArray) (ji26))] from rfl) (Reps.one (show Kd.M (Kd.int .u8) _ _ _ (bt (⟨#[48, 49, 50, 51, 52, 53, 54, 55, 56, 57, 97, 98, 99, 100, 101, 102]⟩ : ByteArray) (ji30)) [.int .u8 (bt (⟨#[48, 49, 50, 51, 52, 53, 54, 55, 56, 57, 97, 98, 99, 100, 101, 102]⟩ : ByteArray) (ji30))] from rfl) (Reps.none _ _))))
          intro v211 w36 ho37 hb hg_ hnew_
          clear hg_ hnew_
          (first | rw [← Ny210.out] at ho37 | (simp only [Int.reduceToNat] at ho37; rw [← Ny210.out] at ho37))
          have n0_ := zA (Kd.R_lower ho37 (zQ apA))
          have n1_ := zA (zP apA hb)
          clear HB
          have HO212 := n0_
          have HB := n1_
          clear n0_ n1_
          clear hb ho37
          refine hK.out _ _ trivial (fun hHeld => ?_)
          clear hK K
          refine norm_ (a' := ?_) ?_ ?_
          rotate_left
          ·show Act.put _ (some 32) _ = _
           simp only [Act.put, zK, zL, zM, i64_w, i32_w]
           rfl
          refine one_ (i := 9) (N := some 33) #[true, true, true, true, true, true, true, true, true, true, false, false] rfl rfl (one_of HT_.out (by kernel_rfl)) (by decide) (fun K hK => ?_)
          have hcv38 := own_string (P := Tryd.prog) Tryd.underlying68 Tryd.underlying5 Tryd.underlying9 (Kd.own_of_R HO212.out)
          refine value_ (w1 := ?_) (v := ?_) (by rfl) rfl ?_ ?_
          rotate_left 2
          ·go_simp
           constructor
           ·rfl
           ·rfl
          clear hcv38
          refine hK.out _ _ trivial (fun hHeld => ?_)
          clear hK K
          refine norm_ (a' := ?_) ?_ ?_
          rotate_left
          ·show Act.put _ (some 33) _ = _
           simp only [Act.put, zK, zL, zM, i64_w, i32_w]
           rfl
          refine pure_ (i := 10) (N := some 34) (v := ?_) (a' := ?_) #[true, true, true, true, true, true, true, true, true, true, true, false] rfl rfl (any_of HT_.out (by kernel_rfl)) (fun _ _ _ h => h) (Or.inl ⟨by rfl, ?_⟩) ?_ ?_
          rotate_left
          ·intro w'
           go_simp
           with_reducible rfl
          rotate_left
          ·simp only [Act.put, zK, zL, zM, i64_w, i32_w]
           rfl
          refine pure_ (i := 11) (N := some 2) (v := ?_) (a' := ?_) #[true, true, true, true, true, true, true, true, true, true, true, true] rfl rfl (any_of HT_.out (by kernel_rfl)) (fun _ _ _ h => h) (Or.inl ⟨by rfl, ?_⟩) ?_ ?_
          rotate_left
          ·intro w'
           go_simp
           with_reducible rfl
          rotate_left
          ·simp only [Act.put, zK, zL, zM, i64_w, i32_w]
           rfl
          refine done_ (done_of HT_.out (by kernel_rfl)) ?_
          try go_wp2
          go_ret
          exact ⟨by first | rfl | (simp [errW_none, errW_some] <;> rfl) | (simp only [← hji26, ← hji30]; first | rfl | (simp [errW_none, errW_some] <;> rfl)) | (simp [*, errW_none, errW_some] <;> rfl), apA⟩
         ·rw [if_neg c34] at H
          exact absurd H (by simp)
        ·rw [if_neg c32] at H
         exact absurd H (by simp)
       ·rw [if_neg c31] at H
        exact absurd H (by simp)
      ·rw [if_neg c28] at H
       exact absurd H (by simp)
     ·rw [if_neg c27] at H
      exact absurd H (by simp)


def spec_l7Quote.l0 : Nat → ByteArray → ByteArray → Int → Option (ByteArray)
 | 0, _, _, _ => none
 | k + 1, x0, x3, x4 => if x4 < (x0.size : Int) then (if 0 ≤ x4 then ((spec_l7Escape.f k (bt x0 x4)).bind fun t213 => (if x3.size + t213.size ≤ 9223372036854775807 then (spec_l7Quote.l0 k x0 (x3 ++ t213) (wrap64 (x4 + 1))) else (none))) else (none)) else (if x3.size + 1 ≤ 9223372036854775807 then (some (x3 ++ (⟨#[34]⟩ : ByteArray))) else (none))
def spec_l7Quote.f (k : Nat) (a0 : ByteArray) : Option (ByteArray) := spec_l7Quote.l0 k a0 (⟨#[34]⟩ : ByteArray) 0
theorem spec_l7Quote.mono_l : ∀ k, (∀ y0 y1 y2, LeO (spec_l7Quote.l0 k y0 y1 y2) (spec_l7Quote.l0 (k + 1) y0 y1 y2))
 | 0 => fun _ _ _ r h => by simp [spec_l7Quote.l0] at h
 | k + 1 => by
  have ih0 := spec_l7Quote.mono_l k
  ·intro y0 y1 y2
   unfold spec_l7Quote.l0
   repeat' first
   | (with_reducible exact ih0 _ _ _)
   | (with_reducible exact spec_l7Escape.mono _ _)
   | (with_reducible exact LeO.refl _)
   | (with_reducible exact LeO.none _)
   | (with_reducible refine LeO.ite ?_ ?_)
   | (with_reducible refine LeO.bind ?_ (fun _ => ?_))
   | exact ih0 _ _ _
theorem spec_l7Quote.mono : ∀ a0 k, LeO (spec_l7Quote.f k a0) (spec_l7Quote.f (k + 1) a0) := by
 intro a0 k
 have ih0 := spec_l7Quote.mono_l k
 unfold spec_l7Quote.f
 repeat' first
   | (with_reducible exact ih0 _ _ _)
   | (with_reducible exact spec_l7Escape.mono _ _)
   | (with_reducible exact LeO.refl _)
   | (with_reducible exact LeO.none _)
   | (with_reducible refine LeO.ite ?_ ?_)
   | (with_reducible refine LeO.bind ?_ (fun _ => ?_))
   | exact ih0 _ _ _
set_option maxHeartbeats 8000000 in
set_option maxRecDepth 100000 in
theorem spec_l7Quote.calls (k : Nat) (a0 : ByteArray) (r : ByteArray) (w : World) (h : spec_l7Quote.f k a0 = some r) :
  Calls Tryd.prog 36 #[.string a0] w fun e w' => e = .returned (.string r) ∧ Below w.heap.size w w' := by
 have HB := zA (yH w.heap.size w)
 have H : (spec_l7Quote.l0 k a0 (⟨#[34]⟩ : ByteArray) 0) = some r := h
 clear h
 have H' := zA H
 clear H
 go_enter Tryd.func36, Tryd.ntmps36
 go_wp2
 go_loopg [3, 4] k (fun kq v3 v4 w' => ∃ (x3_1 : ByteArray) (x4_1 : Int), v3 = .string x3_1 ∧ v4 = .int .i64 x4_1 ∧ Aside0 (spec_l7Quote.l0 kq a0 x3_1 x4_1 = some r) ∧ Aside0 (kq ≤ k) ∧ Aside0 (Below w.heap.size w w'))
 case atStart => exact ⟨((⟨#[34]⟩ : ByteArray)), (0), apC, apC, H', ⟨yJ _⟩, ⟨apA⟩⟩
 case round =>
  clear H'
  obtain ⟨x3_1, x4_1, rfl, rfl, HA, HK1, HB⟩ := hrel
  cases gk with
  | zero => exact absurd HA.out (by simp [spec_l7Quote.l0])
  | succ k1 =>
   have H := HA.out
   clear HA
   simp only [spec_l7Quote.l0] at H
   by_cases c2 : x4_1 < (a0.size : Int)
   ·rw [if_pos c2] at H
    have c2b0 : decide (x4_1 < (a0.size : Int)) = true := yE c2
    clear c2
    by_cases c3 : 0 ≤ x4_1
    ·rw [if_pos c3] at H
     have c3b0 : decide (0 ≤ x4_1) = true := yE c3
     clear c3
     replace H := Option.bind_eq_some_iff.mp H
     obtain ⟨t213, A50, H⟩ := H
     have A5 := zA A50
     clear A50
     by_cases c6 : x3_1.size + t213.size ≤ 9223372036854775807
     ·rw [if_pos c6] at H
      have c6b0 := eq_true c6
      have c6b1 : decide (x3_1.size + t213.size ≤ 9223372036854775807) = true := yE c6
      try have c6b2 : (9223372036854775807 < x3_1.size + t213.size) = False := eq_false (Nat.not_lt.2 c6)
      have H' := zA H
      clear H
      have p4 : 0 ≤ (x4_1 : Int) := yF apB
      have q4 : x4_1 < (a0.size : Int) := yF apB
      have hx4 := bt_at a0 x4_1
      replace p4 := eq_true p4
      replace q4 := eq_true q4
      go_wp2_with (first | ((with_reducible refine zT (f := 50) rfl ?_); refine goesL_ (some 15) rfl rfl Tryd.func50 (by kernel_rfl) rfl #[.int .u8 (bt a0 x4_1)] rfl apE ?_; (with_reducible refine (spec_l7Escape.calls k1 (bt a0 x4_1) t213 _ A5.out).mono ?_); rintro e w7 ⟨rfl, hb⟩; refine ⟨_, rfl, ?_⟩; have n0_ := zA (zP apA hb); clear HB; have HB := n0_; clear n0_; (try clear hb); (try clear hb2); (try clear hk); (try clear hi)))
      go_roundg k1
      case measure => have := HK1.out; omega
      case rel => exact ⟨(x3_1 ++ t213), (wrap64 (x4_1 + 1)), apC, apC, H', ⟨by have := HK1.out; omega⟩, ⟨apA⟩⟩
     ·rw [if_neg c6] at H
      exact absurd H (by simp)
    ·rw [if_neg c3] at H
     exact absurd H (by simp)
   ·rw [if_neg c2] at H
    have c2b0 : decide (x4_1 < (a0.size : Int)) = false := decide_eq_false c2
    clear c2
    by_cases c8 : x3_1.size + 1 ≤ 9223372036854775807
    ·rw [if_pos c8] at H
     have c8b0 := eq_true c8
     have c8b1 : decide (x3_1.size + 1 ≤ 9223372036854775807) = true := yE c8
     try have c8b2 : (9223372036854775807 < x3_1.size + 1) = False := eq_false (Nat.not_lt.2 c8)
     obtain rfl := yG H
     go_wp2
     go_ret
     exact ⟨apD, apA⟩
    ·rw [if_neg c8] at H
     exact absurd H (by simp)


def impl_plain.f (a0 : Int) : Option (Bool) := if a0 ≥ 32 then (if a0 ≤ 126 then (if a0 = 34 then (some false) else (some (a0 != 92))) else (some false)) else (some false)
set_option maxHeartbeats 8000000 in
set_option maxRecDepth 100000 in
theorem impl_plain.calls (a0 : Int) (r : Bool) (w : World) (h : impl_plain.f a0 = some r) :
  Calls Tryd.prog 58 #[.int .u8 a0] w fun e w' => e = .returned (.bool r) ∧ Drawn0 w w' := by
 have H : (if a0 ≥ 32 then (if a0 ≤ 126 then (if a0 = 34 then (some false) else (some (a0 != 92))) else (some false)) else (some false)) = some r := h
 clear h
 by_cases c2 : a0 ≥ 32
 ·rw [if_pos c2] at H
  have c2b0 : decide (32 ≤ a0) = true := yE c2
  clear c2
  by_cases c3 : a0 ≤ 126
  ·rw [if_pos c3] at H
   have c3b0 : decide (a0 ≤ 126) = true := yE c3
   clear c3
   by_cases c4 : a0 = 34
   ·rw [if_pos c4] at H
    have c4b0 : (a0 == 34) = true := beq_iff_eq.mpr c4
    have c4b1 : (a0 != 34) = false := bne_eq_false_iff_eq.mpr c4
    clear c4
    obtain rfl := yG H
    go_enter Tryd.func58, Tryd.ntmps58
    go_wp2
    go_ret
    exact ⟨apC, apF⟩
   ·rw [if_neg c4] at H
    have c4b0 : (a0 == 34) = false := beq_eq_false_iff_ne.mpr c4
    have c4b1 : (a0 != 34) = true := bne_iff_ne.mpr c4
    obtain rfl := yG H
    go_enter Tryd.func58, Tryd.ntmps58
    go_wp2
    go_ret
    exact ⟨apC, apF⟩
  ·rw [if_neg c3] at H
   have c3b0 : decide (a0 ≤ 126) = false := decide_eq_false c3
   clear c3
   obtain rfl := yG H
   go_enter Tryd.func58, Tryd.ntmps58
   go_wp2
   go_ret
   exact ⟨apC, apF⟩
 ·rw [if_neg c2] at H
  have c2b0 : decide (32 ≤ a0) = false := decide_eq_false c2
  clear c2
  obtain rfl := yG H
  go_enter Tryd.func58, Tryd.ntmps58
  go_wp2
  go_ret
  exact ⟨apC, apF⟩

end Go.Proofs.YtmdpjfmkhnjilaaDoor.Q

namespace Go.Proofs.YtmdpjfmkhnjilaaDoor.Q
open Go.RowKit Go.Proofs.YtmdpjfmkhnjilaaDoorW.PrintWords Go.Proofs.YtmdpjfmkhnjilaaDoorW.PrintLast Go.Proofs.YtmdpjfmkhnjilaaDoorW.PrintMore Go.Proofs.YtmdpjfmkhnjilaaDoorX
attribute [local go_sem] max2_int min2_int max_two min_two max_three min_three max_four min_four   -- for this text's walks alone
set_option linter.unusedVariables false
set_option linter.unusedSimpArgs false

attribute [-simp] ByteArray.size_extract
def impl_hex.f (a0 : Int) : Option (ByteArray) := if 0 ≤ (a0 / 16) then (if (a0 / 16) ≤ (((a0 / 16) + 1) % 256) then (if (((a0 / 16) + 1) % 256) ≤ 16 then (if 0 ≤ (Go.bits .and .u8 a0 15) then (if (Go.bits .and .u8 a0 15) ≤ (((Go.bits .and .u8 a0 15) + 1) % 256) then (if (((Go.bits .and .u8 a0 15) + 1) % 256) ≤ 16 then (if ((⟨#[48, 49, 50, 51, 52, 53, 54, 55, 56, 57, 97, 98, 99, 100, 101, 102]⟩ : ByteArray).extract ((a0 / 16) : Int).toNat ((((a0 / 16) + 1) % 256) : Int).toNat).size + ((⟨#[48, 49, 50, 51, 52, 53, 54, 55, 56, 57, 97, 98, 99, 100, 101, 102]⟩ : ByteArray).extract ((Go.bits .and .u8 a0 15) : Int).toNat ((((Go.bits .and .u8 a0 15) + 1) % 256) : Int).toNat).size ≤ 9223372036854775807 then (some (((⟨#[48, 49, 50, 51, 52, 53, 54, 55, 56, 57, 97, 98, 99, 100, 101, 102]⟩ : ByteArray).extract ((a0 / 16) : Int).toNat ((((a0 / 16) + 1) % 256) : Int).toNat) ++ ((⟨#[48, 49, 50, 51, 52, 53, 54, 55, 56, 57, 97, 98, 99, 100, 101, 102]⟩ : ByteArray).extract ((Go.bits .and .u8 a0 15) : Int).toNat ((((Go.bits .and .u8 a0 15) + 1) % 256) : Int).toNat))) else (none)) else (none)) else (none)) else (none)) else (none)) else (none)) else (none)
set_option maxHeartbeats 8000000 in
set_option maxRecDepth 100000 in
theorem impl_hex.calls (a0 : Int) (r : ByteArray) (w : World) (h : impl_hex.f a0 = some r) :
  Calls Tryd.prog 59 #[.int .u8 a0] w fun e w' => e = .returned (.string r) ∧ Drawn0 w w' := by
 have H : (if 0 ≤ (a0 / 16) then (if (a0 / 16) ≤ (((a0 / 16) + 1) % 256) then (if (((a0 / 16) + 1) % 256) ≤ 16 then (if 0 ≤ (Go.bits .and .u8 a0 15) then (if (Go.bits .and .u8 a0 15) ≤ (((Go.bits .and .u8 a0 15) + 1) % 256) then (if (((Go.bits .and .u8 a0 15) + 1) % 256) ≤ 16 then (if ((⟨#[48, 49, 50, 51, 52, 53, 54, 55, 56, 57, 97, 98, 99, 100, 101, 102]⟩ : ByteArray).extract ((a0 / 16) : Int).toNat ((((a0 / 16) + 1) % 256) : Int).toNat).size + ((⟨#[48, 49, 50, 51, 52, 53, 54, 55, 56, 57, 97, 98, 99, 100, 101, 102]⟩ : ByteArray).extract ((Go.bits .and .u8 a0 15) : Int).toNat ((((Go.bits .and .u8 a0 15) + 1) % 256) : Int).toNat).size ≤ 9223372036854775807 then (some (((⟨#[48, 49, 50, 51, 52, 53, 54, 55, 56, 57, 97, 98, 99, 100, 101, 102]⟩ : ByteArray).extract ((a0 / 16) : Int).toNat ((((a0 / 16) + 1) % 256) : Int).toNat) ++ ((⟨#[48, 49, 50, 51, 52, 53, 54, 55, 56, 57, 97, 98, 99, 100, 101, 102]⟩ : ByteArray).extract ((Go.bits .and .u8 a0 15) : Int).toNat ((((Go.bits .and .u8 a0 15) + 1) % 256) : Int).toNat))) else (none)) else (none)) else (none)) else (none)) else (none)) else (none)) else (none)) = some r := h
 clear h
 obtain ⟨ji2, hji2⟩ : ∃ j_ : Int, (a0 / 16) = j_ := ⟨_, rfl⟩
 replace H : (if 0 ≤ (ji2) then (if (ji2) ≤ (((ji2) + 1) % 256) then (if (((ji2) + 1) % 256) ≤ 16 then (if 0 ≤ (Go.bits .and .u8 a0 15) then (if (Go.bits .and .u8 a0 15) ≤ (((Go.bits .and .u8 a0 15) + 1) % 256) then (if (((Go.bits .and .u8 a0 15) + 1) % 256) ≤ 16 then (if ((⟨#[48, 49, 50, 51, 52, 53, 54, 55, 56, 57, 97, 98, 99, 100, 101, 102]⟩ : ByteArray).extract ((ji2) : Int).toNat ((((ji2) + 1) % 256) : Int).toNat).size + ((⟨#[48, 49, 50, 51, 52, 53, 54, 55, 56, 57, 97, 98, 99, 100, 101, 102]⟩ : ByteArray).extract ((Go.bits .and .u8 a0 15) : Int).toNat ((((Go.bits .and .u8 a0 15) + 1) % 256) : Int).toNat).size ≤ 9223372036854775807 then (some (((⟨#[48, 49, 50, 51, 52, 53, 54, 55, 56, 57, 97, 98, 99, 100, 101, 102]⟩ : ByteArray).extract ((ji2) : Int).toNat ((((ji2) + 1) % 256) : Int).toNat) ++ ((⟨#[48, 49, 50, 51, 52, 53, 54, 55, 56, 57, 97, 98, 99, 100, 101, 102]⟩ : ByteArray).extract ((Go.bits .and .u8 a0 15) : Int).toNat ((((Go.bits .and .u8 a0 15) + 1) % 256) : Int).toNat))) else (none)) else (none)) else (none)) else (none)) else (none)) else (none)) else (none)) = some r := by first | (rw [hji2] at H; exact H) | (simp only [hji2] at H ⊢; exact H)
 by_cases c3 : 0 ≤ (ji2)
 ·rw [if_pos c3] at H
  have c3b0 := eq_true c3
  have c3b1 : decide (0 ≤ (ji2)) = true := yE c3
  clear c3
  by_cases c4 : (ji2) ≤ (((ji2) + 1) % 256)
  ·rw [if_pos c4] at H
   have c4b0 := eq_true c4
   have c4b1 : decide ((ji2) ≤ (((ji2) + 1) % 256)) = true := yE c4
   by_cases c5 : (((ji2) + 1) % 256) ≤ 16
   ·rw [if_pos c5] at H
    have c5b0 := eq_true c5
    have c5b1 : decide ((((ji2) + 1) % 256) ≤ 16) = true := yE c5
    by_cases c6 : 0 ≤ (Go.bits .and .u8 a0 15)
    ·rw [if_pos c6] at H
     have c6b0 := eq_true c6
     have c6b1 : decide (0 ≤ (Go.bits .and .u8 a0 15)) = true := yE c6
     clear c6
     by_cases c7 : (Go.bits .and .u8 a0 15) ≤ (((Go.bits .and .u8 a0 15) + 1) % 256)
     ·rw [if_pos c7] at H
      have c7b0 := eq_true c7
      have c7b1 : decide ((Go.bits .and .u8 a0 15) ≤ (((Go.bits .and .u8 a0 15) + 1) % 256)) = true := yE c7
      by_cases c8 : (((Go.bits .and .u8 a0 15) + 1) % 256) ≤ 16
      ·rw [if_pos c8] at H
       have c8b0 := eq_true c8
       have c8b1 : decide ((((Go.bits .and .u8 a0 15) + 1) % 256) ≤ 16) = true := yE c8
       by_cases c9 : ((⟨#[48, 49, 50, 51, 52, 53, 54, 55, 56, 57, 97, 98, 99, 100, 101, 102]⟩ : ByteArray).extract ((ji2) : Int).toNat ((((ji2) + 1) % 256) : Int).toNat).size + ((⟨#[48, 49, 50, 51, 52, 53, 54, 55, 56, 57, 97, 98, 99, 100, 101, 102]⟩ : ByteArray).extract ((Go.bits .and .u8 a0 15) : Int).toNat ((((Go.bits .and .u8 a0 15) + 1) % 256) : Int).toNat).size ≤ 9223372036854775807
       ·rw [if_pos c9] at H
        have c9b0 := eq_true c9
        have c9b1 : decide (((⟨#[48, 49, 50, 51, 52, 53, 54, 55, 56, 57, 97, 98, 99, 100, 101, 102]⟩ : ByteArray).extract ((ji2) : Int).toNat ((((ji2) + 1) % 256) : Int).toNat).size + ((⟨#[48, 49, 50, 51, 52, 53, 54, 55, 56, 57, 97, 98, 99, 100, 101, 102]⟩ : ByteArray).extract ((Go.bits .and .u8 a0 15) : Int).toNat ((((Go.bits .and .u8 a0 15) + 1) % 256) : Int).toNat).size ≤ 9223372036854775807) = true := yE c9
        try have c9b2 : (9223372036854775807 < ((⟨#[48, 49, 50, 51, 52, 53, 54, 55, 56, 57, 97, 98, 99, 100, 101, 102]⟩ : ByteArray).extract ((ji2) : Int).toNat ((((ji2) + 1) % 256) : Int).toNat).size + ((⟨#[48, 49, 50, 51, 52, 53, 54, 55, 56, 57, 97, 98, 99, 100, 101, 102]⟩ : ByteArray).extract ((Go.bits .and .u8 a0 15) : Int).toNat ((((Go.bits .and .u8 a0 15) + 1) % 256) : Int).toNat).size) = False := eq_false (Nat.not_lt.2 c9)
        obtain rfl := yG H
        go_enter Tryd.func59, Tryd.ntmps59
        go_wp2
        repeat (go_quiet (fail); try go_wp2)
        go_ret
        exact ⟨by first | rfl | (simp; done) | (simp only [*]; done) | (simp [*]; done) | ((simp only [← hji2] <;> (first | rfl | simp)); done), apF⟩
       ·rw [if_neg c9] at H
        exact absurd H (by simp)
      ·rw [if_neg c8] at H
       exact absurd H (by simp)
     ·rw [if_neg c7] at H
      exact absurd H (by simp)
    ·rw [if_neg c6] at H
     exact absurd H (by simp)
   ·rw [if_neg c5] at H
    exact absurd H (by simp)
  ·rw [if_neg c4] at H
   exact absurd H (by simp)
 ·rw [if_neg c3] at H
  exact absurd H (by simp)

end Go.Proofs.YtmdpjfmkhnjilaaDoor.Q

namespace Go.Proofs.YtmdpjfmkhnjilaaDoor.Q
open Go.RowKit Go.Proofs.YtmdpjfmkhnjilaaDoorW.PrintWords Go.Proofs.YtmdpjfmkhnjilaaDoorW.PrintLast Go.Proofs.YtmdpjfmkhnjilaaDoorW.PrintMore Go.Proofs.YtmdpjfmkhnjilaaDoorX
attribute [local go_sem] max2_int min2_int max_two min_two max_three min_three max_four min_four   -- for this text's walks alone
set_option linter.unusedVariables false
set_option linter.unusedSimpArgs false

def impl_jsonText.l0 : Nat → ByteArray → List Int → Int → Int → Option (ByteArray)
 | 0, _, _, _, _ => none
 | k + 1, x0, x3, x8, x9 => if x9 < x8 then (if 0 ≤ x9 then (if x9 < (x0.size : Int) then ((impl_plain.f (bt x0 x9)).bind fun t294 => (if t294 = true then (if x3.length < 140737488355328 then (impl_jsonText.l0 k x0 (x3 ++ [bt x0 x9]) x8 (wrap64 (x9 + 1))) else (none)) else (if (bt x0 x9) = 34 then ((some (([92, bt x0 x9] : List Int) : List Int)).bind fun y298 => (if x3.length + y298.length < 140737488355328 then (impl_jsonText.l0 k x0 (x3 ++ y298) x8 (wrap64 (x9 + 1))) else (none))) else (if (bt x0 x9) = 92 then ((some (([92, bt x0 x9] : List Int) : List Int)).bind fun y304 => (if x3.length + y304.length < 140737488355328 then (impl_jsonText.l0 k x0 (x3 ++ y304) x8 (wrap64 (x9 + 1))) else (none))) else ((impl_hex.f (bt x0 x9)).bind fun t310 => (if 4 + t310.size ≤ 9223372036854775807 then (if x3.length + ((⟨#[92, 117, 48, 48]⟩ : ByteArray) ++ t310).size < 140737488355328 then (impl_jsonText.l0 k x0 (x3 ++ bytesOf ((⟨#[92, 117, 48, 48]⟩ : ByteArray) ++ t310)) x8 (wrap64 (x9 + 1))) else (none)) else (none))))))) else (none)) else (none)) else (if x3.length < 140737488355328 then (some (strOfNums (x3 ++ [34]))) else (none))
def impl_jsonText.f (k : Nat) (a0 : ByteArray) : Option (ByteArray) := impl_jsonText.l0 k a0 (([34] : List Int)) (a0.size : Int) 0
theorem impl_jsonText.mono_l : ∀ k, (∀ y0 y1 y2 y3, LeO (impl_jsonText.l0 k y0 y1 y2 y3) (impl_jsonText.l0 (k + 1) y0 y1 y2 y3))
 | 0 => fun _ _ _ _ r h => by simp [impl_jsonText.l0] at h
 | k + 1 => by
  have ih0 := impl_jsonText.mono_l k
  ·intro y0 y1 y2 y3
   unfold impl_jsonText.l0
   repeat' first
   | (with_reducible exact ih0 _ _ _ _)
   | (with_reducible exact LeO.refl _)
   | (with_reducible exact LeO.none _)
   | (with_reducible refine LeO.ite ?_ ?_)
   | (with_reducible refine LeO.bind ?_ (fun _ => ?_))
   | exact ih0 _ _ _ _
theorem impl_jsonText.mono : ∀ a0 k, LeO (impl_jsonText.f k a0) (impl_jsonText.f (k + 1) a0) := by
 intro a0 k
 have ih0 := impl_jsonText.mono_l k
 unfold impl_jsonText.f
 repeat' first
   | (with_reducible exact ih0 _ _ _ _)
   | (with_reducible exact LeO.refl _)
   | (with_reducible exact LeO.none _)
   | (with_reducible refine LeO.ite ?_ ?_)
   | (with_reducible refine LeO.bind ?_ (fun _ => ?_))
   | exact ih0 _ _ _ _
set_option maxHeartbeats 8000000 in
set_option maxRecDepth 100000 in
theorem impl_jsonText.calls (k : Nat) (a0 : ByteArray) (r : ByteArray) (w : World) (h : impl_jsonText.f k a0 = some r) :
  Calls Tryd.prog 43 #[.string a0] w fun e w' => e = .returned (.string r) ∧ Below w.heap.size w w' := by
 have HB := zA (yH w.heap.size w)
 have H : (impl_jsonText.l0 k a0 (([34] : List Int)) (a0.size : Int) 0) = some r := h
 clear h
 obtain ⟨y288, hy288⟩ : ∃ y_ : List Int, y_ = (([34] : List Int)) := ⟨_, rfl⟩
 replace H : (impl_jsonText.l0 k a0 y288 (a0.size : Int) 0) = some r := by first | (rw [hy288]; with_reducible exact H) | (have H2_ := (Option.bind_some _ _).symm.trans H; rw [hy288]; with_reducible exact H2_) | (have H2_ := (Option.bind_some _ _).symm.trans H; with_reducible exact H2_) | with_reducible exact H | (rw [hy288]; exact H) | exact H
 have Ny288 := zA hy288
 clear hy288
 have H' := zA H
 clear H
 go_enter Tryd.func43, Tryd.ntmps43
 go_wp2_with (first | ((with_reducible refine zS (N := 6) rfl ?_); refine Kd.R_lit (Kd.int .u8) _ 5 ?hg (N := 6) ?hd (xs := ([34] : List Int)) (inner := [.int .u8 34]) (ok := fun _ => True) (okp := fun _ => True) ?hr ?hp (fun _ hk => hk) trivial (yH _ _) (yJ _) (by simp) ?_; (case hd => rfl); (case hg => rfl); (case hr => first | (go_simp; done) | (go_simp; rfl)); (case hp => exact (Reps.one (show Kd.M (Kd.int .u8) _ _ _ 34 [.int .u8 34] from rfl) (Reps.none _ _))); intro v289 w2 ho3 hb hg_ hnew_; clear hg_ hnew_; (first | rw [← Ny288.out] at ho3 | (simp only [Int.reduceToNat] at ho3; rw [← Ny288.out] at ho3)); have n0_ := zA (Kd.R_lower ho3 (zQ apA)); have n1_ := zA (zP apA hb); clear HB; have HO290 := n0_; have HB := n1_; clear n0_ n1_; clear hb ho3))
 go_loopg [3, 9] k (fun kq v3 v9 w' => ∃ (x3_1 : List Int) (x9_1 : Int), v9 = .int .i64 x9_1 ∧ Aside0 (impl_jsonText.l0 kq a0 x3_1 (a0.size : Int) x9_1 = some r) ∧ Aside0 (kq ≤ k) ∧ Aside0 (Kd.R (Kd.int .u8) 5 w' w.heap.size (fun _ => True) v3 x3_1) ∧ Aside0 (Below w.heap.size w w'))
 case atStart => exact ⟨(y288), (0), apC, H', ⟨yJ _⟩, ⟨by (with_reducible repeat (first | apply Kd.R_alloc | apply Kd.R_drewN | apply Kd.R_drew)); exact HO290.out⟩, ⟨apA⟩⟩
 case round =>
  clear H'
  try clear p2
  obtain ⟨x3_1, x9_1, rfl, HA, HK1, HO_3, HB⟩ := hrel
  cases gk with
  | zero => exact absurd HA.out (by simp [impl_jsonText.l0])
  | succ k1 =>
   have H := HA.out
   clear HA
   simp only [impl_jsonText.l0] at H
   by_cases c4 : x9_1 < (a0.size : Int)
   ·rw [if_pos c4] at H
    have c4b0 : decide (x9_1 < (a0.size : Int)) = true := yE c4
    clear c4
    by_cases c5 : 0 ≤ x9_1
    ·rw [if_pos c5] at H
     have c5b0 : decide (0 ≤ x9_1) = true := yE c5
     clear c5
     by_cases c6 : x9_1 < (a0.size : Int)
     ·rw [if_pos c6] at H
      have c6b0 : decide (x9_1 < (a0.size : Int)) = true := yE c6
      clear c6
      replace H := Option.bind_eq_some_iff.mp H
      obtain ⟨t294, A80, H⟩ := H
      have A8 := zA A80
      clear A80
      by_cases c9 : t294 = true
      ·subst c9
       have H1 := H; rw [if_pos rfl] at H1
       clear H
       have H := H1
       clear H1
       by_cases c10 : x3_1.length < 140737488355328
       ·rw [if_pos c10] at H
        have LMc10 := zA c10
        clear c10
        obtain ⟨y295, hy295⟩ : ∃ y_ : List Int, y_ = (x3_1 ++ [bt a0 x9_1]) := ⟨_, rfl⟩
        replace H : (impl_jsonText.l0 k1 a0 y295 (a0.size : Int) (wrap64 (x9_1 + 1))) = some r := by first | (rw [hy295]; with_reducible exact H) | (have H2_ := (Option.bind_some _ _).symm.trans H; rw [hy295]; with_reducible exact H2_) | (have H2_ := (Option.bind_some _ _).symm.trans H; with_reducible exact H2_) | with_reducible exact H | (rw [hy295]; exact H) | exact H
        have Ny295 := zA hy295
        clear hy295
        have H' := zA H
        clear H
        have p7 : 0 ≤ (x9_1 : Int) := yF apB
        have q7 : x9_1 < (a0.size : Int) := yF apB
        have hx7 := bt_at a0 x9_1
        replace p7 := eq_true p7
        replace q7 := eq_true q7
        go_wp2_with (first | ((with_reducible refine zT (f := 58) rfl ?_); refine goesL_ (some 22) rfl rfl Tryd.func58 (by kernel_rfl) rfl #[.int .u8 (bt a0 x9_1)] rfl apE ?_; (with_reducible refine (impl_plain.calls (bt a0 x9_1) true _ A8.out).mono ?_); rintro e w' ⟨rfl, ⟨nd, rfl⟩⟩; refine ⟨_, rfl, ?_⟩) | ((with_reducible refine gate_builtin (b := .append) (xs := #[.tmp 23, .tmp 25]) rfl ?_); at_builtin; refine Kd.R_append (Kd.int .u8) (w0 := w) w.heap.size rfl (.tmp 23) (.tmp 25) 68 5 (.int .u8 0) 1 rfl Tryd.underlying68 info5 rfl (by decide) (by omega) u3 x3_1 (bt a0 x9_1) [.int .u8 (bt a0 x9_1)] (fun _ => True) (fun _ => False) rfl rfl ?aP (fun _ hk => hk.elim) ?aF ?aO ?aB ?aS ?aL ?_; (case aP => exact rfl); (case aB => exact apA); (case aF => exact (fun _ _ => trivial)); (case aO => exact (by (with_reducible repeat (first | apply Kd.R_alloc | apply Kd.R_drewN | apply Kd.R_drew)); exact HO_3.out)); (case aS => exact (zQ apA)); (case aL => have := LMc10.out; (first | omega | (simp only [ByteArray.size, List.size_toArray, List.length_cons, List.length_nil] at *; omega))); intro v296 w11 ho hb hg hat; rw [← Ny295.out] at ho; have n0_ := zA (hb); have n1_ := zA (ho); clear HB; clear HO_3; have HB := n0_; have HO297 := n1_; clear n0_ n1_; clear ho hb hg hat))
        go_roundg k1
        case measure => have := HK1.out; omega
        case rel => exact ⟨(y295), (wrap64 (x9_1 + 1)), apC, H', ⟨by have := HK1.out; omega⟩, ⟨by (with_reducible repeat (first | apply Kd.R_alloc | apply Kd.R_drewN | apply Kd.R_drew)); exact HO297.out⟩, ⟨apA⟩⟩
       ·rw [if_neg c10] at H
        exact absurd H (by simp)
      ·replace c9 := Bool.eq_false_iff.mpr c9
       subst c9
       have H1 := H; rw [if_neg (show ¬ (false = true) by decide)] at H1
       clear H
       have H := H1
       clear H1
       by_cases c12 : (bt a0 x9_1) = 34
       ·rw [if_pos c12] at H
        have c12b0 : ((bt a0 x9_1) == 34) = true := beq_iff_eq.mpr c12
        have c12b1 : ((bt a0 x9_1) != 34) = false := bne_eq_false_iff_eq.mpr c12
        clear c12
        obtain ⟨y298, hy298⟩ : ∃ y_ : List Int, y_ = (([92, bt a0 x9_1] : List Int)) := ⟨_, rfl⟩
        replace H : (if x3_1.length + y298.length < 140737488355328 then (impl_jsonText.l0 k1 a0 (x3_1 ++ y298) (a0.size : Int) (wrap64 (x9_1 + 1))) else (none)) = some r := by first | (rw [hy298]; with_reducible exact H) | (have H2_ := (Option.bind_some _ _).symm.trans H; rw [hy298]; with_reducible exact H2_) | (have H2_ := (Option.bind_some _ _).symm.trans H; with_reducible exact H2_) | with_reducible exact H | (rw [hy298]; exact H) | exact H
        have Ny298 := zA hy298
        clear hy298
        by_cases c13 : x3_1.length + y298.length < 140737488355328
        ·rw [if_pos c13] at H
         have LMc13 := zA c13
         clear c13
         obtain ⟨y301, hy301⟩ : ∃ y_ : List Int, y_ = (x3_1 ++ y298) := ⟨_, rfl⟩
         replace H : (impl_jsonText.l0 k1 a0 y301 (a0.size : Int) (wrap64 (x9_1 + 1))) = some r := by first | (rw [hy301]; with_reducible exact H) | (have H2_ := (Option.bind_some _ _).symm.trans H; rw [hy301]; with_reducible exact H2_) | (have H2_ := (Option.bind_some _ _).symm.trans H; with_reducible exact H2_) | with_reducible exact H | (rw [hy301]; exact H) | exact H
         have Ny301 := zA hy301
         clear hy301
         have H' := zA H
         clear H
         have p7 : 0 ≤ (x9_1 : Int) := yF apB
         have q7 : x9_1 < (a0.size : Int) := yF apB
         have hx7 := bt_at a0 x9_1
         replace p7 := eq_true p7
         replace q7 := eq_true q7
         go_wp2_with (first | ((with_reducible refine zT (f := 58) rfl ?_); refine goesL_ (some 22) rfl rfl Tryd.func58 (by kernel_rfl) rfl #[.int .u8 (bt a0 x9_1)] rfl apE ?_; (with_reducible refine (impl_plain.calls (bt a0 x9_1) false _ A8.out).mono ?_); rintro e w' ⟨rfl, ⟨nd, rfl⟩⟩; refine ⟨_, rfl, ?_⟩) | ((with_reducible refine zS (N := 36) rfl ?_); refine Kd.R_lit (Kd.int .u8) _ 5 ?hg (N := 36) ?hd (xs := ([92, bt a0 x9_1] : List Int)) (inner := [.int .u8 92, .int .u8 (bt a0 x9_1)]) (ok := fun _ => True) (okp := fun _ => True) ?hr ?hp (fun _ hk => hk) trivial (yH _ _) (yJ _) (by simp) ?_; (case hd => rfl); (case hg => rfl); (case hr => first | (go_simp; done) | (go_simp; rfl)); (case hp => exact (Reps.one (show Kd.M (Kd.int .u8) _ _ _ 92 [.int .u8 92] from rfl) (Reps.one (show Kd.M (Kd.int .u8) _ _ _ (bt a0 x9_1) [.int .u8 (bt a0 x9_1)] from rfl) (Reps.none _ _)))); intro v299 w14 ho15 hb hg_ hnew_; clear hg_ hnew_; (first | rw [← Ny298.out] at ho15 | (simp only [Int.reduceToNat] at ho15; rw [← Ny298.out] at ho15)); have n0_ := zA (Kd.R_elder' (by (with_reducible repeat (first | apply Kd.R_alloc | apply Kd.R_drewN | apply Kd.R_drew)); exact HO_3.out) (Kd.R_base ho15) hb); have n1_ := zA (Kd.R_lower (Kd.R_new' ho15 (Kd.R_lt (by (with_reducible repeat (first | apply Kd.R_alloc | apply Kd.R_drewN | apply Kd.R_drew)); exact HO_3.out))) (zQ apA)); have n2_ := zA (zP apA hb); clear HO_3; clear HB; have HO_3 := n0_; have HO300 := n1_; have HB := n2_; clear n0_ n1_ n2_; clear hb ho15; obtain ⟨Ao17, co17, eo17⟩ := Kd.R_slice HO300.out; subst eo17) | ((with_reducible refine gate_builtin (b := .append) (xs := #[.tmp 34, .tmp 36]) rfl ?_); at_builtin; refine Kd.R_append_rows (Kd.int .u8) (w0 := w) w.heap.size rfl (.tmp 34) (.tmp 36) 68 5 (.int .u8 0) 1 rfl Tryd.underlying68 info5 rfl (by decide) (by omega) u3 x3_1 y298 _ _ _ (fun k_ => some k_ ≠ (.slice Ao17 y298.length co17 : Value).ownBlock) (fun _ => False) rfl rfl ?aO ?aR (fun _ _ h => h) (fun _ h => h.elim) ?aF ?aB ?aS ?aL ?_; (case aR => repeat (first | exact (Kd.R_reads' HO300.out).2.2 | (with_reducible refine Kd.C_alloc ?_ _) | (with_reducible refine Kd.C_drewN ?_ _) | (with_reducible refine Kd.C_drew ?_))); (case aB => exact apA); (case aF => exact (fun k_ hk => Kd.fresh' (Kd.R_lt (by (with_reducible repeat (first | apply Kd.R_alloc | apply Kd.R_drewN | apply Kd.R_drew)); exact HO300.out)) k_ hk)); (case aO => exact (by (with_reducible repeat (first | apply Kd.R_alloc | apply Kd.R_drewN | apply Kd.R_drew)); exact Kd.R_mono HO_3.out (fun _ hk => hk.2))); (case aS => exact (zQ apA)); (case aL => have := LMc13.out; (first | omega | (simp only [ByteArray.size, List.size_toArray, List.length_cons, List.length_nil] at *; omega))); intro v302 w16 ho hb hg hat; rw [← Ny301.out] at ho; have n0_ := zA (Kd.R_after (ok := (fun _ => True)) (by (with_reducible repeat (first | apply Kd.R_alloc | apply Kd.R_drewN | apply Kd.R_drew)); exact HO300.out) hg hat); have n1_ := zA (hb); have n2_ := zA (ho); clear HO300; clear HB; clear HO_3; have HO300 := n0_; have HB := n1_; have HO303 := n2_; clear n0_ n1_ n2_; clear ho hb hg hat))
         go_roundg k1
         case measure => have := HK1.out; omega
         case rel => exact ⟨(y301), (wrap64 (x9_1 + 1)), apC, H', ⟨by have := HK1.out; omega⟩, ⟨by (with_reducible repeat (first | apply Kd.R_alloc | apply Kd.R_drewN | apply Kd.R_drew)); exact Kd.R_mono HO303.out (fun _ hk => trivial)⟩, ⟨apA⟩⟩
        ·rw [if_neg c13] at H
         exact absurd H (by simp)
       ·rw [if_neg c12] at H
        have c12b0 : ((bt a0 x9_1) == 34) = false := beq_eq_false_iff_ne.mpr c12
        have c12b1 : ((bt a0 x9_1) != 34) = true := bne_iff_ne.mpr c12
        by_cases c18 : (bt a0 x9_1) = 92
        ·rw [if_pos c18] at H
         have c18b0 : ((bt a0 x9_1) == 92) = true := beq_iff_eq.mpr c18
         have c18b1 : ((bt a0 x9_1) != 92) = false := bne_eq_false_iff_eq.mpr c18
         clear c18
         obtain ⟨y304, hy304⟩ : ∃ y_ : List Int, y_ = (([92, bt a0 x9_1] : List Int)) := ⟨_, rfl⟩
         replace H : (if x3_1.length + y304.length < 140737488355328 then (impl_jsonText.l0 k1 a0 (x3_1 ++ y304) (a0.size : Int) (wrap64 (x9_1 + 1))) else (none)) = some r := by first | (rw [hy304]; with_reducible exact H) | (have H2_ := (Option.bind_some _ _).symm.trans H; rw [hy304]; with_reducible exact H2_) | (have H2_ := (Option.bind_some _ _).symm.trans H; with_reducible exact H2_) | with_reducible exact H | (rw [hy304]; exact H) | exact H
         have Ny304 := zA hy304
         clear hy304
         by_cases c19 : x3_1.length + y304.length < 140737488355328
         ·rw [if_pos c19] at H
          have LMc19 := zA c19
          clear c19
          obtain ⟨y307, hy307⟩ : ∃ y_ : List Int, y_ = (x3_1 ++ y304) := ⟨_, rfl⟩
          replace H : (impl_jsonText.l0 k1 a0 y307 (a0.size : Int) (wrap64 (x9_1 + 1))) = some r := by first | (rw [hy307]; with_reducible exact H) | (have H2_ := (Option.bind_some _ _).symm.trans H; rw [hy307]; with_reducible exact H2_) | (have H2_ := (Option.bind_some _ _).symm.trans H; with_reducible exact H2_) | with_reducible exact H | (rw [hy307]; exact H) | exact H
          have Ny307 := zA hy307
          clear hy307
          have H' := zA H
          clear H
          have p7 : 0 ≤ (x9_1 : Int) := yF apB
          have q7 : x9_1 < (a0.size : Int) := yF apB
          have hx7 := bt_at a0 x9_1
          replace p7 := eq_true p7
          replace q7 := eq_true q7
          go_wp2_with (first | ((with_reducible refine zT (f := 58) rfl ?_); refine goesL_ (some 22) rfl rfl Tryd.func58 (by kernel_rfl) rfl #[.int .u8 (bt a0 x9_1)] rfl apE ?_; (with_reducible refine (impl_plain.calls (bt a0 x9_1) false _ A8.out).mono ?_); rintro e w' ⟨rfl, ⟨nd, rfl⟩⟩; refine ⟨_, rfl, ?_⟩) | ((with_reducible refine zS (N := 36) rfl ?_); refine Kd.R_lit (Kd.int .u8) _ 5 ?hg (N := 36) ?hd (xs := ([92, bt a0 x9_1] : List Int)) (inner := [.int .u8 92, .int .u8 (bt a0 x9_1)]) (ok := fun _ => True) (okp := fun _ => True) ?hr ?hp (fun _ hk => hk) trivial (yH _ _) (yJ _) (by simp) ?_; (case hd => rfl); (case hg => rfl); (case hr => first | (go_simp; done) | (go_simp; rfl)); (case hp => exact (Reps.one (show Kd.M (Kd.int .u8) _ _ _ 92 [.int .u8 92] from rfl) (Reps.one (show Kd.M (Kd.int .u8) _ _ _ (bt a0 x9_1) [.int .u8 (bt a0 x9_1)] from rfl) (Reps.none _ _)))); intro v305 w20 ho21 hb hg_ hnew_; clear hg_ hnew_; (first | rw [← Ny304.out] at ho21 | (simp only [Int.reduceToNat] at ho21; rw [← Ny304.out] at ho21)); have n0_ := zA (Kd.R_elder' (by (with_reducible repeat (first | apply Kd.R_alloc | apply Kd.R_drewN | apply Kd.R_drew)); exact HO_3.out) (Kd.R_base ho21) hb); have n1_ := zA (Kd.R_lower (Kd.R_new' ho21 (Kd.R_lt (by (with_reducible repeat (first | apply Kd.R_alloc | apply Kd.R_drewN | apply Kd.R_drew)); exact HO_3.out))) (zQ apA)); have n2_ := zA (zP apA hb); clear HO_3; clear HB; have HO_3 := n0_; have HO306 := n1_; have HB := n2_; clear n0_ n1_ n2_; clear hb ho21; obtain ⟨Ao23, co23, eo23⟩ := Kd.R_slice HO306.out; subst eo23) | ((with_reducible refine gate_builtin (b := .append) (xs := #[.tmp 34, .tmp 36]) rfl ?_); at_builtin; refine Kd.R_append_rows (Kd.int .u8) (w0 := w) w.heap.size rfl (.tmp 34) (.tmp 36) 68 5 (.int .u8 0) 1 rfl Tryd.underlying68 info5 rfl (by decide) (by omega) u3 x3_1 y304 _ _ _ (fun k_ => some k_ ≠ (.slice Ao23 y304.length co23 : Value).ownBlock) (fun _ => False) rfl rfl ?aO ?aR (fun _ _ h => h) (fun _ h => h.elim) ?aF ?aB ?aS ?aL ?_; (case aR => repeat (first | exact (Kd.R_reads' HO306.out).2.2 | (with_reducible refine Kd.C_alloc ?_ _) | (with_reducible refine Kd.C_drewN ?_ _) | (with_reducible refine Kd.C_drew ?_))); (case aB => exact apA); (case aF => exact (fun k_ hk => Kd.fresh' (Kd.R_lt (by (with_reducible repeat (first | apply Kd.R_alloc | apply Kd.R_drewN | apply Kd.R_drew)); exact HO306.out)) k_ hk)); (case aO => exact (by (with_reducible repeat (first | apply Kd.R_alloc | apply Kd.R_drewN | apply Kd.R_drew)); exact Kd.R_mono HO_3.out (fun _ hk => hk.2))); (case aS => exact (zQ apA)); (case aL => have := LMc19.out; (first | omega | (simp only [ByteArray.size, List.size_toArray, List.length_cons, List.length_nil] at *; omega))); intro v308 w22 ho hb hg hat; rw [← Ny307.out] at ho; have n0_ := zA (Kd.R_after (ok := (fun _ => True)) (by (with_reducible repeat (first | apply Kd.R_alloc | apply Kd.R_drewN | apply Kd.R_drew)); exact HO306.out) hg hat); have n1_ := zA (hb); have n2_ := zA (ho); clear HO306; clear HB; clear HO_3; have HO306 := n0_; have HB := n1_; have HO309 := n2_; clear n0_ n1_ n2_; clear ho hb hg hat))
          go_roundg k1
          case measure => have := HK1.out; omega
          case rel => exact ⟨(y307), (wrap64 (x9_1 + 1)), apC, H', ⟨by have := HK1.out; omega⟩, ⟨by (with_reducible repeat (first | apply Kd.R_alloc | apply Kd.R_drewN | apply Kd.R_drew)); exact Kd.R_mono HO309.out (fun _ hk => trivial)⟩, ⟨apA⟩⟩
         ·rw [if_neg c19] at H
          exact absurd H (by simp)
        ·rw [if_neg c18] at H
         have c18b0 : ((bt a0 x9_1) == 92) = false := beq_eq_false_iff_ne.mpr c18
         have c18b1 : ((bt a0 x9_1) != 92) = true := bne_iff_ne.mpr c18
         replace H := Option.bind_eq_some_iff.mp H
         obtain ⟨t310, A240, H⟩ := H
         have A24 := zA A240
         clear A240
         by_cases c25 : 4 + t310.size ≤ 9223372036854775807
         ·rw [if_pos c25] at H
          have c25b0 := eq_true c25
          have c25b1 : decide (4 + t310.size ≤ 9223372036854775807) = true := yE c25
          try have c25b2 : (9223372036854775807 < 4 + t310.size) = False := eq_false (Nat.not_lt.2 c25)
          by_cases c26 : x3_1.length + ((⟨#[92, 117, 48, 48]⟩ : ByteArray) ++ t310).size < 140737488355328
          ·rw [if_pos c26] at H
           have LMc26 := zA c26
           clear c26
           obtain ⟨y311, hy311⟩ : ∃ y_ : List Int, y_ = (x3_1 ++ bytesOf ((⟨#[92, 117, 48, 48]⟩ : ByteArray) ++ t310)) := ⟨_, rfl⟩
           replace H : (impl_jsonText.l0 k1 a0 y311 (a0.size : Int) (wrap64 (x9_1 + 1))) = some r := by first | (rw [hy311]; with_reducible exact H) | (have H2_ := (Option.bind_some _ _).symm.trans H; rw [hy311]; with_reducible exact H2_) | (have H2_ := (Option.bind_some _ _).symm.trans H; with_reducible exact H2_) | with_reducible exact H | (rw [hy311]; exact H) | exact H
           have Ny311 := zA hy311
           clear hy311
           have H' := zA H
           clear H
           have p7 : 0 ≤ (x9_1 : Int) := yF apB
           have q7 : x9_1 < (a0.size : Int) := yF apB
           have hx7 := bt_at a0 x9_1
           replace p7 := eq_true p7
           replace q7 := eq_true q7
           go_wp2_with (first | ((with_reducible refine zT (f := 58) rfl ?_); refine goesL_ (some 22) rfl rfl Tryd.func58 (by kernel_rfl) rfl #[.int .u8 (bt a0 x9_1)] rfl apE ?_; (with_reducible refine (impl_plain.calls (bt a0 x9_1) false _ A8.out).mono ?_); rintro e w' ⟨rfl, ⟨nd, rfl⟩⟩; refine ⟨_, rfl, ?_⟩) | ((with_reducible refine zT (f := 59) rfl ?_); refine goesL_ (some 17) rfl rfl Tryd.func59 (by kernel_rfl) rfl #[.int .u8 (bt a0 x9_1)] rfl apE ?_; (with_reducible refine (impl_hex.calls (bt a0 x9_1) t310 _ A24.out).mono ?_); rintro e w' ⟨rfl, ⟨nd, rfl⟩⟩; refine ⟨_, rfl, ?_⟩) | (at_builtin; refine print_append_str (w0 := w) w.heap.size rfl (.tmp 15) _ 68 9 5 rfl Tryd.underlying68 Tryd.underlying9 info5 u3 x3_1 ((⟨#[92, 117, 48, 48]⟩ : ByteArray) ++ t310) rfl rfl ?aO ?aB ?aS ?aL ?_; (case aB => exact apA); (case aO => exact (Kd.own_of_R (by (with_reducible repeat (first | apply Kd.R_alloc | apply Kd.R_drewN | apply Kd.R_drew)); exact HO_3.out))); (case aS => exact (zQ apA)); (case aL => have := LMc26.out; (first | omega | (simp only [ByteArray.size, List.size_toArray, List.length_cons, List.length_nil] at *; omega))); intro v312 w27 ho0 hb hg; have ho := Kd.R_of_own (h1 := fun _ => rfl) (ok := fun _ => True) ho0 (fun _ _ => trivial); clear ho0; have hat := True.intro; rw [← Ny311.out] at ho; change Kd.R (Kd.int .u8) 5 w27 w.heap.size (fun _ => True) v312 y311 at ho; have n0_ := zA (hb); have n1_ := zA (ho); clear HB; clear HO_3; have HB := n0_; have HO313 := n1_; clear n0_ n1_; clear ho hb hg hat))
           go_roundg k1
           case measure => have := HK1.out; omega
           case rel => exact ⟨(y311), (wrap64 (x9_1 + 1)), apC, H', ⟨by have := HK1.out; omega⟩, ⟨by (with_reducible repeat (first | apply Kd.R_alloc | apply Kd.R_drewN | apply Kd.R_drew)); exact HO313.out⟩, ⟨apA⟩⟩
          ·rw [if_neg c26] at H
           exact absurd H (by simp)
         ·rw [if_neg c25] at H
          exact absurd H (by simp)
     ·rw [if_neg c6] at H
      exact absurd H (by simp)
    ·rw [if_neg c5] at H
     exact absurd H (by simp)
   ·rw [if_neg c4] at H
    have c4b0 : decide (x9_1 < (a0.size : Int)) = false := decide_eq_false c4
    clear c4
    by_cases c28 : x3_1.length < 140737488355328
    ·rw [if_pos c28] at H
     have LMc28 := zA c28
     clear c28
     obtain ⟨y291, hy291⟩ : ∃ y_ : List Int, y_ = (x3_1 ++ [34]) := ⟨_, rfl⟩
     replace H : (some (strOfNums y291)) = some r := by first | (rw [hy291]; with_reducible exact H) | (have H2_ := (Option.bind_some _ _).symm.trans H; rw [hy291]; with_reducible exact H2_) | (have H2_ := (Option.bind_some _ _).symm.trans H; with_reducible exact H2_) | with_reducible exact H | (rw [hy291]; exact H) | exact H
     have Ny291 := zA hy291
     clear hy291
     obtain rfl := yG H
     go_wp2_with (first | ((with_reducible refine gate_builtin (b := .append) (xs := #[.tmp 39, .tmp 40]) rfl ?_); at_builtin; refine Kd.R_append (Kd.int .u8) (w0 := w) w.heap.size rfl (.tmp 39) (.tmp 40) 68 5 (.int .u8 0) 1 rfl Tryd.underlying68 info5 rfl (by decide) (by omega) u3 x3_1 34 [.int .u8 34] (fun _ => True) (fun _ => False) rfl rfl ?aP (fun _ hk => hk.elim) ?aF ?aO ?aB ?aS ?aL ?_; (case aP => exact rfl); (case aB => exact apA); (case aF => exact (fun _ _ => trivial)); (case aO => exact (by (with_reducible repeat (first | apply Kd.R_alloc | apply Kd.R_drewN | apply Kd.R_drew)); exact HO_3.out)); (case aS => exact (zQ apA)); (case aL => have := LMc28.out; (first | omega | (simp only [ByteArray.size, List.size_toArray, List.length_cons, List.length_nil] at *; omega))); intro v292 w29 ho hb hg hat; rw [← Ny291.out] at ho; have n0_ := zA (hb); have n1_ := zA (ho); clear HB; clear HO_3; have HB := n0_; have HO293 := n1_; clear n0_ n1_; clear ho hb hg hat; have hcv30 := own_string (P := Tryd.prog) Tryd.underlying68 Tryd.underlying5 Tryd.underlying9 (Kd.own_of_R HO293.out)))
     go_ret
     exact ⟨apD, apA⟩
    ·rw [if_neg c28] at H
     exact absurd H (by simp)


mutual
def spec_l7Put.l0 : Nat → ByteArray → Int → Int → Int → Int → ByteArray → List (S34) → List ByteArray → Option (ByteArray)
 | 0, _, _, _, _, _, _, _, _ => none
 | k + 1, x3, x4, x215000, x215001, x215002, x215003, x215004, x215005 => if x4 < (x215004.length : Int) then (if x4 > 0 then (if x3.size + 1 ≤ 9223372036854775807 then (spec_l7Put.j1 k (x3 ++ (⟨#[44]⟩ : ByteArray)) x4 x215000 x215001 x215002 x215003 x215004 x215005) else (none)) else (spec_l7Put.j1 k x3 x4 x215000 x215001 x215002 x215003 x215004 x215005)) else (if x215000 = 6 then (if 1 + x3.size ≤ 9223372036854775807 then (if ((⟨#[123]⟩ : ByteArray) ++ x3).size + 1 ≤ 9223372036854775807 then (some (((⟨#[123]⟩ : ByteArray) ++ x3) ++ (⟨#[125]⟩ : ByteArray))) else (none)) else (none)) else (if 1 + x3.size ≤ 9223372036854775807 then (if ((⟨#[91]⟩ : ByteArray) ++ x3).size + 1 ≤ 9223372036854775807 then (some (((⟨#[91]⟩ : ByteArray) ++ x3) ++ (⟨#[93]⟩ : ByteArray))) else (none)) else (none)))
def spec_l7Put.j1 : Nat → ByteArray → Int → Int → Int → Int → ByteArray → List (S34) → List ByteArray → Option (ByteArray)
 | 0, _, _, _, _, _, _, _, _ => none
 | k + 1, x3, x4, x215000, x215001, x215002, x215003, x215004, x215005 => if x215000 = 6 then (if 0 ≤ x4 then (if x4 < (x215005.length : Int) then ((spec_l7Quote.f k (rdOf ByteArray.empty x215005 x4)).bind fun t218 => (if x3.size + t218.size ≤ 9223372036854775807 then (if (x3 ++ t218).size + 1 ≤ 9223372036854775807 then (if x4 < (x215004.length : Int) then ((spec_l7Put.f k ((rd_T34 x215004 x4).f0) ((rd_T34 x215004 x4).f1.f0) ((rd_T34 x215004 x4).f1.f1) ((rd_T34 x215004 x4).f2) ((rd_T34 x215004 x4).f3) ((rd_T34 x215004 x4).f4)).bind fun t220 => (if ((x3 ++ t218) ++ (⟨#[58]⟩ : ByteArray)).size + t220.size ≤ 9223372036854775807 then (spec_l7Put.l0 k (((x3 ++ t218) ++ (⟨#[58]⟩ : ByteArray)) ++ t220) (wrap64 (x4 + 1)) x215000 x215001 x215002 x215003 x215004 x215005) else (none))) else (none)) else (none)) else (none))) else (none)) else (none)) else (if 0 ≤ x4 then (if x4 < (x215004.length : Int) then ((spec_l7Put.f k ((rd_T34 x215004 x4).f0) ((rd_T34 x215004 x4).f1.f0) ((rd_T34 x215004 x4).f1.f1) ((rd_T34 x215004 x4).f2) ((rd_T34 x215004 x4).f3) ((rd_T34 x215004 x4).f4)).bind fun t222 => (if x3.size + t222.size ≤ 9223372036854775807 then (spec_l7Put.l0 k (x3 ++ t222) (wrap64 (x4 + 1)) x215000 x215001 x215002 x215003 x215004 x215005) else (none))) else (none)) else (none))
def spec_l7Put.f : Nat → Int → Int → Int → ByteArray → List (S34) → List ByteArray → Option (ByteArray)
 | 0, _, _, _, _, _, _ => none
 | k + 1, a0_0, a0_1, a0_2, a0_3, l0_4, l0_5 => if a0_0 = 0 then (some (⟨#[110, 117, 108, 108]⟩ : ByteArray)) else (if a0_0 = 1 then (some (⟨#[116, 114, 117, 101]⟩ : ByteArray)) else (if a0_0 = 2 then (some (⟨#[102, 97, 108, 115, 101]⟩ : ByteArray)) else (if a0_0 = 3 then ((spec_l1Text.f k a0_1 a0_2).bind fun t215 => (some t215)) else (if a0_0 = 4 then ((spec_l7Quote.f k a0_3).bind fun t216 => (some t216)) else (spec_l7Put.l0 k (⟨#[]⟩ : ByteArray) 0 a0_0 a0_1 a0_2 a0_3 l0_4 l0_5)))))
end
theorem spec_l7Put.mono_l : ∀ k, (∀ y0 y1 y2 y3 y4 y5, LeO (spec_l7Put.f k y0 y1 y2 y3 y4 y5) (spec_l7Put.f (k + 1) y0 y1 y2 y3 y4 y5)) ∧ (∀ y0 y1 y2 y3 y4 y5 y6 y7, LeO (spec_l7Put.l0 k y0 y1 y2 y3 y4 y5 y6 y7) (spec_l7Put.l0 (k + 1) y0 y1 y2 y3 y4 y5 y6 y7)) ∧ (∀ y0 y1 y2 y3 y4 y5 y6 y7, LeO (spec_l7Put.j1 k y0 y1 y2 y3 y4 y5 y6 y7) (spec_l7Put.j1 (k + 1) y0 y1 y2 y3 y4 y5 y6 y7))
 | 0 => ⟨fun _ _ _ _ _ _ r h => by simp [spec_l7Put.f] at h, fun _ _ _ _ _ _ _ _ r h => by simp [spec_l7Put.l0] at h, fun _ _ _ _ _ _ _ _ r h => by simp [spec_l7Put.j1] at h⟩
 | k + 1 => by
  obtain ⟨ih0, ih1, ih2⟩ := spec_l7Put.mono_l k
  refine ⟨?_, ?_, ?_⟩
  ·intro y0 y1 y2 y3 y4 y5
   unfold spec_l7Put.f
   repeat' first
   | (with_reducible exact ih0 _ _ _ _ _ _)
   | (with_reducible exact ih1 _ _ _ _ _ _ _ _)
   | (with_reducible exact ih2 _ _ _ _ _ _ _ _)
   | (with_reducible exact spec_l1Text.mono _ _ _)
   | (with_reducible exact spec_l7Quote.mono _ _)
   | (with_reducible exact LeO.refl _)
   | (with_reducible exact LeO.none _)
   | (with_reducible refine LeO.ite ?_ ?_)
   | (with_reducible refine LeO.bind ?_ (fun _ => ?_))
   | exact ih0 _ _ _ _ _ _
   | exact ih1 _ _ _ _ _ _ _ _
   | exact ih2 _ _ _ _ _ _ _ _
  ·intro y0 y1 y2 y3 y4 y5 y6 y7
   unfold spec_l7Put.l0
   repeat' first
   | (with_reducible exact ih0 _ _ _ _ _ _)
   | (with_reducible exact ih1 _ _ _ _ _ _ _ _)
   | (with_reducible exact ih2 _ _ _ _ _ _ _ _)
   | (with_reducible exact spec_l1Text.mono _ _ _)
   | (with_reducible exact spec_l7Quote.mono _ _)
   | (with_reducible exact LeO.refl _)
   | (with_reducible exact LeO.none _)
   | (with_reducible refine LeO.ite ?_ ?_)
   | (with_reducible refine LeO.bind ?_ (fun _ => ?_))
   | exact ih0 _ _ _ _ _ _
   | exact ih1 _ _ _ _ _ _ _ _
   | exact ih2 _ _ _ _ _ _ _ _
  ·intro y0 y1 y2 y3 y4 y5 y6 y7
   unfold spec_l7Put.j1
   repeat' first
   | (with_reducible exact ih0 _ _ _ _ _ _)
   | (with_reducible exact ih1 _ _ _ _ _ _ _ _)
   | (with_reducible exact ih2 _ _ _ _ _ _ _ _)
   | (with_reducible exact spec_l1Text.mono _ _ _)
   | (with_reducible exact spec_l7Quote.mono _ _)
   | (with_reducible exact LeO.refl _)
   | (with_reducible exact LeO.none _)
   | (with_reducible refine LeO.ite ?_ ?_)
   | (with_reducible refine LeO.bind ?_ (fun _ => ?_))
   | exact ih0 _ _ _ _ _ _
   | exact ih1 _ _ _ _ _ _ _ _
   | exact ih2 _ _ _ _ _ _ _ _
theorem spec_l7Put.mono : ∀ a0 a1 a2 a3 a4 a5 k, LeO (spec_l7Put.f k a0 a1 a2 a3 a4 a5) (spec_l7Put.f (k + 1) a0 a1 a2 a3 a4 a5) := by
 intro a0 a1 a2 a3 a4 a5 k
 obtain ⟨ih0, ih1, ih2⟩ := spec_l7Put.mono_l k
 exact ih0 a0 a1 a2 a3 a4 a5
set_option maxHeartbeats 8000000 in
set_option maxRecDepth 100000 in
theorem spec_l7Put.calls (k : Nat) : ∀ (a0_0 : Int) (a0_1 : Int) (a0_2 : Int) (a0_3 : ByteArray) (A0_4 : Option Addr) (c0_4 : Nat) (l0_4 : List (S34)) (A0_5 : Option Addr) (c0_5 : Nat) (l0_5 : List ByteArray) (r : ByteArray) (w : World) (hr0_4 : Kd.C k34 w A0_4 l0_4.length l0_4) (hc0_4 : l0_4.length ≤ c0_4) (hr0_5 : Kd.C Kd.string w A0_5 l0_5.length l0_5) (hc0_5 : l0_5.length ≤ c0_5) (h : spec_l7Put.f k a0_0 a0_1 a0_2 a0_3 l0_4 l0_5 = some r),
  Calls Tryd.prog 27 #[.agg #[.int .i64 a0_0, .int .i64 a0_1, .int .i64 a0_2, .string a0_3, .slice A0_4 l0_4.length c0_4, .slice A0_5 l0_5.length c0_5]] w fun e w' => e = .returned (.string r) ∧ Below w.heap.size w w' := by
 induction k using Nat.strongRecOn with
 | _ k ih =>
 intro a0_0 a0_1 a0_2 a0_3 A0_4 c0_4 l0_4 A0_5 c0_5 l0_5 r w hr0_4 hc0_4 hr0_5 hc0_5 h
 cases k with
 | zero => exact absurd h (by simp [spec_l7Put.f])
 | succ k =>
 simp only [spec_l7Put.f] at h
 have hu34 := Tryd.underlying34
 have hu31 := Tryd.underlying31
 have HR0_4 := zA hr0_4
 have HC0_4 := zA hc0_4
 clear hr0_4 hc0_4
 have HR0_5 := zA hr0_5
 have HC0_5 := zA hc0_5
 clear hr0_5 hc0_5
 have HB := zA (yH w.heap.size w)
 have H : (if a0_0 = 0 then (some (⟨#[110, 117, 108, 108]⟩ : ByteArray)) else (if a0_0 = 1 then (some (⟨#[116, 114, 117, 101]⟩ : ByteArray)) else (if a0_0 = 2 then (some (⟨#[102, 97, 108, 115, 101]⟩ : ByteArray)) else (if a0_0 = 3 then ((spec_l1Text.f k a0_1 a0_2).bind fun t215 => (some t215)) else (if a0_0 = 4 then ((spec_l7Quote.f k a0_3).bind fun t216 => (some t216)) else (spec_l7Put.l0 k (⟨#[]⟩ : ByteArray) 0 a0_0 a0_1 a0_2 a0_3 l0_4 l0_5)))))) = some r := h
 clear h
 by_cases c2 : a0_0 = 0
 ·rw [if_pos c2] at H
  have c2b0 : (a0_0 == 0) = true := beq_iff_eq.mpr c2
  have c2b1 : (a0_0 != 0) = false := bne_eq_false_iff_eq.mpr c2
  clear c2
  obtain rfl := yG H
  go_enter Tryd.func27, Tryd.ntmps27
  go_wp2_with (first | ((with_reducible refine zS (N := 1) rfl ?_); refine zW ?hg (N := 1) ?hd (cs := #[.int .i64 a0_0, .int .i64 a0_1, .int .i64 a0_2, .string a0_3, .slice A0_4 l0_4.length c0_4, .slice A0_5 l0_5.length c0_5]) (t := 34) ?hr ?_; (case hd => rfl); (case hg => rfl); (case hr => first | (go_simp; done) | (go_simp; rfl)); intro gb214 hg w3 hbox hb; have n0_ := zA (zP apA hb); have n1_ := zA (hbox); have n2_ := zA ((by rw [hg]; exact (zQ apA) : w.heap.size ≤ gb214)); have n3_ := zA ((by rw [hg]; exact (zQ apA) : w.heap.size ≤ gb214)); clear HB; have HB := n0_; have BK214 := n1_; have GW214 := n2_; have GE214 := n3_; clear n0_ n1_ n2_ n3_; clear hb hbox hg; obtain ⟨hcz4_0, hcz4_1, hcz4_2, hcz4_3, hcz4_4, hcz4_5, hfz4_0, hfz4_1, hfz4_2, hfz4_3, hfz4_4, hfz4_5⟩ := zb6 BK214.out))
  go_ret
  exact ⟨apD, apS⟩
 ·rw [if_neg c2] at H
  have c2b0 : (a0_0 == 0) = false := beq_eq_false_iff_ne.mpr c2
  have c2b1 : (a0_0 != 0) = true := bne_iff_ne.mpr c2
  by_cases c5 : a0_0 = 1
  ·rw [if_pos c5] at H
   have c5b0 : (a0_0 == 1) = true := beq_iff_eq.mpr c5
   have c5b1 : (a0_0 != 1) = false := bne_eq_false_iff_eq.mpr c5
   clear c5
   obtain rfl := yG H
   go_enter Tryd.func27, Tryd.ntmps27
   go_wp2_with (first | ((with_reducible refine zS (N := 1) rfl ?_); refine zW ?hg (N := 1) ?hd (cs := #[.int .i64 a0_0, .int .i64 a0_1, .int .i64 a0_2, .string a0_3, .slice A0_4 l0_4.length c0_4, .slice A0_5 l0_5.length c0_5]) (t := 34) ?hr ?_; (case hd => rfl); (case hg => rfl); (case hr => first | (go_simp; done) | (go_simp; rfl)); intro gb214 hg w6 hbox hb; have n0_ := zA (zP apA hb); have n1_ := zA (hbox); have n2_ := zA ((by rw [hg]; exact (zQ apA) : w.heap.size ≤ gb214)); have n3_ := zA ((by rw [hg]; exact (zQ apA) : w.heap.size ≤ gb214)); clear HB; have HB := n0_; have BK214 := n1_; have GW214 := n2_; have GE214 := n3_; clear n0_ n1_ n2_ n3_; clear hb hbox hg; obtain ⟨hcz7_0, hcz7_1, hcz7_2, hcz7_3, hcz7_4, hcz7_5, hfz7_0, hfz7_1, hfz7_2, hfz7_3, hfz7_4, hfz7_5⟩ := zb6 BK214.out))
   go_ret
   exact ⟨apD, apS⟩
  ·rw [if_neg c5] at H
   have c5b0 : (a0_0 == 1) = false := beq_eq_false_iff_ne.mpr c5
   have c5b1 : (a0_0 != 1) = true := bne_iff_ne.mpr c5
   by_cases c8 : a0_0 = 2
   ·rw [if_pos c8] at H
    have c8b0 : (a0_0 == 2) = true := beq_iff_eq.mpr c8
    have c8b1 : (a0_0 != 2) = false := bne_eq_false_iff_eq.mpr c8
    clear c8
    obtain rfl := yG H
    go_enter Tryd.func27, Tryd.ntmps27
    go_wp2_with (first | ((with_reducible refine zS (N := 1) rfl ?_); refine zW ?hg (N := 1) ?hd (cs := #[.int .i64 a0_0, .int .i64 a0_1, .int .i64 a0_2, .string a0_3, .slice A0_4 l0_4.length c0_4, .slice A0_5 l0_5.length c0_5]) (t := 34) ?hr ?_; (case hd => rfl); (case hg => rfl); (case hr => first | (go_simp; done) | (go_simp; rfl)); intro gb214 hg w9 hbox hb; have n0_ := zA (zP apA hb); have n1_ := zA (hbox); have n2_ := zA ((by rw [hg]; exact (zQ apA) : w.heap.size ≤ gb214)); have n3_ := zA ((by rw [hg]; exact (zQ apA) : w.heap.size ≤ gb214)); clear HB; have HB := n0_; have BK214 := n1_; have GW214 := n2_; have GE214 := n3_; clear n0_ n1_ n2_ n3_; clear hb hbox hg; obtain ⟨hcz10_0, hcz10_1, hcz10_2, hcz10_3, hcz10_4, hcz10_5, hfz10_0, hfz10_1, hfz10_2, hfz10_3, hfz10_4, hfz10_5⟩ := zb6 BK214.out))
    go_ret
    exact ⟨apD, apS⟩
   ·rw [if_neg c8] at H
    have c8b0 : (a0_0 == 2) = false := beq_eq_false_iff_ne.mpr c8
    have c8b1 : (a0_0 != 2) = true := bne_iff_ne.mpr c8
    by_cases c11 : a0_0 = 3
    ·rw [if_pos c11] at H
     have c11b0 : (a0_0 == 3) = true := beq_iff_eq.mpr c11
     have c11b1 : (a0_0 != 3) = false := bne_eq_false_iff_eq.mpr c11
     clear c11
     replace H := Option.bind_eq_some_iff.mp H
     obtain ⟨t215, A120, H⟩ := H
     have A12 := zA A120
     clear A120
     obtain rfl := yG H
     go_enter Tryd.func27, Tryd.ntmps27
     go_wp2_with (first | ((with_reducible refine zS (N := 1) rfl ?_); refine zW ?hg (N := 1) ?hd (cs := #[.int .i64 a0_0, .int .i64 a0_1, .int .i64 a0_2, .string a0_3, .slice A0_4 l0_4.length c0_4, .slice A0_5 l0_5.length c0_5]) (t := 34) ?hr ?_; (case hd => rfl); (case hg => rfl); (case hr => first | (go_simp; done) | (go_simp; rfl)); intro gb214 hg w13 hbox hb; have n0_ := zA (zP apA hb); have n1_ := zA (hbox); have n2_ := zA ((by rw [hg]; exact (zQ apA) : w.heap.size ≤ gb214)); have n3_ := zA ((by rw [hg]; exact (zQ apA) : w.heap.size ≤ gb214)); clear HB; have HB := n0_; have BK214 := n1_; have GW214 := n2_; have GE214 := n3_; clear n0_ n1_ n2_ n3_; clear hb hbox hg; obtain ⟨hcz14_0, hcz14_1, hcz14_2, hcz14_3, hcz14_4, hcz14_5, hfz14_0, hfz14_1, hfz14_2, hfz14_3, hfz14_4, hfz14_5⟩ := zb6 BK214.out) | ((with_reducible refine zT (f := 35) rfl ?_); refine goesL_ (some 17) rfl rfl Tryd.func35 (by kernel_rfl) rfl #[.agg #[.int .i64 a0_1, .int .i64 a0_2]] rfl apE ?_; (with_reducible refine (spec_l1Text.calls k a0_1 a0_2 t215 _ A12.out).mono ?_); rintro e w15 ⟨rfl, hb⟩; refine ⟨_, rfl, ?_⟩; have n0_ := zA (zP apA hb); clear HB; have HB := n0_; clear n0_; (try clear hb); (try clear hb2); (try clear hk); (try clear hi)))
     go_ret
     exact ⟨apD, apA⟩
    ·rw [if_neg c11] at H
     have c11b0 : (a0_0 == 3) = false := beq_eq_false_iff_ne.mpr c11
     have c11b1 : (a0_0 != 3) = true := bne_iff_ne.mpr c11
     by_cases c16 : a0_0 = 4
     ·rw [if_pos c16] at H
      have c16b0 : (a0_0 == 4) = true := beq_iff_eq.mpr c16
      have c16b1 : (a0_0 != 4) = false := bne_eq_false_iff_eq.mpr c16
      clear c16
      replace H := Option.bind_eq_some_iff.mp H
      obtain ⟨t216, A170, H⟩ := H
      have A17 := zA A170
      clear A170
      obtain rfl := yG H
      go_enter Tryd.func27, Tryd.ntmps27
      go_wp2_with (first | ((with_reducible refine zS (N := 1) rfl ?_); refine zW ?hg (N := 1) ?hd (cs := #[.int .i64 a0_0, .int .i64 a0_1, .int .i64 a0_2, .string a0_3, .slice A0_4 l0_4.length c0_4, .slice A0_5 l0_5.length c0_5]) (t := 34) ?hr ?_; (case hd => rfl); (case hg => rfl); (case hr => first | (go_simp; done) | (go_simp; rfl)); intro gb214 hg w18 hbox hb; have n0_ := zA (zP apA hb); have n1_ := zA (hbox); have n2_ := zA ((by rw [hg]; exact (zQ apA) : w.heap.size ≤ gb214)); have n3_ := zA ((by rw [hg]; exact (zQ apA) : w.heap.size ≤ gb214)); clear HB; have HB := n0_; have BK214 := n1_; have GW214 := n2_; have GE214 := n3_; clear n0_ n1_ n2_ n3_; clear hb hbox hg; obtain ⟨hcz19_0, hcz19_1, hcz19_2, hcz19_3, hcz19_4, hcz19_5, hfz19_0, hfz19_1, hfz19_2, hfz19_3, hfz19_4, hfz19_5⟩ := zb6 BK214.out) | ((with_reducible refine zT (f := 36) rfl ?_); refine goesL_ (some 22) rfl rfl Tryd.func36 (by kernel_rfl) rfl #[.string a0_3] rfl apE ?_; (with_reducible refine (spec_l7Quote.calls k a0_3 t216 _ A17.out).mono ?_); rintro e w20 ⟨rfl, hb⟩; refine ⟨_, rfl, ?_⟩; have n0_ := zA (zP apA hb); clear HB; have HB := n0_; clear n0_; (try clear hb); (try clear hb2); (try clear hk); (try clear hi)))
      go_ret
      exact ⟨apD, apA⟩
     ·rw [if_neg c16] at H
      have c16b0 : (a0_0 == 4) = false := beq_eq_false_iff_ne.mpr c16
      have c16b1 : (a0_0 != 4) = true := bne_iff_ne.mpr c16
      have H' := zA H
      clear H
      go_enter Tryd.func27, Tryd.ntmps27
      go_wp2_with (first | ((with_reducible refine zS (N := 1) rfl ?_); refine zW ?hg (N := 1) ?hd (cs := #[.int .i64 a0_0, .int .i64 a0_1, .int .i64 a0_2, .string a0_3, .slice A0_4 l0_4.length c0_4, .slice A0_5 l0_5.length c0_5]) (t := 34) ?hr ?_; (case hd => rfl); (case hg => rfl); (case hr => first | (go_simp; done) | (go_simp; rfl)); intro gb214 hg w21 hbox hb; have n0_ := zA (zP apA hb); have n1_ := zA (hbox); have n2_ := zA ((by rw [hg]; exact (zQ apA) : w.heap.size ≤ gb214)); have n3_ := zA ((by rw [hg]; exact (zQ apA) : w.heap.size ≤ gb214)); clear HB; have HB := n0_; have BK214 := n1_; have GW214 := n2_; have GE214 := n3_; clear n0_ n1_ n2_ n3_; clear hb hbox hg; obtain ⟨hcz22_0, hcz22_1, hcz22_2, hcz22_3, hcz22_4, hcz22_5, hfz22_0, hfz22_1, hfz22_2, hfz22_3, hfz22_4, hfz22_5⟩ := zb6 BK214.out))
      go_loopg [3, 4] k (fun kq v3 v4 w' => ∃ (x3_1 : ByteArray) (x4_1 : Int), v3 = .string x3_1 ∧ v4 = .int .i64 x4_1 ∧ Aside0 (spec_l7Put.l0 kq x3_1 x4_1 a0_0 a0_1 a0_2 a0_3 l0_4 l0_5 = some r) ∧ Aside0 (kq ≤ k) ∧ Aside0 (w'.heap[gb214]? = some (.cells #[.int .i64 a0_0, .int .i64 a0_1, .int .i64 a0_2, .string a0_3, (.slice A0_4 l0_4.length c0_4), (.slice A0_5 l0_5.length c0_5)] 34 (0, 0))) ∧ Aside0 (Below w.heap.size w w'))
      case atStart => exact ⟨((⟨#[]⟩ : ByteArray)), (0), apC, apC, H', ⟨yJ _⟩, ⟨by (with_reducible repeat (first | refine zB ?_ _ | refine zD ?_ | refine zC ?_ _)); exact BK214.out⟩, ⟨apS⟩⟩
      case round =>
       clear H'
       try clear c1 c2 c2b0 c2b1 p2 c3 c5 c5b0 c5b1 c8 c8b0 c8b1 c11 c11b0 c11b1 c16 c16b0 c16b1 hcz10_0 hcz10_1 hcz10_2 hcz10_3 hcz10_4 hcz10_5 hcz14_0 hcz14_1 hcz14_2 hcz14_3 hcz14_4 hcz14_5 hcz19_0 hcz19_1 hcz19_2 hcz19_3 hcz19_4 hcz19_5 hcz22_0 hcz22_1 hcz22_2 hcz22_3 hcz22_4 hcz22_5 hcz4_0 hcz4_1 hcz4_2 hcz4_3 hcz4_4 hcz4_5 hcz7_0 hcz7_1 hcz7_2 hcz7_3 hcz7_4 hcz7_5 hfz10_0 hfz10_1 hfz10_2 hfz10_3 hfz10_4 hfz10_5 hfz14_0 hfz14_1 hfz14_2 hfz14_3 hfz14_4 hfz14_5 hfz19_0 hfz19_1 hfz19_2 hfz19_3 hfz19_4 hfz19_5 hfz22_0 hfz22_1 hfz22_2 hfz22_3 hfz22_4 hfz22_5 hfz4_0 hfz4_1 hfz4_2 hfz4_3 hfz4_4 hfz4_5 hfz7_0 hfz7_1 hfz7_2 hfz7_3 hfz7_4 hfz7_5
       obtain ⟨x3_1, x4_1, rfl, rfl, HA, HK1, BK214, HB⟩ := hrel
       cases gk with
       | zero => exact absurd HA.out (by simp [spec_l7Put.l0])
       | succ k1 =>
        have H := HA.out
        clear HA
        simp only [spec_l7Put.l0] at H
        by_cases c23 : x4_1 < (l0_4.length : Int)
        ·rw [if_pos c23] at H
         have c23b0 : decide (x4_1 < (l0_4.length : Int)) = true := yE c23
         clear c23
         have HC24 := zA H
         clear H
         obtain ⟨hcz25_0, hcz25_1, hcz25_2, hcz25_3, hcz25_4, hcz25_5, hfz25_0, hfz25_1, hfz25_2, hfz25_3, hfz25_4, hfz25_5⟩ := zb6 BK214.out
         go_upto_if 31 with (fail)
         go_cut [3] (fun v3 wc => ∃ (kq : Nat) (x3_23 : ByteArray), v3 = .string x3_23 ∧ Aside0 (spec_l7Put.j1 kq x3_23 x4_1 a0_0 a0_1 a0_2 a0_3 l0_4 l0_5 = some r) ∧ Aside0 (kq ≤ k1) ∧ Aside0 (wc.heap[gb214]? = some (.cells #[.int .i64 a0_0, .int .i64 a0_1, .int .i64 a0_2, .string a0_3, (.slice A0_4 l0_4.length c0_4), (.slice A0_5 l0_5.length c0_5)] 34 (0, 0))) ∧ Aside0 (Below w.heap.size w wc))
         case first =>
          have H := HC24.out
          clear HC24
          by_cases c26 : x4_1 > 0
          ·rw [if_pos c26] at H
           have c26b0 : decide (0 < x4_1) = true := yE c26
           clear c26
           (first | rw [c26b0] | (simp only [i64_w, i32_w]; rw [c26b0]) | skip)
           by_cases c27 : x3_1.size + 1 ≤ 9223372036854775807
           ·rw [if_pos c27] at H
            have c27b0 := eq_true c27
            have c27b1 : decide (x3_1.size + 1 ≤ 9223372036854775807) = true := yE c27
            try have c27b2 : (9223372036854775807 < x3_1.size + 1) = False := eq_false (Nat.not_lt.2 c27)
            have H' := zA H
            clear H
            go_wp2
            go_meet
            case rel => exact ⟨_, (x3_1 ++ (⟨#[44]⟩ : ByteArray)), apC, H', ⟨by have := HK1.out; first | omega | exact yJ _⟩, ⟨by (with_reducible repeat (first | refine zB ?_ _ | refine zD ?_ | refine zC ?_ _)); exact BK214.out⟩, ⟨apS⟩⟩
           ·rw [if_neg c27] at H
            exact absurd H (by simp)
          ·rw [if_neg c26] at H
           have c26b0 : decide (0 < x4_1) = false := decide_eq_false c26
           clear c26
           (first | rw [c26b0] | (simp only [i64_w, i32_w]; rw [c26b0]) | skip)
           have H' := zA H
           clear H
           go_wp2
           go_meet
           case rel => exact ⟨_, (x3_1), apC, H', ⟨by have := HK1.out; first | omega | exact yJ _⟩, ⟨by (with_reducible repeat (first | refine zB ?_ _ | refine zD ?_ | refine zC ?_ _)); exact BK214.out⟩, ⟨apS⟩⟩
         case rest =>
          clear HC24
          try clear c1 c2 c2b0 c2b1 p2 c3 c5 c5b0 c5b1 c8 c8b0 c8b1 c11 c11b0 c11b1 c16 c16b0 c16b1 c23 c23b0 c26 c26b0 c27 c27b0 c27b1 c27b2 hcz10_0 hcz10_1 hcz10_2 hcz10_3 hcz10_4 hcz10_5 hcz14_0 hcz14_1 hcz14_2 hcz14_3 hcz14_4 hcz14_5 hcz19_0 hcz19_1 hcz19_2 hcz19_3 hcz19_4 hcz19_5 hcz22_0 hcz22_1 hcz22_2 hcz22_3 hcz22_4 hcz22_5 hcz25_0 hcz25_1 hcz25_2 hcz25_3 hcz25_4 hcz25_5 hcz4_0 hcz4_1 hcz4_2 hcz4_3 hcz4_4 hcz4_5 hcz7_0 hcz7_1 hcz7_2 hcz7_3 hcz7_4 hcz7_5 hfz10_0 hfz10_1 hfz10_2 hfz10_3 hfz10_4 hfz10_5 hfz14_0 hfz14_1 hfz14_2 hfz14_3 hfz14_4 hfz14_5 hfz19_0 hfz19_1 hfz19_2 hfz19_3 hfz19_4 hfz19_5 hfz22_0 hfz22_1 hfz22_2 hfz22_3 hfz22_4 hfz22_5 hfz25_0 hfz25_1 hfz25_2 hfz25_3 hfz25_4 hfz25_5 hfz4_0 hfz4_1 hfz4_2 hfz4_3 hfz4_4 hfz4_5 hfz7_0 hfz7_1 hfz7_2 hfz7_3 hfz7_4 hfz7_5 p2
          obtain ⟨kq, x3_23, rfl, HA, HJ23, BK214, HB⟩ := hcut
          cases kq with
          | zero => exact absurd HA.out (by simp [spec_l7Put.j1])
          | succ kj23 =>
           have H := HA.out
           clear HA
           simp only [spec_l7Put.j1] at H
           by_cases c28 : a0_0 = 6
           ·rw [if_pos c28] at H
            have c28b0 : (a0_0 == 6) = true := beq_iff_eq.mpr c28
            have c28b1 : (a0_0 != 6) = false := bne_eq_false_iff_eq.mpr c28
            clear c28
            by_cases c29 : 0 ≤ x4_1
            ·rw [if_pos c29] at H
             have c29b0 : decide (0 ≤ x4_1) = true := yE c29
             clear c29
             by_cases c30 : x4_1 < (l0_5.length : Int)
             ·rw [if_pos c30] at H
              have c30b0 : decide (x4_1 < (l0_5.length : Int)) = true := yE c30
              clear c30
              replace H := Option.bind_eq_some_iff.mp H
              obtain ⟨t218, A310, H⟩ := H
              have A31 := zA A310
              clear A310
              by_cases c32 : x3_23.size + t218.size ≤ 9223372036854775807
              ·rw [if_pos c32] at H
               have c32b0 := eq_true c32
               have c32b1 : decide (x3_23.size + t218.size ≤ 9223372036854775807) = true := yE c32
               try have c32b2 : (9223372036854775807 < x3_23.size + t218.size) = False := eq_false (Nat.not_lt.2 c32)
               by_cases c33 : (x3_23 ++ t218).size + 1 ≤ 9223372036854775807
               ·rw [if_pos c33] at H
                have c33b0 := eq_true c33
                have c33b1 : decide ((x3_23 ++ t218).size + 1 ≤ 9223372036854775807) = true := yE c33
                try have c33b2 : (9223372036854775807 < (x3_23 ++ t218).size + 1) = False := eq_false (Nat.not_lt.2 c33)
                try simp only [ByteArray.size_append] at c33b2
                by_cases c34 : x4_1 < (l0_4.length : Int)
                ·rw [if_pos c34] at H
                 have c34b0 : decide (x4_1 < (l0_4.length : Int)) = true := yE c34
                 clear c34
                 replace H := Option.bind_eq_some_iff.mp H
                 obtain ⟨t220, A350, H⟩ := H
                 have A35 := zA A350
                 clear A350
                 by_cases c36 : ((x3_23 ++ t218) ++ (⟨#[58]⟩ : ByteArray)).size + t220.size ≤ 9223372036854775807
                 ·rw [if_pos c36] at H
                  (try (have c36b9 := eq_true c36; simp only [ByteArray.size_append, Int.natCast_add, show ((⟨#[58]⟩ : ByteArray)).size = 1 from rfl] at c36b9))
                  (try (have c36b8 := eq_false (Nat.not_lt.2 c36); simp only [ByteArray.size_append, show ((⟨#[58]⟩ : ByteArray)).size = 1 from rfl] at c36b8))
                  have c36b0 := eq_true c36
                  have c36b1 : decide (((x3_23 ++ t218) ++ (⟨#[58]⟩ : ByteArray)).size + t220.size ≤ 9223372036854775807) = true := yE c36
                  try have c36b2 : (9223372036854775807 < ((x3_23 ++ t218) ++ (⟨#[58]⟩ : ByteArray)).size + t220.size) = False := eq_false (Nat.not_lt.2 c36)
                  try simp only [ByteArray.size_append] at c36b2
                  have H' := zA H
                  clear H
                  obtain ⟨hcz37_0, hcz37_1, hcz37_2, hcz37_3, hcz37_4, hcz37_5, hfz37_0, hfz37_1, hfz37_2, hfz37_3, hfz37_4, hfz37_5⟩ := zb6 BK214.out
                  have p217 : 0 ≤ (x4_1 : Int) := yF apB
                  have q217 : x4_1 < (l0_5.length : Int) := yF apB
                  obtain ⟨ad217, e217, hx217_0⟩ := Kd.at_string HR0_5.out x4_1 p217 q217
                  cases e217
                  replace hx217_0 := (HB.out.cell (zR w _ hx217_0)).trans hx217_0
                  replace p217 := eq_true p217
                  replace q217 := eq_true q217
                  go_wp2_with (first | ((with_reducible refine zT (f := 36) rfl ?_); refine goesL_ (some 43) rfl rfl Tryd.func36 (by kernel_rfl) rfl #[.string (rdOf ByteArray.empty l0_5 x4_1)] rfl apE ?_; (with_reducible refine (spec_l7Quote.calls kj23 (rdOf ByteArray.empty l0_5 x4_1) t218 _ A31.out).mono ?_); rintro e w38 ⟨rfl, hb⟩; refine ⟨_, rfl, ?_⟩; have n0_ := zA (zN (g := gb214) (o := .cells #[.int .i64 a0_0, .int .i64 a0_1, .int .i64 a0_2, .string a0_3, .slice A0_4 l0_4.length c0_4, .slice (some ad217) l0_5.length c0_5] 34 (0, 0)) (by (with_reducible repeat (first | refine zB ?_ _ | refine zD ?_ | refine zC ?_ _)); exact BK214.out) hb); have n1_ := zA (zP apS hb); clear BK214; clear HB; have BK214 := n0_; have HB := n1_; clear n0_ n1_; (try clear hb); (try clear hb2); (try clear hk); (try clear hi); obtain ⟨hcz39_0, hcz39_1, hcz39_2, hcz39_3, hcz39_4, hcz39_5, hfz39_0, hfz39_1, hfz39_2, hfz39_3, hfz39_4, hfz39_5⟩ := zb6 BK214.out; have p219 : 0 ≤ (x4_1 : Int) := yF apB; have q219 : x4_1 < (l0_4.length : Int) := yF apB; obtain ⟨ad219, A219_4, c219_4, A219_5, c219_5, e219, hx219_0, hx219_1, hx219_2, hx219_3, hx219_4, hx219_5, hl219_4, hi219_4, hl219_5, hi219_5⟩ := at_T34 HR0_4.out x4_1 p219 q219; cases e219; replace hx219_0 := (HB.out.cell (zR w _ hx219_0)).trans hx219_0; replace hx219_1 := (HB.out.cell (zR w _ hx219_1)).trans hx219_1; replace hx219_2 := (HB.out.cell (zR w _ hx219_2)).trans hx219_2; replace hx219_3 := (HB.out.cell (zR w _ hx219_3)).trans hx219_3; replace hx219_4 := (HB.out.cell (zR w _ hx219_4)).trans hx219_4; replace hx219_5 := (HB.out.cell (zR w _ hx219_5)).trans hx219_5; have HR219_4 := zA hi219_4; have HC219_4 := zA hl219_4; clear hi219_4 hl219_4; have HR219_5 := zA hi219_5; have HC219_5 := zA hl219_5; clear hi219_5 hl219_5; replace p219 := eq_true p219; replace q219 := eq_true q219) | ((with_reducible refine zT (f := 27) rfl ?_); refine goesL_ (some 52) rfl rfl Tryd.func27 (by kernel_rfl) rfl #[.agg #[.int .i64 ((rd_T34 l0_4 x4_1).f0), .int .i64 ((rd_T34 l0_4 x4_1).f1.f0), .int .i64 ((rd_T34 l0_4 x4_1).f1.f1), .string ((rd_T34 l0_4 x4_1).f2), .slice A219_4 ((rd_T34 l0_4 x4_1).f3).length c219_4, .slice A219_5 ((rd_T34 l0_4 x4_1).f4).length c219_5]] rfl apE ?_; (with_reducible refine (ih kj23 (by have := HK1.out; have := HJ23.out; omega) ((rd_T34 l0_4 x4_1).f0) ((rd_T34 l0_4 x4_1).f1.f0) ((rd_T34 l0_4 x4_1).f1.f1) ((rd_T34 l0_4 x4_1).f2) _ _ ((rd_T34 l0_4 x4_1).f3) _ _ ((rd_T34 l0_4 x4_1).f4) t220 _ ?side1 ?side2 ?side3 ?side4 A35.out).mono ?_); (case side1 => repeat (first | exact (Kd.C_below HR219_4.out HB.out) | (with_reducible refine Kd.C_alloc ?_ _) | (with_reducible refine Kd.C_drewN ?_ _) | (with_reducible refine Kd.C_drew ?_))); (case side2 => exact HC219_4.out); (case side3 => repeat (first | exact (Kd.C_below HR219_5.out HB.out) | (with_reducible refine Kd.C_alloc ?_ _) | (with_reducible refine Kd.C_drewN ?_ _) | (with_reducible refine Kd.C_drew ?_))); (case side4 => exact HC219_5.out); rintro e w40 ⟨rfl, hb⟩; refine ⟨_, rfl, ?_⟩; have n0_ := zA (zN (g := gb214) (o := .cells #[.int .i64 a0_0, .int .i64 a0_1, .int .i64 a0_2, .string a0_3, .slice (some ad219) l0_4.length c0_4, .slice (some ad217) l0_5.length c0_5] 34 (0, 0)) (by (with_reducible repeat (first | refine zB ?_ _ | refine zD ?_ | refine zC ?_ _)); exact BK214.out) hb); have n1_ := zA (zP apS hb); clear BK214; clear HB; have BK214 := n0_; have HB := n1_; clear n0_ n1_; (try clear hb); (try clear hb2); (try clear hk); (try clear hi)))
                  go_roundg kj23
                  case measure => have := HK1.out; have := HJ23.out; omega
                  case rel => exact ⟨(((x3_23 ++ t218) ++ (⟨#[58]⟩ : ByteArray)) ++ t220), (wrap64 (x4_1 + 1)), apC, apC, H', ⟨by have := HK1.out; have := HJ23.out; omega⟩, ⟨by (with_reducible repeat (first | refine zB ?_ _ | refine zD ?_ | refine zC ?_ _)); exact BK214.out⟩, ⟨apS⟩⟩
                 ·rw [if_neg c36] at H
                  exact absurd H (by simp)
                ·rw [if_neg c34] at H
                 exact absurd H (by simp)
               ·rw [if_neg c33] at H
                exact absurd H (by simp)
              ·rw [if_neg c32] at H
               exact absurd H (by simp)
             ·rw [if_neg c30] at H
              exact absurd H (by simp)
            ·rw [if_neg c29] at H
             exact absurd H (by simp)
           ·rw [if_neg c28] at H
            have c28b0 : (a0_0 == 6) = false := beq_eq_false_iff_ne.mpr c28
            have c28b1 : (a0_0 != 6) = true := bne_iff_ne.mpr c28
            by_cases c41 : 0 ≤ x4_1
            ·rw [if_pos c41] at H
             have c41b0 : decide (0 ≤ x4_1) = true := yE c41
             clear c41
             by_cases c42 : x4_1 < (l0_4.length : Int)
             ·rw [if_pos c42] at H
              have c42b0 : decide (x4_1 < (l0_4.length : Int)) = true := yE c42
              clear c42
              replace H := Option.bind_eq_some_iff.mp H
              obtain ⟨t222, A430, H⟩ := H
              have A43 := zA A430
              clear A430
              by_cases c44 : x3_23.size + t222.size ≤ 9223372036854775807
              ·rw [if_pos c44] at H
               have c44b0 := eq_true c44
               have c44b1 : decide (x3_23.size + t222.size ≤ 9223372036854775807) = true := yE c44
               try have c44b2 : (9223372036854775807 < x3_23.size + t222.size) = False := eq_false (Nat.not_lt.2 c44)
               have H' := zA H
               clear H
               obtain ⟨hcz45_0, hcz45_1, hcz45_2, hcz45_3, hcz45_4, hcz45_5, hfz45_0, hfz45_1, hfz45_2, hfz45_3, hfz45_4, hfz45_5⟩ := zb6 BK214.out
               have p221 : 0 ≤ (x4_1 : Int) := yF apB
               have q221 : x4_1 < (l0_4.length : Int) := yF apB
               obtain ⟨ad221, A221_4, c221_4, A221_5, c221_5, e221, hx221_0, hx221_1, hx221_2, hx221_3, hx221_4, hx221_5, hl221_4, hi221_4, hl221_5, hi221_5⟩ := at_T34 HR0_4.out x4_1 p221 q221
               cases e221
               replace hx221_0 := (HB.out.cell (zR w _ hx221_0)).trans hx221_0
               replace hx221_1 := (HB.out.cell (zR w _ hx221_1)).trans hx221_1
               replace hx221_2 := (HB.out.cell (zR w _ hx221_2)).trans hx221_2
               replace hx221_3 := (HB.out.cell (zR w _ hx221_3)).trans hx221_3
               replace hx221_4 := (HB.out.cell (zR w _ hx221_4)).trans hx221_4
               replace hx221_5 := (HB.out.cell (zR w _ hx221_5)).trans hx221_5
               have HR221_4 := zA hi221_4
               have HC221_4 := zA hl221_4
               clear hi221_4 hl221_4
               have HR221_5 := zA hi221_5
               have HC221_5 := zA hl221_5
               clear hi221_5 hl221_5
               replace p221 := eq_true p221
               replace q221 := eq_true q221
               go_wp2_with (first | ((with_reducible refine zT (f := 27) rfl ?_); refine goesL_ (some 52) rfl rfl Tryd.func27 (by kernel_rfl) rfl #[.agg #[.int .i64 ((rd_T34 l0_4 x4_1).f0), .int .i64 ((rd_T34 l0_4 x4_1).f1.f0), .int .i64 ((rd_T34 l0_4 x4_1).f1.f1), .string ((rd_T34 l0_4 x4_1).f2), .slice A221_4 ((rd_T34 l0_4 x4_1).f3).length c221_4, .slice A221_5 ((rd_T34 l0_4 x4_1).f4).length c221_5]] rfl apE ?_; (with_reducible refine (ih kj23 (by have := HK1.out; have := HJ23.out; omega) ((rd_T34 l0_4 x4_1).f0) ((rd_T34 l0_4 x4_1).f1.f0) ((rd_T34 l0_4 x4_1).f1.f1) ((rd_T34 l0_4 x4_1).f2) _ _ ((rd_T34 l0_4 x4_1).f3) _ _ ((rd_T34 l0_4 x4_1).f4) t222 _ ?side1 ?side2 ?side3 ?side4 A43.out).mono ?_); (case side1 => repeat (first | exact (Kd.C_below HR221_4.out HB.out) | (with_reducible refine Kd.C_alloc ?_ _) | (with_reducible refine Kd.C_drewN ?_ _) | (with_reducible refine Kd.C_drew ?_))); (case side2 => exact HC221_4.out); (case side3 => repeat (first | exact (Kd.C_below HR221_5.out HB.out) | (with_reducible refine Kd.C_alloc ?_ _) | (with_reducible refine Kd.C_drewN ?_ _) | (with_reducible refine Kd.C_drew ?_))); (case side4 => exact HC221_5.out); rintro e w46 ⟨rfl, hb⟩; refine ⟨_, rfl, ?_⟩; have n0_ := zA (zN (g := gb214) (o := .cells #[.int .i64 a0_0, .int .i64 a0_1, .int .i64 a0_2, .string a0_3, .slice (some ad221) l0_4.length c0_4, .slice A0_5 l0_5.length c0_5] 34 (0, 0)) (by (with_reducible repeat (first | refine zB ?_ _ | refine zD ?_ | refine zC ?_ _)); exact BK214.out) hb); have n1_ := zA (zP apS hb); clear BK214; clear HB; have BK214 := n0_; have HB := n1_; clear n0_ n1_; (try clear hb); (try clear hb2); (try clear hk); (try clear hi)))
               go_roundg kj23
               case measure => have := HK1.out; have := HJ23.out; omega
               case rel => exact ⟨(x3_23 ++ t222), (wrap64 (x4_1 + 1)), apC, apC, H', ⟨by have := HK1.out; have := HJ23.out; omega⟩, ⟨by (with_reducible repeat (first | refine zB ?_ _ | refine zD ?_ | refine zC ?_ _)); exact BK214.out⟩, ⟨apS⟩⟩
              ·rw [if_neg c44] at H
               exact absurd H (by simp)
             ·rw [if_neg c42] at H
              exact absurd H (by simp)
            ·rw [if_neg c41] at H
             exact absurd H (by simp)
        ·rw [if_neg c23] at H
         have c23b0 : decide (x4_1 < (l0_4.length : Int)) = false := decide_eq_false c23
         clear c23
         by_cases c47 : a0_0 = 6
         ·rw [if_pos c47] at H
          have c47b0 : (a0_0 == 6) = true := beq_iff_eq.mpr c47
          have c47b1 : (a0_0 != 6) = false := bne_eq_false_iff_eq.mpr c47
          clear c47
          by_cases c48 : 1 + x3_1.size ≤ 9223372036854775807
          ·rw [if_pos c48] at H
           have c48b0 := eq_true c48
           have c48b1 : decide (1 + x3_1.size ≤ 9223372036854775807) = true := yE c48
           try have c48b2 : (9223372036854775807 < 1 + x3_1.size) = False := eq_false (Nat.not_lt.2 c48)
           by_cases c49 : ((⟨#[123]⟩ : ByteArray) ++ x3_1).size + 1 ≤ 9223372036854775807
           ·rw [if_pos c49] at H
            (try (have c49b9 := eq_true c49; simp only [ByteArray.size_append, Int.natCast_add, show ((⟨#[123]⟩ : ByteArray)).size = 1 from rfl] at c49b9))
            (try (have c49b8 := eq_false (Nat.not_lt.2 c49); simp only [ByteArray.size_append, show ((⟨#[123]⟩ : ByteArray)).size = 1 from rfl] at c49b8))
            have c49b0 := eq_true c49
            have c49b1 : decide (((⟨#[123]⟩ : ByteArray) ++ x3_1).size + 1 ≤ 9223372036854775807) = true := yE c49
            try have c49b2 : (9223372036854775807 < ((⟨#[123]⟩ : ByteArray) ++ x3_1).size + 1) = False := eq_false (Nat.not_lt.2 c49)
            try simp only [ByteArray.size_append] at c49b2
            obtain rfl := yG H
            obtain ⟨hcz50_0, hcz50_1, hcz50_2, hcz50_3, hcz50_4, hcz50_5, hfz50_0, hfz50_1, hfz50_2, hfz50_3, hfz50_4, hfz50_5⟩ := zb6 BK214.out
            go_wp2
            go_ret
            exact ⟨apD, apS⟩
           ·rw [if_neg c49] at H
            exact absurd H (by simp)
          ·rw [if_neg c48] at H
           exact absurd H (by simp)
         ·rw [if_neg c47] at H
          have c47b0 : (a0_0 == 6) = false := beq_eq_false_iff_ne.mpr c47
          have c47b1 : (a0_0 != 6) = true := bne_iff_ne.mpr c47
          by_cases c51 : 1 + x3_1.size ≤ 9223372036854775807
          ·rw [if_pos c51] at H
           have c51b0 := eq_true c51
           have c51b1 : decide (1 + x3_1.size ≤ 9223372036854775807) = true := yE c51
           try have c51b2 : (9223372036854775807 < 1 + x3_1.size) = False := eq_false (Nat.not_lt.2 c51)
           by_cases c52 : ((⟨#[91]⟩ : ByteArray) ++ x3_1).size + 1 ≤ 9223372036854775807
           ·rw [if_pos c52] at H
            (try (have c52b9 := eq_true c52; simp only [ByteArray.size_append, Int.natCast_add, show ((⟨#[91]⟩ : ByteArray)).size = 1 from rfl] at c52b9))
            (try (have c52b8 := eq_false (Nat.not_lt.2 c52); simp only [ByteArray.size_append, show ((⟨#[91]⟩ : ByteArray)).size = 1 from rfl] at c52b8))
            have c52b0 := eq_true c52
            have c52b1 : decide (((⟨#[91]⟩ : ByteArray) ++ x3_1).size + 1 ≤ 9223372036854775807) = true := yE c52
            try have c52b2 : (9223372036854775807 < ((⟨#[91]⟩ : ByteArray) ++ x3_1).size + 1) = False := eq_false (Nat.not_lt.2 c52)
            try simp only [ByteArray.size_append] at c52b2
            obtain rfl := yG H
            obtain ⟨hcz53_0, hcz53_1, hcz53_2, hcz53_3, hcz53_4, hcz53_5, hfz53_0, hfz53_1, hfz53_2, hfz53_3, hfz53_4, hfz53_5⟩ := zb6 BK214.out
            go_wp2
            go_ret
            exact ⟨apD, apS⟩
           ·rw [if_neg c52] at H
            exact absurd H (by simp)
          ·rw [if_neg c51] at H
           exact absurd H (by simp)


def strings_Join.f (l0 : List ByteArray) (a1 : ByteArray) : Option (ByteArray) := if l0.length ≤ 140737488355328 ∧ (Lib.join (l0.map (·.data.toList)) a1.data.toList).length ≤ 140737488355328 then some (⟨(Lib.join (l0.map (·.data.toList)) a1.data.toList).toArray⟩) else none
theorem strings_Join.calls (A0 : Option Addr) (c0 : Nat) (l0 : List ByteArray) (a1 : ByteArray) (r : ByteArray) (w : World) (hr0 : Kd.C Kd.string w A0 l0.length l0) (hc0 : l0.length ≤ c0) (h : strings_Join.f l0 a1 = some r) :
  Calls Tryd.prog 44 #[.slice A0 l0.length c0, .string a1] w fun e w' => e = .returned (.string r) ∧ Below w.heap.size w w' := by
 unfold strings_Join.f at h
 split at h
 ·rename_i hh
  have h2 := yG h
  subst h2
  cases l0 with
  | nil => exact (Any.strings_Join_none Tryd.lays156 Tryd.Builder_Extra_156 A0 c0 a1 w).mono (by rintro e w' ⟨rfl, rfl⟩; exact ⟨rfl, yH _ _⟩)
  | cons x xs =>
   obtain ⟨ad, rfl, hr⟩ := hr0.2.2 (by simp)
   have hcell : ∀ (j : Nat) y, (x :: xs)[j]? = some y → w.cell? (ad.add j) = some (.string y) := by
    intro j y hj
    obtain ⟨c, _, hK, hc⟩ := hr j y hj
    obtain rfl : c = [.string y] := hK
    have := hc 0 _ rfl
    rwa [show j * Kd.string.sz + 0 = j from by show j * 1 + 0 = j; omega] at this
   have h0 := hcell 0 x rfl
   obtain ⟨bk, o, sp⟩ := ad
   obtain rfl : sp = none := by
    cases sp with
    | none => rfl
    | some s =>
     exfalso
     unfold World.cell? at h0
     split at h0
     ·cases h0
     ·cases h0
   have hbk : bk < w.heap.size := by
    apply Classical.byContradiction
    intro hge
    unfold World.cell? at h0
    rw [show w.heap[(Addr.add ⟨bk, o, none⟩ 0).block]? = none from Array.getElem?_eq_none (by show w.heap.size ≤ bk; omega)] at h0
    cases h0
   exact Tryd.strings_Join bk o c0 (x :: xs) a1 w (fun j y hj => by
    have := hcell j y hj
    unfold Addr.add at this
    split at this
    ·rename_i hj0; subst hj0; exact this
    ·exact this) hbk hh.1 hc0 hh.2
 ·cases h

end Go.Proofs.YtmdpjfmkhnjilaaDoor.Q
