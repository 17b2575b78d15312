-- laid by a program of this session (wip/tools) out of the translation; Lean checks it
import Derived.Test.YtcgdelmlcjjhoaaQ0
import Derived.Test.YtcgdelmlcjjhoaaQ38
import Derived.Test.YtcgdelmlcjjhoaaQ44
namespace Go.Proofs.Ytcgdelmlcjjhoaa.Q
open Go.RowKit Go.Proofs.YtcgdelmlcjjhoaaW.PrintWords Go.Proofs.YtcgdelmlcjjhoaaW.PrintLast Go.Proofs.YtcgdelmlcjjhoaaW.PrintMore Go.Proofs.YtcgdelmlcjjhoaaX
attribute [local go_sem] max2_int min2_int max_two min_two max_three min_three max_four min_four   -- for this text's walks alone
set_option linter.unusedVariables false
set_option linter.unusedSimpArgs false

attribute [-simp] ByteArray.size_extract
/-! ### impl_QuoteGet: function 25 -/
mutual
def impl_QuoteGet.j0 : Nat → ByteArray → Bool → Option (ByteArray × Bool)
  | 0, _, _ => none
  | k + 1, x0, x22 => if x22 = true then (some ((⟨#[]⟩ : ByteArray), false)) else (if 1 ≤ (wrap64 ((x0.size : Int) - 1)) then (if (wrap64 ((x0.size : Int) - 1)) ≤ (x0.size : Int) then (impl_QuoteGet.l0 k (x0.extract 1 ((wrap64 ((x0.size : Int) - 1)) : Int).toNat) (([] : List Int)) 0) else (none)) else (none))
def impl_QuoteGet.l0 : Nat → ByteArray → List Int → Int → Option (ByteArray × Bool)
  | 0, _, _, _ => none
  | k + 1, x0, x4, x5 => if x5 < (x0.size : Int) then (if 0 ≤ x5 then ((impl_plain.f (bt x0 x5)).bind fun t241 => (if t241 = true then (if x4.length < 140737488355328 then (impl_QuoteGet.l0 k x0 (x4 ++ [bt x0 x5]) (wrap64 (x5 + 1))) else (none)) else (if (bt x0 x5) = 92 then (impl_QuoteGet.j2 k x0 x4 x5 ((wrap64 (x5 + 1)) == (x0.size : Int))) else (impl_QuoteGet.j2 k x0 x4 x5 true)))) else (none)) else (some (strOfNums x4, true))
def impl_QuoteGet.j2 : Nat → ByteArray → List Int → Int → Bool → Option (ByteArray × Bool)
  | 0, _, _, _, _ => none
  | k + 1, x0, x4, x5, x55 => if x55 = true then (some ((⟨#[]⟩ : ByteArray), false)) else (if 0 ≤ (wrap64 (x5 + 1)) then (if (wrap64 (x5 + 1)) < (x0.size : Int) then (if (bt x0 (wrap64 (x5 + 1))) = 34 then (impl_QuoteGet.j3 k x0 x4 (wrap64 (x5 + 1)) (bt x0 (wrap64 (x5 + 1))) ((bt x0 (wrap64 (x5 + 1))) == 34)) else (impl_QuoteGet.j3 k x0 x4 (wrap64 (x5 + 1)) (bt x0 (wrap64 (x5 + 1))) ((bt x0 (wrap64 (x5 + 1))) == 92))) else (none)) else (none))
def impl_QuoteGet.j3 : Nat → ByteArray → List Int → Int → Int → Bool → Option (ByteArray × Bool)
  | 0, _, _, _, _, _ => none
  | k + 1, x0, x4, x5, x60, x61 => if x61 = true then (if 0 ≤ x5 then (if x5 < (x0.size : Int) then (if x4.length < 140737488355328 then (impl_QuoteGet.l0 k x0 (x4 ++ [bt x0 x5]) (wrap64 (x5 + 1))) else (none)) else (none)) else (none)) else (if x60 = 110 then (if x4.length < 140737488355328 then (impl_QuoteGet.l0 k x0 (x4 ++ [10]) (wrap64 (x5 + 1))) else (none)) else (if x60 = 120 then (if 0 ≤ (wrap64 (x5 + 1)) then (if (wrap64 (x5 + 1)) ≤ (x0.size : Int) then ((impl_unhex.f (x0.extract ((wrap64 (x5 + 1)) : Int).toNat x0.size)).bind fun t251 => (if t251 < 0 then (some ((⟨#[]⟩ : ByteArray), false)) else (if x4.length < 140737488355328 then (impl_QuoteGet.l0 k x0 (x4 ++ [(t251) % 256]) (wrap64 ((wrap64 (x5 + 2)) + 1))) else (none)))) else (none)) else (none)) else (some ((⟨#[]⟩ : ByteArray), false))))
end
def impl_QuoteGet.f (k : Nat) (a0 : ByteArray) : Option (ByteArray × Bool) := if (a0.size : Int) < 2 then (impl_QuoteGet.j0 k a0 true) else (if 0 < (a0.size : Int) then (if (bt a0 0) = 34 then (if 0 ≤ (wrap64 ((a0.size : Int) - 1)) then (if (wrap64 ((a0.size : Int) - 1)) < (a0.size : Int) then (impl_QuoteGet.j0 k a0 ((bt a0 (wrap64 ((a0.size : Int) - 1))) != 34)) else (none)) else (none)) else (impl_QuoteGet.j0 k a0 true)) else (none))
theorem impl_QuoteGet.mono_l : ∀ k, (∀ y0 y1, LeO (impl_QuoteGet.j0 k y0 y1) (impl_QuoteGet.j0 (k + 1) y0 y1)) ∧ (∀ y0 y1 y2, LeO (impl_QuoteGet.l0 k y0 y1 y2) (impl_QuoteGet.l0 (k + 1) y0 y1 y2)) ∧ (∀ y0 y1 y2 y3, LeO (impl_QuoteGet.j2 k y0 y1 y2 y3) (impl_QuoteGet.j2 (k + 1) y0 y1 y2 y3)) ∧ (∀ y0 y1 y2 y3 y4, LeO (impl_QuoteGet.j3 k y0 y1 y2 y3 y4) (impl_QuoteGet.j3 (k + 1) y0 y1 y2 y3 y4))
  | 0 => ⟨fun _ _ r h => by simp [impl_QuoteGet.j0] at h, fun _ _ _ r h => by simp [impl_QuoteGet.l0] at h, fun _ _ _ _ r h => by simp [impl_QuoteGet.j2] at h, fun _ _ _ _ _ r h => by simp [impl_QuoteGet.j3] at h⟩
  | k + 1 => by
    obtain ⟨ih0, ih1, ih2, ih3⟩ := impl_QuoteGet.mono_l k
    refine ⟨?_, ?_, ?_, ?_⟩
    · intro y0 y1
      unfold impl_QuoteGet.j0
      repeat' first
      | (with_reducible exact ih0 _ _)
      | (with_reducible exact ih1 _ _ _)
      | (with_reducible exact ih2 _ _ _ _)
      | (with_reducible exact ih3 _ _ _ _ _)
      | (with_reducible exact LeO.refl _)
      | (with_reducible exact LeO.none _)
      | (with_reducible refine LeO.ite ?_ ?_)
      | (with_reducible refine LeO.bind ?_ (fun _ => ?_))
      | exact ih0 _ _
      | exact ih1 _ _ _
      | exact ih2 _ _ _ _
      | exact ih3 _ _ _ _ _
      | exact LeO.none _
      | refine LeO.ite ?_ ?_
      | refine LeO.bind ?_ (fun _ => ?_)
    · intro y0 y1 y2
      unfold impl_QuoteGet.l0
      repeat' first
      | (with_reducible exact ih0 _ _)
      | (with_reducible exact ih1 _ _ _)
      | (with_reducible exact ih2 _ _ _ _)
      | (with_reducible exact ih3 _ _ _ _ _)
      | (with_reducible exact LeO.refl _)
      | (with_reducible exact LeO.none _)
      | (with_reducible refine LeO.ite ?_ ?_)
      | (with_reducible refine LeO.bind ?_ (fun _ => ?_))
      | exact ih0 _ _
      | exact ih1 _ _ _
      | exact ih2 _ _ _ _
      | exact ih3 _ _ _ _ _
      | exact LeO.none _
      | refine LeO.ite ?_ ?_
      | refine LeO.bind ?_ (fun _ => ?_)
    · intro y0 y1 y2 y3
      unfold impl_QuoteGet.j2
      repeat' first
      | (with_reducible exact ih0 _ _)
      | (with_reducible exact ih1 _ _ _)
      | (with_reducible exact ih2 _ _ _ _)
      | (with_reducible exact ih3 _ _ _ _ _)
      | (with_reducible exact LeO.refl _)
      | (with_reducible exact LeO.none _)
      | (with_reducible refine LeO.ite ?_ ?_)
      | (with_reducible refine LeO.bind ?_ (fun _ => ?_))
      | exact ih0 _ _
      | exact ih1 _ _ _
      | exact ih2 _ _ _ _
      | exact ih3 _ _ _ _ _
      | exact LeO.none _
      | refine LeO.ite ?_ ?_
      | refine LeO.bind ?_ (fun _ => ?_)
    · intro y0 y1 y2 y3 y4
      unfold impl_QuoteGet.j3
      repeat' first
      | (with_reducible exact ih0 _ _)
      | (with_reducible exact ih1 _ _ _)
      | (with_reducible exact ih2 _ _ _ _)
      | (with_reducible exact ih3 _ _ _ _ _)
      | (with_reducible exact LeO.refl _)
      | (with_reducible exact LeO.none _)
      | (with_reducible refine LeO.ite ?_ ?_)
      | (with_reducible refine LeO.bind ?_ (fun _ => ?_))
      | exact ih0 _ _
      | exact ih1 _ _ _
      | exact ih2 _ _ _ _
      | exact ih3 _ _ _ _ _
      | exact LeO.none _
      | refine LeO.ite ?_ ?_
      | refine LeO.bind ?_ (fun _ => ?_)
theorem impl_QuoteGet.mono : ∀ a0 k, LeO (impl_QuoteGet.f k a0) (impl_QuoteGet.f (k + 1) a0) := by
  intro a0 k
  obtain ⟨ih0, ih1, ih2, ih3⟩ := impl_QuoteGet.mono_l k
  unfold impl_QuoteGet.f
  repeat' first
      | (with_reducible exact ih0 _ _)
      | (with_reducible exact ih1 _ _ _)
      | (with_reducible exact ih2 _ _ _ _)
      | (with_reducible exact ih3 _ _ _ _ _)
      | (with_reducible exact LeO.refl _)
      | (with_reducible exact LeO.none _)
      | (with_reducible refine LeO.ite ?_ ?_)
      | (with_reducible refine LeO.bind ?_ (fun _ => ?_))
      | exact ih0 _ _
      | exact ih1 _ _ _
      | exact ih2 _ _ _ _
      | exact ih3 _ _ _ _ _
      | exact LeO.none _
      | refine LeO.ite ?_ ?_
      | refine LeO.bind ?_ (fun _ => ?_)
set_option maxHeartbeats 8000000 in
set_option maxRecDepth 100000 in
theorem impl_QuoteGet.calls (k : Nat) (a0 : ByteArray) (r1 : ByteArray) (r2 : Bool) (w : World) (h : impl_QuoteGet.f k a0 = some (r1, r2)) :
    Calls Try.prog 25 #[.string a0] w fun e w' => e = .returned (.tuple #[.string r1, .bool r2]) ∧ Below w.heap.size w w' := by
  have HB := Aside0.mk (Below.refl w.heap.size w)
  have H : (if (a0.size : Int) < 2 then (impl_QuoteGet.j0 k a0 true) else (if 0 < (a0.size : Int) then (if (bt a0 0) = 34 then (if 0 ≤ (wrap64 ((a0.size : Int) - 1)) then (if (wrap64 ((a0.size : Int) - 1)) < (a0.size : Int) then (impl_QuoteGet.j0 k a0 ((bt a0 (wrap64 ((a0.size : Int) - 1))) != 34)) else (none)) else (none)) else (impl_QuoteGet.j0 k a0 true)) else (none))) = some (r1, r2) := h
  clear h
  have HC2 := Aside0.mk H
  clear H
  go_enter Try.func25, Try.ntmps25
  go_upto_region 1 with (fail)
  go_cut [22] (fun v22 wc => ∃ (kq : Nat) (x22_1 : Bool), v22 = .bool x22_1 ∧ Aside0 (impl_QuoteGet.j0 kq a0 x22_1 = some (r1, r2)) ∧ Aside0 (kq ≤ k) ∧ Aside0 (Below w.heap.size w wc))
  case first =>
    have H := HC2.out
    clear HC2
    by_cases c3 : (a0.size : Int) < 2
    · rw [if_pos c3] at H
      have c3b0 : decide ((a0.size : Int) < 2) = true := decide_eq_true c3
      have c3b1 : decide (a0.size < 2) = true := decide_eq_true (by omega)
      clear c3
      (first | rw [c3b0] | (simp only [i64_w, i32_w]; rw [c3b0]) | skip)
      have H' := Aside0.mk H
      clear H
      go_wp2
      go_meet
      case rel => exact ⟨_, (true), (by first | rfl | (simp; done) | (simp [*]; done)), H', ⟨by first | omega | exact Nat.le_refl _⟩, ⟨by repeat (first | (with_reducible first | exact HB.out | apply below_alloc | apply pw_below_drewN | apply below_drew1) | exact HB.out)⟩⟩
    · rw [if_neg c3] at H
      have c3b0 : decide ((a0.size : Int) < 2) = false := decide_eq_false c3
      have c3b1 : decide (a0.size < 2) = false := decide_eq_false (by omega)
      clear c3
      (first | rw [c3b0] | (simp only [i64_w, i32_w]; rw [c3b0]) | skip)
      by_cases c4 : 0 < (a0.size : Int)
      · rw [if_pos c4] at H
        have c4b0 : decide (0 < (a0.size : Int)) = true := decide_eq_true c4
        have c4b1 : decide (0 < a0.size) = true := decide_eq_true (by omega)
        clear c4
        by_cases c6 : (bt a0 0) = 34
        · rw [if_pos c6] at H
          have c6b0 : ((bt a0 0) == 34) = true := beq_iff_eq.mpr c6
          have c6b1 : ((bt a0 0) != 34) = false := bne_eq_false_iff_eq.mpr c6
          clear c6
          obtain ⟨ji7, hji7⟩ : ∃ j_ : Int, (wrap64 ((a0.size : Int) - 1)) = j_ := ⟨_, rfl⟩
          replace H : (if 0 ≤ (ji7) then (if (ji7) < (a0.size : Int) then (impl_QuoteGet.j0 k a0 ((bt a0 (ji7)) != 34)) else (none)) else (none)) = some (r1, r2) := by first | (rw [hji7] at H; exact H) | (simp only [hji7] at H ⊢; exact H)
          have hji7w : (IntKind.i64.wrap ((a0.size : Int) - 1)) = ji7 := (i64_w _).trans hji7
          by_cases c8 : 0 ≤ (ji7)
          · rw [if_pos c8] at H
            have c8b0 : decide (0 ≤ (ji7)) = true := decide_eq_true c8
            clear c8
            by_cases c9 : (ji7) < (a0.size : Int)
            · rw [if_pos c9] at H
              have c9b0 : decide ((ji7) < (a0.size : Int)) = true := decide_eq_true c9
              clear c9
              have H' := Aside0.mk H
              clear H
              have p5 : 0 ≤ (0 : Int) := (by omega)
              have q5 : 0 < a0.size := (by have : (0 : Int) < (a0.size : Int) := of_decide_eq_true (by first | (with_reducible assumption) | assumption); omega)
              have hx5 : ∀ h : 0 < a0.size, ((a0[0]'h).toNat : Int) = bt a0 0 := bt_at a0 0
              clear p5
              have qi5 : (0 < (a0.size : Int)) = True := eq_true (of_decide_eq_true (by first | (with_reducible assumption) | assumption))
              replace q5 := eq_true q5
              have p10 : 0 ≤ ((ji7) : Int) := of_decide_eq_true (by first | (with_reducible assumption) | assumption)
              have q10 : (ji7) < (a0.size : Int) := of_decide_eq_true (by first | (with_reducible assumption) | assumption)
              have hx10 := bt_at a0 (ji7)
              replace p10 := eq_true p10
              replace q10 := eq_true q10
              go_wp2
              go_meet
              case rel => exact ⟨_, (((bt a0 (ji7)) != 34)), (by first | rfl | (simp; done) | (simp only [*]; done) | (simp [*]; done) | ((simp only [← hji7] <;> (first | rfl | simp)); done)), H', ⟨by first | omega | exact Nat.le_refl _⟩, ⟨by repeat (first | (with_reducible first | exact HB.out | apply below_alloc | apply pw_below_drewN | apply below_drew1) | exact HB.out)⟩⟩
            · rw [if_neg c9] at H
              exact absurd H (by simp)
          · rw [if_neg c8] at H
            exact absurd H (by simp)
        · rw [if_neg c6] at H
          have c6b0 : ((bt a0 0) == 34) = false := beq_eq_false_iff_ne.mpr c6
          have c6b1 : ((bt a0 0) != 34) = true := bne_iff_ne.mpr c6
          have H' := Aside0.mk H
          clear H
          have p5 : 0 ≤ (0 : Int) := (by omega)
          have q5 : 0 < a0.size := (by have : (0 : Int) < (a0.size : Int) := of_decide_eq_true (by first | (with_reducible assumption) | assumption); omega)
          have hx5 : ∀ h : 0 < a0.size, ((a0[0]'h).toNat : Int) = bt a0 0 := bt_at a0 0
          clear p5
          have qi5 : (0 < (a0.size : Int)) = True := eq_true (of_decide_eq_true (by first | (with_reducible assumption) | assumption))
          replace q5 := eq_true q5
          go_wp2
          go_meet
          case rel => exact ⟨_, (true), (by first | rfl | (simp; done) | (simp [*]; done)), H', ⟨by first | omega | exact Nat.le_refl _⟩, ⟨by repeat (first | (with_reducible first | exact HB.out | apply below_alloc | apply pw_below_drewN | apply below_drew1) | exact HB.out)⟩⟩
      · rw [if_neg c4] at H
        exact absurd H (by simp)
  case rest =>
    clear HC2
    try clear p1
    try clear q1
    try clear hx1
    try clear c2
    try clear p2
    try clear c3
    try clear c3b0
    try clear c3b1
    try clear c4
    try clear c4b0
    try clear c4b1
    try clear p5
    try clear q5
    try clear hx5
    try clear qi5
    try clear c6
    try clear c6b0
    try clear c6b1
    try clear p6
    try clear c8
    try clear c8b0
    try clear c9
    try clear c9b0
    try clear p10
    try clear q10
    try clear hx10
    try clear p10
    try clear p5
    try clear q10
    try clear q5
    obtain ⟨kq, x22_1, rfl, HA, HJ1, HB⟩ := hcut
    cases kq with
    | zero => exact absurd HA.out (by simp [impl_QuoteGet.j0])
    | succ kj1 =>
      have H := HA.out
      clear HA
      simp only [impl_QuoteGet.j0] at H
      by_cases c11 : x22_1 = true
      · subst c11
        have H1 : (some ((⟨#[]⟩ : ByteArray), false)) = some (r1, r2) := by rw [if_pos rfl] at H; exact H
        clear H
        have H := H1
        clear H1
        simp only [Option.some.injEq, Prod.mk.injEq] at H
        obtain ⟨rfl, rfl⟩ := H
        go_wp2
        go_ret2
        exact ⟨by first | rfl | (simp [errW_none, errW_some] <;> rfl) | (simp [*, errW_none, errW_some] <;> rfl), by repeat (first | (with_reducible first | exact HB.out | apply below_alloc | apply pw_below_drewN | apply below_drew1) | exact HB.out)⟩
      · replace c11 := Bool.eq_false_iff.mpr c11
        subst c11
        have H1 : (if 1 ≤ (wrap64 ((a0.size : Int) - 1)) then (if (wrap64 ((a0.size : Int) - 1)) ≤ (a0.size : Int) then (impl_QuoteGet.l0 kj1 (a0.extract 1 ((wrap64 ((a0.size : Int) - 1)) : Int).toNat) (([] : List Int)) 0) else (none)) else (none)) = some (r1, r2) := by rw [if_neg (show ¬ (false = true) by decide)] at H; exact H
        clear H
        have H := H1
        clear H1
        by_cases c12 : 1 ≤ (wrap64 ((a0.size : Int) - 1))
        · rw [if_pos c12] at H
          have c12b0 := eq_true c12
          have c12b1 : decide (1 ≤ (wrap64 ((a0.size : Int) - 1))) = true := decide_eq_true c12
          clear c12
          by_cases c13 : (wrap64 ((a0.size : Int) - 1)) ≤ (a0.size : Int)
          · rw [if_pos c13] at H
            have c13b0 := eq_true c13
            have c13b1 : decide ((wrap64 ((a0.size : Int) - 1)) ≤ (a0.size : Int)) = true := decide_eq_true c13
            clear c13
            obtain ⟨y238, hy238⟩ : ∃ y_ : List Int, y_ = (([] : List Int)) := ⟨_, rfl⟩
            replace H : (impl_QuoteGet.l0 kj1 (a0.extract 1 ((wrap64 ((a0.size : Int) - 1)) : Int).toNat) y238 0) = some (r1, r2) := by first | (rw [hy238]; with_reducible exact H) | (have H2_ := (Option.bind_some _ _).symm.trans H; rw [hy238]; with_reducible exact H2_) | (have H2_ := (Option.bind_some _ _).symm.trans H; with_reducible exact H2_) | with_reducible exact H | (rw [hy238]; exact H) | exact H
            have Ny238 := Aside0.mk hy238
            clear hy238
            have H' := Aside0.mk H
            clear H
            go_wp2_with (first | ((with_reducible refine gate_dst (N := 28) rfl ?_); (try (refine gate_guard (by rfl) ?_; dsimp only)); refine Kd.R_lit (Kd.int .u8) _ 5 ?hg (N := 28) ?hd (xs := ([] : List Int)) (inner := []) (ok := fun _ => True) (okp := fun _ => True) ?hr ?hp (fun _ hk => hk) trivial (Below.refl _ _) (Nat.le_refl _) (by simp) ?_; (case hd => rfl); (case hg => rfl); (case hr => first | (go_simp; done) | (go_simp; rfl)); (case hp => exact (Reps.none _ _)); intro v239 w14 ho15 hb hg_ hnew_; clear hg_ hnew_; (first | rw [← Ny238.out] at ho15 | (simp only [Int.reduceToNat] at ho15; rw [← Ny238.out] at ho15)); have n0_ := Aside0.mk (Kd.R_lower ho15 (below_size (by repeat (first | (with_reducible first | exact HB.out | apply below_alloc | apply pw_below_drewN | apply below_drew1) | exact HB.out)))); have n1_ := Aside0.mk (below_step (by repeat (first | (with_reducible first | exact HB.out | apply below_alloc | apply pw_below_drewN | apply below_drew1) | exact HB.out)) hb); clear HB; have HO240 := n0_; have HB := n1_; clear n0_ n1_; clear hb ho15))
            go_loopg [4, 5] kj1 (fun kq v4 v5 w' => ∃ (x4_2 : List Int) (x5_2 : Int), v5 = .int .i64 x5_2 ∧ Aside0 (impl_QuoteGet.l0 kq (a0.extract 1 ((wrap64 ((a0.size : Int) - 1)) : Int).toNat) x4_2 x5_2 = some (r1, r2)) ∧ Aside0 (kq ≤ kj1) ∧ Aside0 (Kd.R (Kd.int .u8) 5 w' w.heap.size (fun _ => True) v4 x4_2) ∧ Aside0 (Below w.heap.size w w'))
            case atStart => exact ⟨(y238), (0), (by first | rfl | (simp; done) | (simp [*]; done)), H', ⟨Nat.le_refl _⟩, ⟨by (with_reducible repeat (first | apply Kd.R_alloc | apply Kd.R_drewN | apply Kd.R_drew)); exact HO240.out⟩, ⟨by repeat (first | (with_reducible first | exact HB.out | apply below_alloc | apply pw_below_drewN | apply below_drew1) | exact HB.out)⟩⟩
            case round =>
              clear H'
              try clear c1
              try clear p1
              try clear q1
              try clear hx1
              try clear c2
              try clear p2
              try clear c3
              try clear c3b0
              try clear c3b1
              try clear c4
              try clear c4b0
              try clear c4b1
              try clear p5
              try clear q5
              try clear hx5
              try clear qi5
              try clear c6
              try clear c6b0
              try clear c6b1
              try clear p6
              try clear c8
              try clear c8b0
              try clear c9
              try clear c9b0
              try clear p10
              try clear q10
              try clear hx10
              try clear c11
              try clear c12
              try clear c12b0
              try clear c12b1
              try clear c13
              try clear c13b0
              try clear c13b1
              try clear p1
              try clear p10
              try clear p2
              try clear p5
              try clear p6
              try clear q1
              try clear q10
              try clear q5
              obtain ⟨x4_2, x5_2, rfl, HA, HK2, HO_4, HB⟩ := hrel
              cases gk with
              | zero => exact absurd HA.out (by simp [impl_QuoteGet.l0])
              | succ k2 =>
                have H := HA.out
                clear HA
                simp only [impl_QuoteGet.l0] at H
                by_cases c16 : x5_2 < ((a0.extract 1 ((wrap64 ((a0.size : Int) - 1)) : Int).toNat).size : Int)
                · rw [if_pos c16] at H
                  have c16b0 : decide (x5_2 < ((a0.extract 1 ((wrap64 ((a0.size : Int) - 1)) : Int).toNat).size : Int)) = true := decide_eq_true c16
                  clear c16
                  by_cases c17 : 0 ≤ x5_2
                  · rw [if_pos c17] at H
                    have c17b0 : decide (0 ≤ x5_2) = true := decide_eq_true c17
                    clear c17
                    replace H := Option.bind_eq_some_iff.mp H
                    obtain ⟨t241, A190, H⟩ := H
                    replace H : (if t241 = true then (if x4_2.length < 140737488355328 then (impl_QuoteGet.l0 k2 (a0.extract 1 ((wrap64 ((a0.size : Int) - 1)) : Int).toNat) (x4_2 ++ [bt (a0.extract 1 ((wrap64 ((a0.size : Int) - 1)) : Int).toNat) x5_2]) (wrap64 (x5_2 + 1))) else (none)) else (if (bt (a0.extract 1 ((wrap64 ((a0.size : Int) - 1)) : Int).toNat) x5_2) = 92 then (impl_QuoteGet.j2 k2 (a0.extract 1 ((wrap64 ((a0.size : Int) - 1)) : Int).toNat) x4_2 x5_2 ((wrap64 (x5_2 + 1)) == ((a0.extract 1 ((wrap64 ((a0.size : Int) - 1)) : Int).toNat).size : Int))) else (impl_QuoteGet.j2 k2 (a0.extract 1 ((wrap64 ((a0.size : Int) - 1)) : Int).toNat) x4_2 x5_2 true))) = some (r1, r2) := H
                    have A19 := Aside0.mk A190
                    clear A190
                    by_cases c20 : t241 = true
                    · subst c20
                      have H1 : (if x4_2.length < 140737488355328 then (impl_QuoteGet.l0 k2 (a0.extract 1 ((wrap64 ((a0.size : Int) - 1)) : Int).toNat) (x4_2 ++ [bt (a0.extract 1 ((wrap64 ((a0.size : Int) - 1)) : Int).toNat) x5_2]) (wrap64 (x5_2 + 1))) else (none)) = some (r1, r2) := by rw [if_pos rfl] at H; exact H
                      clear H
                      have H := H1
                      clear H1
                      by_cases c22 : x4_2.length < 140737488355328
                      · rw [if_pos c22] at H
                        have LMc22 := Aside0.mk c22
                        clear c22
                        obtain ⟨y242, hy242⟩ : ∃ y_ : List Int, y_ = (x4_2 ++ [bt (a0.extract 1 ((wrap64 ((a0.size : Int) - 1)) : Int).toNat) x5_2]) := ⟨_, rfl⟩
                        replace H : (impl_QuoteGet.l0 k2 (a0.extract 1 ((wrap64 ((a0.size : Int) - 1)) : Int).toNat) y242 (wrap64 (x5_2 + 1))) = some (r1, r2) := by first | (rw [hy242]; with_reducible exact H) | (have H2_ := (Option.bind_some _ _).symm.trans H; rw [hy242]; with_reducible exact H2_) | (have H2_ := (Option.bind_some _ _).symm.trans H; with_reducible exact H2_) | with_reducible exact H | (rw [hy242]; exact H) | exact H
                        have Ny242 := Aside0.mk hy242
                        clear hy242
                        have H' := Aside0.mk H
                        clear H
                        have p18 : 0 ≤ (x5_2 : Int) := of_decide_eq_true (by first | (with_reducible assumption) | assumption)
                        have q18 : x5_2 < ((a0.extract 1 ((wrap64 ((a0.size : Int) - 1)) : Int).toNat).size : Int) := of_decide_eq_true (by first | (with_reducible assumption) | assumption)
                        have hx18 := bt_at (a0.extract 1 ((wrap64 ((a0.size : Int) - 1)) : Int).toNat) x5_2
                        replace p18 := eq_true p18
                        replace q18 := eq_true q18
                        go_wp2_with (first | ((with_reducible refine gate_callee (f := 38) rfl ?_); refine goesL_ (some 38) rfl rfl Try.func38 (by kernel_rfl) rfl #[.int .u8 (bt (a0.extract 1 ((wrap64 ((a0.size : Int) - 1)) : Int).toNat) x5_2)] rfl (by (try simp only [List.map_toArray, List.map_cons, List.map_nil]); first | done | rfl | (simp only [List.length_drop, List.length_take]; rfl)) ?_; (with_reducible refine (impl_plain.calls (bt (a0.extract 1 ((wrap64 ((a0.size : Int) - 1)) : Int).toNat) x5_2) true _ A19.out).mono ?_); rintro e w' ⟨rfl, ⟨nd, rfl⟩⟩; refine ⟨_, rfl, ?_⟩; have p21 : 0 ≤ (x5_2 : Int) := of_decide_eq_true (by first | (with_reducible assumption) | assumption); have q21 : x5_2 < ((a0.extract 1 ((wrap64 ((a0.size : Int) - 1)) : Int).toNat).size : Int) := of_decide_eq_true (by first | (with_reducible assumption) | assumption); have hx21 := bt_at (a0.extract 1 ((wrap64 ((a0.size : Int) - 1)) : Int).toNat) x5_2; replace p21 := eq_true p21; replace q21 := eq_true q21) | ((with_reducible refine gate_builtin (b := .append) (xs := #[.tmp 39, .tmp 43]) rfl ?_); (try (refine gate_guard (by rfl) ?_; dsimp only)); at_builtin; refine Kd.R_append (Kd.int .u8) (w0 := w) w.heap.size rfl (.tmp 39) (.tmp 43) 44 5 (.int .u8 0) 1 rfl Try.underlying44 info5 rfl (by decide) (by omega) u4 x4_2 (bt (a0.extract 1 ((wrap64 ((a0.size : Int) - 1)) : Int).toNat) x5_2) [.int .u8 (bt (a0.extract 1 ((wrap64 ((a0.size : Int) - 1)) : Int).toNat) x5_2)] (fun _ => True) (fun _ => False) rfl rfl ?aP (fun _ hk => hk.elim) ?aF ?aO ?aB ?aS ?aL ?_; (case aP => exact rfl); (case aB => exact (by repeat (first | (with_reducible first | exact HB.out | apply below_alloc | apply pw_below_drewN | apply below_drew1) | exact HB.out))); (case aF => exact (fun _ _ => trivial)); (case aO => exact (by (with_reducible repeat (first | apply Kd.R_alloc | apply Kd.R_drewN | apply Kd.R_drew)); exact HO_4.out)); (case aS => exact (below_size (by repeat (first | (with_reducible first | exact HB.out | apply below_alloc | apply pw_below_drewN | apply below_drew1) | exact HB.out)))); (case aL => have := LMc22.out; (first | omega | (simp only [ByteArray.size, List.size_toArray, List.length_cons, List.length_nil] at *; omega))); intro v243 w23 ho hb hg hat; rw [← Ny242.out] at ho; have n0_ := Aside0.mk (hb); have n1_ := Aside0.mk (ho); clear HB; clear HO_4; have HB := n0_; have HO244 := n1_; clear n0_ n1_; clear ho hb hg hat))
                        go_roundg k2
                        case measure => have := HJ1.out; have := HK2.out; omega
                        case rel => exact ⟨(y242), (wrap64 (x5_2 + 1)), (by first | rfl | (simp; done) | (simp [*]; done)), H', ⟨by have := HJ1.out; have := HK2.out; omega⟩, ⟨by (with_reducible repeat (first | apply Kd.R_alloc | apply Kd.R_drewN | apply Kd.R_drew)); exact HO244.out⟩, ⟨by repeat (first | (with_reducible first | exact HB.out | apply below_alloc | apply pw_below_drewN | apply below_drew1) | exact HB.out)⟩⟩
                      · rw [if_neg c22] at H
                        exact absurd H (by simp)
                    · replace c20 := Bool.eq_false_iff.mpr c20
                      subst c20
                      have H1 : (if (bt (a0.extract 1 ((wrap64 ((a0.size : Int) - 1)) : Int).toNat) x5_2) = 92 then (impl_QuoteGet.j2 k2 (a0.extract 1 ((wrap64 ((a0.size : Int) - 1)) : Int).toNat) x4_2 x5_2 ((wrap64 (x5_2 + 1)) == ((a0.extract 1 ((wrap64 ((a0.size : Int) - 1)) : Int).toNat).size : Int))) else (impl_QuoteGet.j2 k2 (a0.extract 1 ((wrap64 ((a0.size : Int) - 1)) : Int).toNat) x4_2 x5_2 true)) = some (r1, r2) := by rw [if_neg (show ¬ (false = true) by decide)] at H; exact H
                      clear H
                      have H := H1
                      clear H1
                      have HC24 := Aside0.mk H
                      clear H
                      have p18 : 0 ≤ (x5_2 : Int) := of_decide_eq_true (by first | (with_reducible assumption) | assumption)
                      have q18 : x5_2 < ((a0.extract 1 ((wrap64 ((a0.size : Int) - 1)) : Int).toNat).size : Int) := of_decide_eq_true (by first | (with_reducible assumption) | assumption)
                      have hx18 := bt_at (a0.extract 1 ((wrap64 ((a0.size : Int) - 1)) : Int).toNat) x5_2
                      replace p18 := eq_true p18
                      replace q18 := eq_true q18
                      go_upto_region 10 with (first | ((with_reducible refine gate_callee (f := 38) rfl ?_); refine goesL_ (some 38) rfl rfl Try.func38 (by kernel_rfl) rfl #[.int .u8 (bt (a0.extract 1 ((wrap64 ((a0.size : Int) - 1)) : Int).toNat) x5_2)] rfl (by (try simp only [List.map_toArray, List.map_cons, List.map_nil]); first | done | rfl | (simp only [List.length_drop, List.length_take]; rfl)) ?_; (with_reducible refine (impl_plain.calls (bt (a0.extract 1 ((wrap64 ((a0.size : Int) - 1)) : Int).toNat) x5_2) false _ A19.out).mono ?_); rintro e w' ⟨rfl, ⟨nd, rfl⟩⟩; refine ⟨_, rfl, ?_⟩))
                      (try simp only [Act.put, List.setIfInBounds_toArray, List.set_cons_zero, List.set_cons_succ])
                      go_cut [55] (fun v55 wc => ∃ (kq : Nat) (x55_23 : Bool), v55 = .bool x55_23 ∧ Aside0 (impl_QuoteGet.j2 kq (a0.extract 1 ((wrap64 ((a0.size : Int) - 1)) : Int).toNat) x4_2 x5_2 x55_23 = some (r1, r2)) ∧ Aside0 (kq ≤ k2) ∧ Aside0 (Kd.R (Kd.int .u8) 5 wc w.heap.size (fun _ => True) u4 x4_2) ∧ Aside0 (Below w.heap.size w wc))
                      case first =>
                        have H := HC24.out
                        clear HC24
                        by_cases c26 : (bt (a0.extract 1 ((wrap64 ((a0.size : Int) - 1)) : Int).toNat) x5_2) = 92
                        · rw [if_pos c26] at H
                          have c26b0 : ((bt (a0.extract 1 ((wrap64 ((a0.size : Int) - 1)) : Int).toNat) x5_2) == 92) = true := beq_iff_eq.mpr c26
                          have c26b1 : ((bt (a0.extract 1 ((wrap64 ((a0.size : Int) - 1)) : Int).toNat) x5_2) != 92) = false := bne_eq_false_iff_eq.mpr c26
                          clear c26
                          (first | rw [c26b0] | (simp only [i64_w, i32_w]; rw [c26b0]) | skip)
                          have H' := Aside0.mk H
                          clear H
                          have p25 : 0 ≤ (x5_2 : Int) := of_decide_eq_true (by first | (with_reducible assumption) | assumption)
                          have q25 : x5_2 < ((a0.extract 1 ((wrap64 ((a0.size : Int) - 1)) : Int).toNat).size : Int) := of_decide_eq_true (by first | (with_reducible assumption) | assumption)
                          have hx25 := bt_at (a0.extract 1 ((wrap64 ((a0.size : Int) - 1)) : Int).toNat) x5_2
                          replace p25 := eq_true p25
                          replace q25 := eq_true q25
                          go_wp2
                          go_meet
                          case rel => exact ⟨_, (((wrap64 (x5_2 + 1)) == ((a0.extract 1 ((wrap64 ((a0.size : Int) - 1)) : Int).toNat).size : Int))), (by first | rfl | (simp; done) | (simp [*]; done)), H', ⟨by have := HJ1.out; have := HK2.out; first | omega | exact Nat.le_refl _⟩, ⟨by (with_reducible repeat (first | apply Kd.R_alloc | apply Kd.R_drewN | apply Kd.R_drew)); exact HO_4.out⟩, ⟨by repeat (first | (with_reducible first | exact HB.out | apply below_alloc | apply pw_below_drewN | apply below_drew1) | exact HB.out)⟩⟩
                        · rw [if_neg c26] at H
                          have c26b0 : ((bt (a0.extract 1 ((wrap64 ((a0.size : Int) - 1)) : Int).toNat) x5_2) == 92) = false := beq_eq_false_iff_ne.mpr c26
                          have c26b1 : ((bt (a0.extract 1 ((wrap64 ((a0.size : Int) - 1)) : Int).toNat) x5_2) != 92) = true := bne_iff_ne.mpr c26
                          (first | rw [c26b0] | (simp only [i64_w, i32_w]; rw [c26b0]) | skip)
                          have H' := Aside0.mk H
                          clear H
                          have p25 : 0 ≤ (x5_2 : Int) := of_decide_eq_true (by first | (with_reducible assumption) | assumption)
                          have q25 : x5_2 < ((a0.extract 1 ((wrap64 ((a0.size : Int) - 1)) : Int).toNat).size : Int) := of_decide_eq_true (by first | (with_reducible assumption) | assumption)
                          have hx25 := bt_at (a0.extract 1 ((wrap64 ((a0.size : Int) - 1)) : Int).toNat) x5_2
                          replace p25 := eq_true p25
                          replace q25 := eq_true q25
                          go_wp2
                          go_meet
                          case rel => exact ⟨_, (true), (by first | rfl | (simp; done) | (simp [*]; done)), H', ⟨by have := HJ1.out; have := HK2.out; first | omega | exact Nat.le_refl _⟩, ⟨by (with_reducible repeat (first | apply Kd.R_alloc | apply Kd.R_drewN | apply Kd.R_drew)); exact HO_4.out⟩, ⟨by repeat (first | (with_reducible first | exact HB.out | apply below_alloc | apply pw_below_drewN | apply below_drew1) | exact HB.out)⟩⟩
                      case rest =>
                        clear HC24
                        try clear c1
                        try clear p1
                        try clear q1
                        try clear hx1
                        try clear c2
                        try clear p2
                        try clear q2
                        try clear hx2
                        try clear c3
                        try clear c3b0
                        try clear c3b1
                        try clear c4
                        try clear c4b0
                        try clear c4b1
                        try clear p5
                        try clear q5
                        try clear hx5
                        try clear qi5
                        try clear c6
                        try clear c6b0
                        try clear c6b1
                        try clear p6
                        try clear c8
                        try clear c8b0
                        try clear c9
                        try clear c9b0
                        try clear p10
                        try clear q10
                        try clear hx10
                        try clear c11
                        try clear c12
                        try clear c12b0
                        try clear c12b1
                        try clear c13
                        try clear c13b0
                        try clear c13b1
                        try clear c16
                        try clear c16b0
                        try clear c17
                        try clear c17b0
                        try clear p18
                        try clear q18
                        try clear hx18
                        try clear c20
                        try clear p21
                        try clear q21
                        try clear hx21
                        try clear c22
                        try clear c25
                        try clear p25
                        try clear q25
                        try clear hx25
                        try clear c26
                        try clear c26b0
                        try clear c26b1
                        try clear p1
                        try clear p10
                        try clear p18
                        try clear p2
                        try clear p21
                        try clear p25
                        try clear p5
                        try clear p6
                        try clear q1
                        try clear q10
                        try clear q18
                        try clear q21
                        try clear q25
                        try clear q5
                        obtain ⟨kq, x55_23, rfl, HA, HJ23, HO_4, HB⟩ := hcut
                        cases kq with
                        | zero => exact absurd HA.out (by simp [impl_QuoteGet.j2])
                        | succ kj23 =>
                          have H := HA.out
                          clear HA
                          simp only [impl_QuoteGet.j2] at H
                          by_cases c27 : x55_23 = true
                          · subst c27
                            have H1 : (some ((⟨#[]⟩ : ByteArray), false)) = some (r1, r2) := by rw [if_pos rfl] at H; exact H
                            clear H
                            have H := H1
                            clear H1
                            simp only [Option.some.injEq, Prod.mk.injEq] at H
                            obtain ⟨rfl, rfl⟩ := H
                            go_wp2
                            go_ret2
                            exact ⟨by first | rfl | (simp [errW_none, errW_some] <;> rfl) | (simp [*, errW_none, errW_some] <;> rfl), by repeat (first | (with_reducible first | exact HB.out | apply below_alloc | apply pw_below_drewN | apply below_drew1) | exact HB.out)⟩
                          · replace c27 := Bool.eq_false_iff.mpr c27
                            subst c27
                            have H1 : (if 0 ≤ (wrap64 (x5_2 + 1)) then (if (wrap64 (x5_2 + 1)) < ((a0.extract 1 ((wrap64 ((a0.size : Int) - 1)) : Int).toNat).size : Int) then (if (bt (a0.extract 1 ((wrap64 ((a0.size : Int) - 1)) : Int).toNat) (wrap64 (x5_2 + 1))) = 34 then (impl_QuoteGet.j3 kj23 (a0.extract 1 ((wrap64 ((a0.size : Int) - 1)) : Int).toNat) x4_2 (wrap64 (x5_2 + 1)) (bt (a0.extract 1 ((wrap64 ((a0.size : Int) - 1)) : Int).toNat) (wrap64 (x5_2 + 1))) ((bt (a0.extract 1 ((wrap64 ((a0.size : Int) - 1)) : Int).toNat) (wrap64 (x5_2 + 1))) == 34)) else (impl_QuoteGet.j3 kj23 (a0.extract 1 ((wrap64 ((a0.size : Int) - 1)) : Int).toNat) x4_2 (wrap64 (x5_2 + 1)) (bt (a0.extract 1 ((wrap64 ((a0.size : Int) - 1)) : Int).toNat) (wrap64 (x5_2 + 1))) ((bt (a0.extract 1 ((wrap64 ((a0.size : Int) - 1)) : Int).toNat) (wrap64 (x5_2 + 1))) == 92))) else (none)) else (none)) = some (r1, r2) := by rw [if_neg (show ¬ (false = true) by decide)] at H; exact H
                            clear H
                            have H := H1
                            clear H1
                            obtain ⟨ji28, hji28⟩ : ∃ j_ : Int, (wrap64 (x5_2 + 1)) = j_ := ⟨_, rfl⟩
                            replace H : (if 0 ≤ (ji28) then (if (ji28) < ((a0.extract 1 ((wrap64 ((a0.size : Int) - 1)) : Int).toNat).size : Int) then (if (bt (a0.extract 1 ((wrap64 ((a0.size : Int) - 1)) : Int).toNat) (ji28)) = 34 then (impl_QuoteGet.j3 kj23 (a0.extract 1 ((wrap64 ((a0.size : Int) - 1)) : Int).toNat) x4_2 ji28 (bt (a0.extract 1 ((wrap64 ((a0.size : Int) - 1)) : Int).toNat) (ji28)) ((bt (a0.extract 1 ((wrap64 ((a0.size : Int) - 1)) : Int).toNat) (ji28)) == 34)) else (impl_QuoteGet.j3 kj23 (a0.extract 1 ((wrap64 ((a0.size : Int) - 1)) : Int).toNat) x4_2 ji28 (bt (a0.extract 1 ((wrap64 ((a0.size : Int) - 1)) : Int).toNat) (ji28)) ((bt (a0.extract 1 ((wrap64 ((a0.size : Int) - 1)) : Int).toNat) (ji28)) == 92))) else (none)) else (none)) = some (r1, r2) := by first | (rw [hji28] at H; exact H) | (simp only [hji28] at H ⊢; exact H)
                            have hji28w : (IntKind.i64.wrap (x5_2 + 1)) = ji28 := (i64_w _).trans hji28
                            by_cases c29 : 0 ≤ (ji28)
                            · rw [if_pos c29] at H
                              have c29b0 : decide (0 ≤ (ji28)) = true := decide_eq_true c29
                              clear c29
                              by_cases c30 : (ji28) < ((a0.extract 1 ((wrap64 ((a0.size : Int) - 1)) : Int).toNat).size : Int)
                              · rw [if_pos c30] at H
                                have c30b0 : decide ((ji28) < ((a0.extract 1 ((wrap64 ((a0.size : Int) - 1)) : Int).toNat).size : Int)) = true := decide_eq_true c30
                                clear c30
                                have HC32 := Aside0.mk H
                                clear H
                                have p31 : 0 ≤ ((ji28) : Int) := of_decide_eq_true (by first | (with_reducible assumption) | assumption)
                                have q31 : (ji28) < ((a0.extract 1 ((wrap64 ((a0.size : Int) - 1)) : Int).toNat).size : Int) := of_decide_eq_true (by first | (with_reducible assumption) | assumption)
                                have hx31 := bt_at (a0.extract 1 ((wrap64 ((a0.size : Int) - 1)) : Int).toNat) (ji28)
                                replace p31 := eq_true p31
                                replace q31 := eq_true q31
                                go_upto_if 61 with (fail)
                                go_cut [61] (fun v61 wc => ∃ (kq : Nat) (x61_31 : Bool), v61 = .bool x61_31 ∧ Aside0 (impl_QuoteGet.j3 kq (a0.extract 1 ((wrap64 ((a0.size : Int) - 1)) : Int).toNat) x4_2 ji28 (bt (a0.extract 1 ((wrap64 ((a0.size : Int) - 1)) : Int).toNat) (ji28)) x61_31 = some (r1, r2)) ∧ Aside0 (kq ≤ kj23) ∧ Aside0 (Kd.R (Kd.int .u8) 5 wc w.heap.size (fun _ => True) u4 x4_2) ∧ Aside0 (Below w.heap.size w wc))
                                case first =>
                                  have H := HC32.out
                                  clear HC32
                                  by_cases c33 : (bt (a0.extract 1 ((wrap64 ((a0.size : Int) - 1)) : Int).toNat) (ji28)) = 34
                                  · rw [if_pos c33] at H
                                    have c33b0 : ((bt (a0.extract 1 ((wrap64 ((a0.size : Int) - 1)) : Int).toNat) (ji28)) == 34) = true := beq_iff_eq.mpr c33
                                    have c33b1 : ((bt (a0.extract 1 ((wrap64 ((a0.size : Int) - 1)) : Int).toNat) (ji28)) != 34) = false := bne_eq_false_iff_eq.mpr c33
                                    clear c33
                                    (first | rw [c33b0] | (simp only [i64_w, i32_w]; rw [c33b0]) | skip)
                                    have H' := Aside0.mk H
                                    clear H
                                    go_wp2
                                    go_meet
                                    case rel => exact ⟨_, (((bt (a0.extract 1 ((wrap64 ((a0.size : Int) - 1)) : Int).toNat) (ji28)) == 34)), (by first | rfl | (simp; done) | (simp only [*]; done) | (simp [*]; done) | ((simp only [← hji28] <;> (first | rfl | simp)); done)), H', ⟨by have := HJ1.out; have := HK2.out; have := HJ23.out; first | omega | exact Nat.le_refl _⟩, ⟨by (with_reducible repeat (first | apply Kd.R_alloc | apply Kd.R_drewN | apply Kd.R_drew)); exact HO_4.out⟩, ⟨by repeat (first | (with_reducible first | exact HB.out | apply below_alloc | apply pw_below_drewN | apply below_drew1) | exact HB.out)⟩⟩
                                  · rw [if_neg c33] at H
                                    have c33b0 : ((bt (a0.extract 1 ((wrap64 ((a0.size : Int) - 1)) : Int).toNat) (ji28)) == 34) = false := beq_eq_false_iff_ne.mpr c33
                                    have c33b1 : ((bt (a0.extract 1 ((wrap64 ((a0.size : Int) - 1)) : Int).toNat) (ji28)) != 34) = true := bne_iff_ne.mpr c33
                                    (first | rw [c33b0] | (simp only [i64_w, i32_w]; rw [c33b0]) | skip)
                                    have H' := Aside0.mk H
                                    clear H
                                    go_wp2
                                    go_meet
                                    case rel => exact ⟨_, (((bt (a0.extract 1 ((wrap64 ((a0.size : Int) - 1)) : Int).toNat) (ji28)) == 92)), (by first | rfl | (simp; done) | (simp only [*]; done) | (simp [*]; done) | ((simp only [← hji28] <;> (first | rfl | simp)); done)), H', ⟨by have := HJ1.out; have := HK2.out; have := HJ23.out; first | omega | exact Nat.le_refl _⟩, ⟨by (with_reducible repeat (first | apply Kd.R_alloc | apply Kd.R_drewN | apply Kd.R_drew)); exact HO_4.out⟩, ⟨by repeat (first | (with_reducible first | exact HB.out | apply below_alloc | apply pw_below_drewN | apply below_drew1) | exact HB.out)⟩⟩
                                case rest =>
                                  clear HC32
                                  try clear c1
                                  try clear p1
                                  try clear q1
                                  try clear hx1
                                  try clear c2
                                  try clear p2
                                  try clear q2
                                  try clear hx2
                                  try clear c3
                                  try clear c3b0
                                  try clear c3b1
                                  try clear p3
                                  try clear q3
                                  try clear hx3
                                  try clear c4
                                  try clear c4b0
                                  try clear c4b1
                                  try clear p5
                                  try clear q5
                                  try clear hx5
                                  try clear qi5
                                  try clear c6
                                  try clear c6b0
                                  try clear c6b1
                                  try clear p6
                                  try clear c8
                                  try clear c8b0
                                  try clear c9
                                  try clear c9b0
                                  try clear p10
                                  try clear q10
                                  try clear hx10
                                  try clear c11
                                  try clear c12
                                  try clear c12b0
                                  try clear c12b1
                                  try clear c13
                                  try clear c13b0
                                  try clear c13b1
                                  try clear c16
                                  try clear c16b0
                                  try clear c17
                                  try clear c17b0
                                  try clear p18
                                  try clear q18
                                  try clear hx18
                                  try clear c20
                                  try clear p21
                                  try clear q21
                                  try clear hx21
                                  try clear c22
                                  try clear c25
                                  try clear p25
                                  try clear q25
                                  try clear hx25
                                  try clear c26
                                  try clear c26b0
                                  try clear c26b1
                                  try clear c27
                                  try clear c29
                                  try clear c29b0
                                  try clear c30
                                  try clear c30b0
                                  try clear p31
                                  try clear q31
                                  try clear hx31
                                  try clear c33
                                  try clear c33b0
                                  try clear c33b1
                                  try clear p1
                                  try clear p10
                                  try clear p18
                                  try clear p2
                                  try clear p21
                                  try clear p25
                                  try clear p31
                                  try clear p5
                                  try clear p6
                                  try clear q1
                                  try clear q10
                                  try clear q18
                                  try clear q2
                                  try clear q21
                                  try clear q25
                                  try clear q31
                                  try clear q5
                                  obtain ⟨kq, x61_31, rfl, HA, HJ31, HO_4, HB⟩ := hcut
                                  cases kq with
                                  | zero => exact absurd HA.out (by simp [impl_QuoteGet.j3])
                                  | succ kj31 =>
                                    have H := HA.out
                                    clear HA
                                    simp only [impl_QuoteGet.j3] at H
                                    by_cases c34 : x61_31 = true
                                    · subst c34
                                      have H1 : (if 0 ≤ ji28 then (if ji28 < ((a0.extract 1 ((wrap64 ((a0.size : Int) - 1)) : Int).toNat).size : Int) then (if x4_2.length < 140737488355328 then (impl_QuoteGet.l0 kj31 (a0.extract 1 ((wrap64 ((a0.size : Int) - 1)) : Int).toNat) (x4_2 ++ [bt (a0.extract 1 ((wrap64 ((a0.size : Int) - 1)) : Int).toNat) ji28]) (wrap64 (ji28 + 1))) else (none)) else (none)) else (none)) = some (r1, r2) := by rw [if_pos rfl] at H; exact H
                                      clear H
                                      have H := H1
                                      clear H1
                                      by_cases c35 : 0 ≤ ji28
                                      · rw [if_pos c35] at H
                                        have c35b0 : decide (0 ≤ ji28) = true := decide_eq_true c35
                                        clear c35
                                        by_cases c36 : ji28 < ((a0.extract 1 ((wrap64 ((a0.size : Int) - 1)) : Int).toNat).size : Int)
                                        · rw [if_pos c36] at H
                                          have c36b0 : decide (ji28 < ((a0.extract 1 ((wrap64 ((a0.size : Int) - 1)) : Int).toNat).size : Int)) = true := decide_eq_true c36
                                          clear c36
                                          by_cases c38 : x4_2.length < 140737488355328
                                          · rw [if_pos c38] at H
                                            have LMc38 := Aside0.mk c38
                                            clear c38
                                            obtain ⟨y245, hy245⟩ : ∃ y_ : List Int, y_ = (x4_2 ++ [bt (a0.extract 1 ((wrap64 ((a0.size : Int) - 1)) : Int).toNat) ji28]) := ⟨_, rfl⟩
                                            replace H : (impl_QuoteGet.l0 kj31 (a0.extract 1 ((wrap64 ((a0.size : Int) - 1)) : Int).toNat) y245 (wrap64 (ji28 + 1))) = some (r1, r2) := by first | (rw [hy245]; with_reducible exact H) | (have H2_ := (Option.bind_some _ _).symm.trans H; rw [hy245]; with_reducible exact H2_) | (have H2_ := (Option.bind_some _ _).symm.trans H; with_reducible exact H2_) | with_reducible exact H | (rw [hy245]; exact H) | exact H
                                            have Ny245 := Aside0.mk hy245
                                            clear hy245
                                            have H' := Aside0.mk H
                                            clear H
                                            have p37 : 0 ≤ (ji28 : Int) := of_decide_eq_true (by first | (with_reducible assumption) | assumption)
                                            have q37 : ji28 < ((a0.extract 1 ((wrap64 ((a0.size : Int) - 1)) : Int).toNat).size : Int) := of_decide_eq_true (by first | (with_reducible assumption) | assumption)
                                            have hx37 := bt_at (a0.extract 1 ((wrap64 ((a0.size : Int) - 1)) : Int).toNat) ji28
                                            replace p37 := eq_true p37
                                            replace q37 := eq_true q37
                                            go_wp2_with (first | ((with_reducible refine gate_builtin (b := .append) (xs := #[.tmp 64, .tmp 68]) rfl ?_); (try (refine gate_guard (by rfl) ?_; dsimp only)); at_builtin; refine Kd.R_append (Kd.int .u8) (w0 := w) w.heap.size rfl (.tmp 64) (.tmp 68) 44 5 (.int .u8 0) 1 rfl Try.underlying44 info5 rfl (by decide) (by omega) u4 x4_2 (bt (a0.extract 1 ((wrap64 ((a0.size : Int) - 1)) : Int).toNat) ji28) [.int .u8 (bt (a0.extract 1 ((wrap64 ((a0.size : Int) - 1)) : Int).toNat) ji28)] (fun _ => True) (fun _ => False) rfl rfl ?aP (fun _ hk => hk.elim) ?aF ?aO ?aB ?aS ?aL ?_; (case aP => exact rfl); (case aB => exact (by repeat (first | (with_reducible first | exact HB.out | apply below_alloc | apply pw_below_drewN | apply below_drew1) | exact HB.out))); (case aF => exact (fun _ _ => trivial)); (case aO => exact (by (with_reducible repeat (first | apply Kd.R_alloc | apply Kd.R_drewN | apply Kd.R_drew)); exact HO_4.out)); (case aS => exact (below_size (by repeat (first | (with_reducible first | exact HB.out | apply below_alloc | apply pw_below_drewN | apply below_drew1) | exact HB.out)))); (case aL => have := LMc38.out; (first | omega | (simp only [ByteArray.size, List.size_toArray, List.length_cons, List.length_nil] at *; omega))); intro v246 w39 ho hb hg hat; rw [← Ny245.out] at ho; have n0_ := Aside0.mk (hb); have n1_ := Aside0.mk (ho); clear HB; clear HO_4; have HB := n0_; have HO247 := n1_; clear n0_ n1_; clear ho hb hg hat))
                                            go_roundg kj31
                                            case measure => have := HJ1.out; have := HK2.out; have := HJ23.out; have := HJ31.out; omega
                                            case rel => exact ⟨(y245), (wrap64 (ji28 + 1)), (by first | rfl | (simp; done) | (simp only [*]; done) | (simp [*]; done) | ((simp only [← hji28] <;> (first | rfl | simp)); done)), H', ⟨by have := HJ1.out; have := HK2.out; have := HJ23.out; have := HJ31.out; omega⟩, ⟨by (with_reducible repeat (first | apply Kd.R_alloc | apply Kd.R_drewN | apply Kd.R_drew)); exact HO247.out⟩, ⟨by repeat (first | (with_reducible first | exact HB.out | apply below_alloc | apply pw_below_drewN | apply below_drew1) | exact HB.out)⟩⟩
                                          · rw [if_neg c38] at H
                                            exact absurd H (by simp)
                                        · rw [if_neg c36] at H
                                          exact absurd H (by simp)
                                      · rw [if_neg c35] at H
                                        exact absurd H (by simp)
                                    · replace c34 := Bool.eq_false_iff.mpr c34
                                      subst c34
                                      have H1 : (if (bt (a0.extract 1 ((wrap64 ((a0.size : Int) - 1)) : Int).toNat) (ji28)) = 110 then (if x4_2.length < 140737488355328 then (impl_QuoteGet.l0 kj31 (a0.extract 1 ((wrap64 ((a0.size : Int) - 1)) : Int).toNat) (x4_2 ++ [10]) (wrap64 (ji28 + 1))) else (none)) else (if (bt (a0.extract 1 ((wrap64 ((a0.size : Int) - 1)) : Int).toNat) (ji28)) = 120 then (if 0 ≤ (wrap64 (ji28 + 1)) then (if (wrap64 (ji28 + 1)) ≤ ((a0.extract 1 ((wrap64 ((a0.size : Int) - 1)) : Int).toNat).size : Int) then ((impl_unhex.f ((a0.extract 1 ((wrap64 ((a0.size : Int) - 1)) : Int).toNat).extract ((wrap64 (ji28 + 1)) : Int).toNat (a0.extract 1 ((wrap64 ((a0.size : Int) - 1)) : Int).toNat).size)).bind fun t251 => (if t251 < 0 then (some ((⟨#[]⟩ : ByteArray), false)) else (if x4_2.length < 140737488355328 then (impl_QuoteGet.l0 kj31 (a0.extract 1 ((wrap64 ((a0.size : Int) - 1)) : Int).toNat) (x4_2 ++ [(t251) % 256]) (wrap64 ((wrap64 (ji28 + 2)) + 1))) else (none)))) else (none)) else (none)) else (some ((⟨#[]⟩ : ByteArray), false)))) = some (r1, r2) := by rw [if_neg (show ¬ (false = true) by decide)] at H; exact H
                                      clear H
                                      have H := H1
                                      clear H1
                                      by_cases c40 : (bt (a0.extract 1 ((wrap64 ((a0.size : Int) - 1)) : Int).toNat) (ji28)) = 110
                                      · rw [if_pos c40] at H
                                        have c40b0 : ((bt (a0.extract 1 ((wrap64 ((a0.size : Int) - 1)) : Int).toNat) (ji28)) == 110) = true := beq_iff_eq.mpr c40
                                        have c40b1 : ((bt (a0.extract 1 ((wrap64 ((a0.size : Int) - 1)) : Int).toNat) (ji28)) != 110) = false := bne_eq_false_iff_eq.mpr c40
                                        clear c40
                                        by_cases c41 : x4_2.length < 140737488355328
                                        · rw [if_pos c41] at H
                                          have LMc41 := Aside0.mk c41
                                          clear c41
                                          obtain ⟨y248, hy248⟩ : ∃ y_ : List Int, y_ = (x4_2 ++ [10]) := ⟨_, rfl⟩
                                          replace H : (impl_QuoteGet.l0 kj31 (a0.extract 1 ((wrap64 ((a0.size : Int) - 1)) : Int).toNat) y248 (wrap64 (ji28 + 1))) = some (r1, r2) := by first | (rw [hy248]; with_reducible exact H) | (have H2_ := (Option.bind_some _ _).symm.trans H; rw [hy248]; with_reducible exact H2_) | (have H2_ := (Option.bind_some _ _).symm.trans H; with_reducible exact H2_) | with_reducible exact H | (rw [hy248]; exact H) | exact H
                                          have Ny248 := Aside0.mk hy248
                                          clear hy248
                                          have H' := Aside0.mk H
                                          clear H
                                          go_wp2_with (first | ((with_reducible refine gate_builtin (b := .append) (xs := #[.tmp 72, .tmp 73]) rfl ?_); (try (refine gate_guard (by rfl) ?_; dsimp only)); at_builtin; refine Kd.R_append (Kd.int .u8) (w0 := w) w.heap.size rfl (.tmp 72) (.tmp 73) 44 5 (.int .u8 0) 1 rfl Try.underlying44 info5 rfl (by decide) (by omega) u4 x4_2 10 [.int .u8 10] (fun _ => True) (fun _ => False) rfl rfl ?aP (fun _ hk => hk.elim) ?aF ?aO ?aB ?aS ?aL ?_; (case aP => exact rfl); (case aB => exact (by repeat (first | (with_reducible first | exact HB.out | apply below_alloc | apply pw_below_drewN | apply below_drew1) | exact HB.out))); (case aF => exact (fun _ _ => trivial)); (case aO => exact (by (with_reducible repeat (first | apply Kd.R_alloc | apply Kd.R_drewN | apply Kd.R_drew)); exact HO_4.out)); (case aS => exact (below_size (by repeat (first | (with_reducible first | exact HB.out | apply below_alloc | apply pw_below_drewN | apply below_drew1) | exact HB.out)))); (case aL => have := LMc41.out; (first | omega | (simp only [ByteArray.size, List.size_toArray, List.length_cons, List.length_nil] at *; omega))); intro v249 w42 ho hb hg hat; rw [← Ny248.out] at ho; have n0_ := Aside0.mk (hb); have n1_ := Aside0.mk (ho); clear HB; clear HO_4; have HB := n0_; have HO250 := n1_; clear n0_ n1_; clear ho hb hg hat))
                                          go_roundg kj31
                                          case measure => have := HJ1.out; have := HK2.out; have := HJ23.out; have := HJ31.out; omega
                                          case rel => exact ⟨(y248), (wrap64 (ji28 + 1)), (by first | rfl | (simp; done) | (simp only [*]; done) | (simp [*]; done) | ((simp only [← hji28] <;> (first | rfl | simp)); done)), H', ⟨by have := HJ1.out; have := HK2.out; have := HJ23.out; have := HJ31.out; omega⟩, ⟨by (with_reducible repeat (first | apply Kd.R_alloc | apply Kd.R_drewN | apply Kd.R_drew)); exact HO250.out⟩, ⟨by repeat (first | (with_reducible first | exact HB.out | apply below_alloc | apply pw_below_drewN | apply below_drew1) | exact HB.out)⟩⟩
                                        · rw [if_neg c41] at H
                                          exact absurd H (by simp)
                                      · rw [if_neg c40] at H
                                        have c40b0 : ((bt (a0.extract 1 ((wrap64 ((a0.size : Int) - 1)) : Int).toNat) (ji28)) == 110) = false := beq_eq_false_iff_ne.mpr c40
                                        have c40b1 : ((bt (a0.extract 1 ((wrap64 ((a0.size : Int) - 1)) : Int).toNat) (ji28)) != 110) = true := bne_iff_ne.mpr c40
                                        by_cases c43 : (bt (a0.extract 1 ((wrap64 ((a0.size : Int) - 1)) : Int).toNat) (ji28)) = 120
                                        · rw [if_pos c43] at H
                                          have c43b0 : ((bt (a0.extract 1 ((wrap64 ((a0.size : Int) - 1)) : Int).toNat) (ji28)) == 120) = true := beq_iff_eq.mpr c43
                                          have c43b1 : ((bt (a0.extract 1 ((wrap64 ((a0.size : Int) - 1)) : Int).toNat) (ji28)) != 120) = false := bne_eq_false_iff_eq.mpr c43
                                          clear c43
                                          obtain ⟨ji44, hji44⟩ : ∃ j_ : Int, (wrap64 (ji28 + 1)) = j_ := ⟨_, rfl⟩
                                          replace H : (if 0 ≤ (ji44) then (if (ji44) ≤ ((a0.extract 1 ((wrap64 ((a0.size : Int) - 1)) : Int).toNat).size : Int) then ((impl_unhex.f ((a0.extract 1 ((wrap64 ((a0.size : Int) - 1)) : Int).toNat).extract ((ji44) : Int).toNat (a0.extract 1 ((wrap64 ((a0.size : Int) - 1)) : Int).toNat).size)).bind fun t251 => (if t251 < 0 then (some ((⟨#[]⟩ : ByteArray), false)) else (if x4_2.length < 140737488355328 then (impl_QuoteGet.l0 kj31 (a0.extract 1 ((wrap64 ((a0.size : Int) - 1)) : Int).toNat) (x4_2 ++ [(t251) % 256]) (wrap64 ((wrap64 (ji28 + 2)) + 1))) else (none)))) else (none)) else (none)) = some (r1, r2) := by first | (rw [hji44] at H; exact H) | (simp only [hji44] at H ⊢; exact H)
                                          have hji44w : (IntKind.i64.wrap (ji28 + 1)) = ji44 := (i64_w _).trans hji44
                                          by_cases c45 : 0 ≤ (ji44)
                                          · rw [if_pos c45] at H
                                            have c45b0 := eq_true c45
                                            have c45b1 : decide (0 ≤ (ji44)) = true := decide_eq_true c45
                                            clear c45
                                            by_cases c46 : (ji44) ≤ ((a0.extract 1 ((wrap64 ((a0.size : Int) - 1)) : Int).toNat).size : Int)
                                            · rw [if_pos c46] at H
                                              have c46b0 := eq_true c46
                                              have c46b1 : decide ((ji44) ≤ ((a0.extract 1 ((wrap64 ((a0.size : Int) - 1)) : Int).toNat).size : Int)) = true := decide_eq_true c46
                                              clear c46
                                              replace H := Option.bind_eq_some_iff.mp H
                                              obtain ⟨t251, A470, H⟩ := H
                                              replace H : (if t251 < 0 then (some ((⟨#[]⟩ : ByteArray), false)) else (if x4_2.length < 140737488355328 then (impl_QuoteGet.l0 kj31 (a0.extract 1 ((wrap64 ((a0.size : Int) - 1)) : Int).toNat) (x4_2 ++ [(t251) % 256]) (wrap64 ((wrap64 (ji28 + 2)) + 1))) else (none))) = some (r1, r2) := H
                                              have A47 := Aside0.mk A470
                                              clear A470
                                              by_cases c48 : t251 < 0
                                              · rw [if_pos c48] at H
                                                have c48b0 : decide (t251 < 0) = true := decide_eq_true c48
                                                clear c48
                                                simp only [Option.some.injEq, Prod.mk.injEq] at H
                                                obtain ⟨rfl, rfl⟩ := H
                                                go_wp2_with (first | ((with_reducible refine gate_callee (f := 44) rfl ?_); refine goesL_ (some 81) rfl rfl Try.func44 (by kernel_rfl) rfl #[.string ((a0.extract 1 ((wrap64 ((a0.size : Int) - 1)) : Int).toNat).extract ((ji44) : Int).toNat (a0.extract 1 ((wrap64 ((a0.size : Int) - 1)) : Int).toNat).size)] rfl (by (try simp only [List.map_toArray, List.map_cons, List.map_nil]); first | done | (simp only [hji44]; rfl) | rfl | (simp only [List.length_drop, List.length_take]; rfl)) ?_; (with_reducible refine (impl_unhex.calls ((a0.extract 1 ((wrap64 ((a0.size : Int) - 1)) : Int).toNat).extract ((ji44) : Int).toNat (a0.extract 1 ((wrap64 ((a0.size : Int) - 1)) : Int).toNat).size) t251 _ A47.out).mono ?_); rintro e w' ⟨rfl, ⟨nd, rfl⟩⟩; refine ⟨_, rfl, ?_⟩))
                                                go_ret2
                                                exact ⟨by first | rfl | (simp [errW_none, errW_some] <;> rfl) | (simp only [← hji28, ← hji44]; first | rfl | (simp [errW_none, errW_some] <;> rfl)) | (simp [*, errW_none, errW_some] <;> rfl), by repeat (first | (with_reducible first | exact HB.out | apply below_alloc | apply pw_below_drewN | apply below_drew1) | exact HB.out)⟩
                                              · rw [if_neg c48] at H
                                                have c48b0 : decide (t251 < 0) = false := decide_eq_false c48
                                                clear c48
                                                by_cases c49 : x4_2.length < 140737488355328
                                                · rw [if_pos c49] at H
                                                  have LMc49 := Aside0.mk c49
                                                  clear c49
                                                  obtain ⟨y252, hy252⟩ : ∃ y_ : List Int, y_ = (x4_2 ++ [(t251) % 256]) := ⟨_, rfl⟩
                                                  replace H : (impl_QuoteGet.l0 kj31 (a0.extract 1 ((wrap64 ((a0.size : Int) - 1)) : Int).toNat) y252 (wrap64 ((wrap64 (ji28 + 2)) + 1))) = some (r1, r2) := by first | (rw [hy252]; with_reducible exact H) | (have H2_ := (Option.bind_some _ _).symm.trans H; rw [hy252]; with_reducible exact H2_) | (have H2_ := (Option.bind_some _ _).symm.trans H; with_reducible exact H2_) | with_reducible exact H | (rw [hy252]; exact H) | exact H
                                                  have Ny252 := Aside0.mk hy252
                                                  clear hy252
                                                  have H' := Aside0.mk H
                                                  clear H
                                                  go_wp2_with (first | ((with_reducible refine gate_callee (f := 44) rfl ?_); refine goesL_ (some 81) rfl rfl Try.func44 (by kernel_rfl) rfl #[.string ((a0.extract 1 ((wrap64 ((a0.size : Int) - 1)) : Int).toNat).extract ((ji44) : Int).toNat (a0.extract 1 ((wrap64 ((a0.size : Int) - 1)) : Int).toNat).size)] rfl (by (try simp only [List.map_toArray, List.map_cons, List.map_nil]); first | done | (simp only [hji44]; rfl) | rfl | (simp only [List.length_drop, List.length_take]; rfl)) ?_; (with_reducible refine (impl_unhex.calls ((a0.extract 1 ((wrap64 ((a0.size : Int) - 1)) : Int).toNat).extract ((ji44) : Int).toNat (a0.extract 1 ((wrap64 ((a0.size : Int) - 1)) : Int).toNat).size) t251 _ A47.out).mono ?_); rintro e w' ⟨rfl, ⟨nd, rfl⟩⟩; refine ⟨_, rfl, ?_⟩) | ((with_reducible refine gate_builtin (b := .append) (xs := #[.tmp 84, .tmp 87]) rfl ?_); (try (refine gate_guard (by rfl) ?_; dsimp only)); at_builtin; refine Kd.R_append (Kd.int .u8) (w0 := w) w.heap.size rfl (.tmp 84) (.tmp 87) 44 5 (.int .u8 0) 1 rfl Try.underlying44 info5 rfl (by decide) (by omega) u4 x4_2 ((t251) % 256) [.int .u8 ((t251) % 256)] (fun _ => True) (fun _ => False) rfl rfl ?aP (fun _ hk => hk.elim) ?aF ?aO ?aB ?aS ?aL ?_; (case aP => exact rfl); (case aB => exact (by repeat (first | (with_reducible first | exact HB.out | apply below_alloc | apply pw_below_drewN | apply below_drew1) | exact HB.out))); (case aF => exact (fun _ _ => trivial)); (case aO => exact (by (with_reducible repeat (first | apply Kd.R_alloc | apply Kd.R_drewN | apply Kd.R_drew)); exact HO_4.out)); (case aS => exact (below_size (by repeat (first | (with_reducible first | exact HB.out | apply below_alloc | apply pw_below_drewN | apply below_drew1) | exact HB.out)))); (case aL => have := LMc49.out; (first | omega | (simp only [ByteArray.size, List.size_toArray, List.length_cons, List.length_nil] at *; omega))); intro v253 w50 ho hb hg hat; rw [← Ny252.out] at ho; have n0_ := Aside0.mk (hb); have n1_ := Aside0.mk (ho); clear HB; clear HO_4; have HB := n0_; have HO254 := n1_; clear n0_ n1_; clear ho hb hg hat))
                                                  go_roundg kj31
                                                  case measure => have := HJ1.out; have := HK2.out; have := HJ23.out; have := HJ31.out; omega
                                                  case rel => exact ⟨(y252), (wrap64 ((wrap64 (ji28 + 2)) + 1)), (by first | rfl | (simp; done) | (simp only [*]; done) | (simp [*]; done) | ((simp only [← hji28] <;> (first | rfl | simp)); done)), H', ⟨by have := HJ1.out; have := HK2.out; have := HJ23.out; have := HJ31.out; omega⟩, ⟨by (with_reducible repeat (first | apply Kd.R_alloc | apply Kd.R_drewN | apply Kd.R_drew)); exact HO254.out⟩, ⟨by repeat (first | (with_reducible first | exact HB.out | apply below_alloc | apply pw_below_drewN | apply below_drew1) | exact HB.out)⟩⟩
                                                · rw [if_neg c49] at H
                                                  exact absurd H (by simp)
                                            · rw [if_neg c46] at H
                                              exact absurd H (by simp)
                                          · rw [if_neg c45] at H
                                            exact absurd H (by simp)
                                        · rw [if_neg c43] at H
                                          have c43b0 : ((bt (a0.extract 1 ((wrap64 ((a0.size : Int) - 1)) : Int).toNat) (ji28)) == 120) = false := beq_eq_false_iff_ne.mpr c43
                                          have c43b1 : ((bt (a0.extract 1 ((wrap64 ((a0.size : Int) - 1)) : Int).toNat) (ji28)) != 120) = true := bne_iff_ne.mpr c43
                                          simp only [Option.some.injEq, Prod.mk.injEq] at H
                                          obtain ⟨rfl, rfl⟩ := H
                                          go_wp2
                                          go_ret2
                                          exact ⟨by first | rfl | (simp [errW_none, errW_some] <;> rfl) | (simp only [← hji28]; first | rfl | (simp [errW_none, errW_some] <;> rfl)) | (simp [*, errW_none, errW_some] <;> rfl), by repeat (first | (with_reducible first | exact HB.out | apply below_alloc | apply pw_below_drewN | apply below_drew1) | exact HB.out)⟩
                              · rw [if_neg c30] at H
                                exact absurd H (by simp)
                            · rw [if_neg c29] at H
                              exact absurd H (by simp)
                  · rw [if_neg c17] at H
                    exact absurd H (by simp)
                · rw [if_neg c16] at H
                  have c16b0 : decide (x5_2 < ((a0.extract 1 ((wrap64 ((a0.size : Int) - 1)) : Int).toNat).size : Int)) = false := decide_eq_false c16
                  clear c16
                  simp only [Option.some.injEq, Prod.mk.injEq] at H
                  obtain ⟨rfl, rfl⟩ := H
                  have hcv51 := own_string (P := Try.prog) Try.underlying44 Try.underlying5 Try.underlying9 (Kd.own_of_R HO_4.out)
                  go_wp2
                  go_ret2
                  exact ⟨by first | rfl | (simp [errW_none, errW_some] <;> rfl) | (simp [*, errW_none, errW_some] <;> rfl), by repeat (first | (with_reducible first | exact HB.out | apply below_alloc | apply pw_below_drewN | apply below_drew1) | exact HB.out)⟩
          · rw [if_neg c13] at H
            exact absurd H (by simp)
        · rw [if_neg c12] at H
          exact absurd H (by simp)

end Go.Proofs.Ytcgdelmlcjjhoaa.Q
