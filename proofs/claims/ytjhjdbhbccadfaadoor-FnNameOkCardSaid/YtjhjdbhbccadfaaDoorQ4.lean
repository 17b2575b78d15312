-- laid by a program of this session (wip/tools) out of the translation; Lean checks it
import Derived.Test.YtjhjdbhbccadfaaDoorQ0
import Derived.Test.YtjhjdbhbccadfaaDoorQ6
import Derived.Test.YtjhjdbhbccadfaaDoorQ7
import Derived.Test.YtjhjdbhbccadfaaDoorQ8
namespace Go.Proofs.YtjhjdbhbccadfaaDoor.Q
open Go.RowKit Go.Proofs.YtjhjdbhbccadfaaDoorW.PrintWords Go.Proofs.YtjhjdbhbccadfaaDoorW.PrintLast Go.Proofs.YtjhjdbhbccadfaaDoorW.PrintMore Go.Proofs.YtjhjdbhbccadfaaDoorX
attribute [local go_sem] max2_int min2_int max_two min_two max_three min_three max_four min_four   -- for this text's walks alone
set_option linter.unusedVariables false
set_option linter.unusedSimpArgs false

/-! ### laws_FnNameOk: function 4 -/
def laws_FnNameOk.f (k : Nat) (l0 : List Int) (l1 : List (List ByteArray)) : Option (Bool) := if (l0.length : Int) > 1048576 then (some true) else ((spec_DrawNameOk.f k l0).bind fun t141 => ((impl_NameOk.f k t141 l1).bind fun t142 => ((spec_NameOk.f k t141).bind fun t143 => (if (t142 != t143) = true then (none) else (if 1 + t141.size ≤ 9223372036854775807 then ((impl_NameOk.f k ((⟨#[113]⟩ : ByteArray) ++ t141) l1).bind fun t144 => ((spec_NameOk.f k ((⟨#[113]⟩ : ByteArray) ++ t141)).bind fun t145 => (if (t144 != t145) = true then (none) else (if t142 = true then (if (t141.size : Int) ≥ 1 then (if (t141.size : Int) ≤ 12 then (if (t141.size : Int) = 12 then (some true) else (some t144)) else (none)) else (none)) else (some true))))) else (none))))))
theorem laws_FnNameOk.mono : ∀ a0 a1 k, LeO (laws_FnNameOk.f k a0 a1) (laws_FnNameOk.f (k + 1) a0 a1) := by
  intro a0 a1 k
  unfold laws_FnNameOk.f
  repeat' first
      | (with_reducible exact impl_NameOk.mono _ _ _)
      | (with_reducible exact spec_DrawNameOk.mono _ _)
      | (with_reducible exact spec_NameOk.mono _ _)
      | (with_reducible exact LeO.refl _)
      | (with_reducible exact LeO.none _)
      | (with_reducible refine LeO.ite ?_ ?_)
      | (with_reducible refine LeO.bind ?_ (fun _ => ?_))
      | exact impl_NameOk.mono _ _ _
      | exact spec_DrawNameOk.mono _ _
      | exact spec_NameOk.mono _ _
      | exact LeO.none _
      | refine LeO.ite ?_ ?_
      | refine LeO.bind ?_ (fun _ => ?_)
set_option maxHeartbeats 8000000 in
set_option maxRecDepth 100000 in
theorem laws_FnNameOk.calls (k : Nat) (A0 : Option Addr) (c0 : Nat) (l0 : List Int) (A1 : Option Addr) (c1 : Nat) (l1 : List (List ByteArray)) (r : Bool) (w : World) (hr0 : Kd.C (Kd.int .u8) w A0 l0.length l0) (hc0 : l0.length ≤ c0) (hr1 : Kd.C (Kd.slice 9 Kd.string) w A1 l1.length l1) (hc1 : l1.length ≤ c1) (hg1 : A1 = some ⟨0, 0, none⟩) (h : laws_FnNameOk.f k l0 l1 = some r) :
    Calls Tryd.prog 4 #[.slice A0 l0.length c0] w fun e w' => e = .returned (.bool r) ∧ Below w.heap.size w w' := by
  have HR0 := Aside0.mk hr0
  have HC0 := Aside0.mk hc0
  clear hr0 hc0
  have HG1 := Aside0.mk hg1
  clear hg1
  have HR1 := Aside0.mk hr1
  have HC1 := Aside0.mk hc1
  clear hr1 hc1
  have HB := Aside0.mk (Below.refl w.heap.size w)
  have H : (if (l0.length : Int) > 1048576 then (some true) else ((spec_DrawNameOk.f k l0).bind fun t141 => ((impl_NameOk.f k t141 l1).bind fun t142 => ((spec_NameOk.f k t141).bind fun t143 => (if (t142 != t143) = true then (none) else (if 1 + t141.size ≤ 9223372036854775807 then ((impl_NameOk.f k ((⟨#[113]⟩ : ByteArray) ++ t141) l1).bind fun t144 => ((spec_NameOk.f k ((⟨#[113]⟩ : ByteArray) ++ t141)).bind fun t145 => (if (t144 != t145) = true then (none) else (if t142 = true then (if (t141.size : Int) ≥ 1 then (if (t141.size : Int) ≤ 12 then (if (t141.size : Int) = 12 then (some true) else (some t144)) else (none)) else (none)) else (some true))))) else (none))))))) = some r := h
  clear h
  by_cases c3 : (l0.length : Int) > 1048576
  · rw [if_pos c3] at H
    have c3b0 : decide (1048576 < (l0.length : Int)) = true := decide_eq_true c3
    have c3b1 : decide (1048576 < l0.length) = true := decide_eq_true (by omega)
    clear c3
    obtain rfl := Option.some.inj H
    go_enter Tryd.func4, Tryd.ntmps4
    go_wp2
    go_ret
    exact ⟨by first | rfl | (simp [errW_none, errW_some] <;> rfl) | (simp [*, errW_none, errW_some] <;> rfl), by repeat (first | (with_reducible first | exact HB.out | apply below_alloc | apply pw_below_drewN | apply below_drew1) | exact HB.out)⟩
  · rw [if_neg c3] at H
    have c3b0 : decide (1048576 < (l0.length : Int)) = false := decide_eq_false c3
    have c3b1 : decide (1048576 < l0.length) = false := decide_eq_false (by omega)
    clear c3
    replace H := Option.bind_eq_some_iff.mp H
    obtain ⟨t141, A40, H⟩ := H
    replace H : ((impl_NameOk.f k t141 l1).bind fun t142 => ((spec_NameOk.f k t141).bind fun t143 => (if (t142 != t143) = true then (none) else (if 1 + t141.size ≤ 9223372036854775807 then ((impl_NameOk.f k ((⟨#[113]⟩ : ByteArray) ++ t141) l1).bind fun t144 => ((spec_NameOk.f k ((⟨#[113]⟩ : ByteArray) ++ t141)).bind fun t145 => (if (t144 != t145) = true then (none) else (if t142 = true then (if (t141.size : Int) ≥ 1 then (if (t141.size : Int) ≤ 12 then (if (t141.size : Int) = 12 then (some true) else (some t144)) else (none)) else (none)) else (some true))))) else (none))))) = some r := H
    have A4 := Aside0.mk A40
    clear A40
    replace H := Option.bind_eq_some_iff.mp H
    obtain ⟨t142, A50, H⟩ := H
    replace H : ((spec_NameOk.f k t141).bind fun t143 => (if (t142 != t143) = true then (none) else (if 1 + t141.size ≤ 9223372036854775807 then ((impl_NameOk.f k ((⟨#[113]⟩ : ByteArray) ++ t141) l1).bind fun t144 => ((spec_NameOk.f k ((⟨#[113]⟩ : ByteArray) ++ t141)).bind fun t145 => (if (t144 != t145) = true then (none) else (if t142 = true then (if (t141.size : Int) ≥ 1 then (if (t141.size : Int) ≤ 12 then (if (t141.size : Int) = 12 then (some true) else (some t144)) else (none)) else (none)) else (some true))))) else (none)))) = some r := H
    have A5 := Aside0.mk A50
    clear A50
    replace H := Option.bind_eq_some_iff.mp H
    obtain ⟨t143, A60, H⟩ := H
    replace H : (if (t142 != t143) = true then (none) else (if 1 + t141.size ≤ 9223372036854775807 then ((impl_NameOk.f k ((⟨#[113]⟩ : ByteArray) ++ t141) l1).bind fun t144 => ((spec_NameOk.f k ((⟨#[113]⟩ : ByteArray) ++ t141)).bind fun t145 => (if (t144 != t145) = true then (none) else (if t142 = true then (if (t141.size : Int) ≥ 1 then (if (t141.size : Int) ≤ 12 then (if (t141.size : Int) = 12 then (some true) else (some t144)) else (none)) else (none)) else (some true))))) else (none))) = some r := H
    have A6 := Aside0.mk A60
    clear A60
    by_cases c7 : (t142 != t143) = true
    · rw [if_pos c7] at H
      exact absurd H (by simp)
    · rw [if_neg c7] at H
      have c7b0 : (t142 != t143) = false := by simpa using c7
      (try (have c7b1 : decide (t142 = t143) = true := by simpa using c7))
      (try (have c7b2 : (t142 == t143) = true := by simpa using c7))
      clear c7
      by_cases c8 : 1 + t141.size ≤ 9223372036854775807
      · rw [if_pos c8] at H
        have c8b0 := eq_true c8
        have c8b1 : decide (1 + t141.size ≤ 9223372036854775807) = true := decide_eq_true c8
        try have c8b2 : (9223372036854775807 < 1 + t141.size) = False := eq_false (Nat.not_lt.2 c8)
        replace H := Option.bind_eq_some_iff.mp H
        obtain ⟨t144, A90, H⟩ := H
        replace H : ((spec_NameOk.f k ((⟨#[113]⟩ : ByteArray) ++ t141)).bind fun t145 => (if (t144 != t145) = true then (none) else (if t142 = true then (if (t141.size : Int) ≥ 1 then (if (t141.size : Int) ≤ 12 then (if (t141.size : Int) = 12 then (some true) else (some t144)) else (none)) else (none)) else (some true)))) = some r := H
        have A9 := Aside0.mk A90
        clear A90
        replace H := Option.bind_eq_some_iff.mp H
        obtain ⟨t145, A100, H⟩ := H
        replace H : (if (t144 != t145) = true then (none) else (if t142 = true then (if (t141.size : Int) ≥ 1 then (if (t141.size : Int) ≤ 12 then (if (t141.size : Int) = 12 then (some true) else (some t144)) else (none)) else (none)) else (some true))) = some r := H
        have A10 := Aside0.mk A100
        clear A100
        by_cases c11 : (t144 != t145) = true
        · rw [if_pos c11] at H
          exact absurd H (by simp)
        · rw [if_neg c11] at H
          have c11b0 : (t144 != t145) = false := by simpa using c11
          (try (have c11b1 : decide (t144 = t145) = true := by simpa using c11))
          (try (have c11b2 : (t144 == t145) = true := by simpa using c11))
          clear c11
          by_cases c12 : t142 = true
          · subst c12
            have H1 : (if (t141.size : Int) ≥ 1 then (if (t141.size : Int) ≤ 12 then (if (t141.size : Int) = 12 then (some true) else (some t144)) else (none)) else (none)) = some r := by rw [if_pos rfl] at H; exact H
            clear H
            have H := H1
            clear H1
            by_cases c13 : (t141.size : Int) ≥ 1
            · rw [if_pos c13] at H
              have c13b0 : decide (1 ≤ (t141.size : Int)) = true := decide_eq_true c13
              have c13b1 : decide (1 ≤ t141.size) = true := decide_eq_true (by omega)
              clear c13
              by_cases c14 : (t141.size : Int) ≤ 12
              · rw [if_pos c14] at H
                have c14b0 : decide ((t141.size : Int) ≤ 12) = true := decide_eq_true c14
                have c14b1 : decide (t141.size ≤ 12) = true := decide_eq_true (by omega)
                clear c14
                by_cases c15 : (t141.size : Int) = 12
                · rw [if_pos c15] at H
                  have c15b0 : ((t141.size : Int) == 12) = true := beq_iff_eq.mpr c15
                  have c15b1 : ((t141.size : Int) != 12) = false := bne_eq_false_iff_eq.mpr c15
                  clear c15
                  obtain rfl := Option.some.inj H
                  go_enter Tryd.func4, Tryd.ntmps4
                  go_wp2_with (first | ((with_reducible refine gate_callee (f := 8) rfl ?_); refine goesL_ (some 9) rfl rfl Tryd.func8 (by kernel_rfl) rfl #[.slice A0 l0.length c0] rfl (by (try simp only [List.map_toArray, List.map_cons, List.map_nil]); first | done | rfl | (simp only [List.length_drop, List.length_take]; rfl)) ?_; (with_reducible refine (spec_DrawNameOk.calls k _ _ l0 t141 _ ?side1 ?side2 A4.out).mono ?_); (case side1 => repeat (first | exact HR0.out | (with_reducible refine Kd.C_alloc ?_ _) | (with_reducible refine Kd.C_drewN ?_ _) | (with_reducible refine Kd.C_drew ?_))); (case side2 => exact HC0.out); rintro e w16 ⟨rfl, hb⟩; refine ⟨_, rfl, ?_⟩; have n0_ := Aside0.mk (below_step (by repeat (first | (with_reducible first | exact HB.out | apply below_alloc | apply pw_below_drewN | apply below_drew1) | exact HB.out)) hb); clear HB; have HB := n0_; clear n0_; (try clear hb); (try clear hb2); (try clear hk); (try clear hi)) | ((with_reducible refine gate_callee (f := 7) rfl ?_); refine goesL_ (some 11) rfl rfl Tryd.func7 (by kernel_rfl) rfl #[.string t141] rfl (by (try simp only [List.map_toArray, List.map_cons, List.map_nil]); first | done | rfl | (simp only [List.length_drop, List.length_take]; rfl)) ?_; (with_reducible refine (impl_NameOk.calls k t141 A1 c1 l1 true _ ?side1 ?side2 ?side3 A5.out).mono ?_); (case side1 => repeat (first | exact (Kd.C_below HR1.out HB.out) | (with_reducible refine Kd.C_alloc ?_ _) | (with_reducible refine Kd.C_drewN ?_ _) | (with_reducible refine Kd.C_drew ?_))); (case side2 => exact HC1.out); (case side3 => exact HG1.out); rintro e w' ⟨rfl, ⟨nd, rfl⟩⟩; refine ⟨_, rfl, ?_⟩) | ((with_reducible refine gate_callee (f := 6) rfl ?_); refine goesL_ (some 14) rfl rfl Tryd.func6 (by kernel_rfl) rfl #[.string t141] rfl (by (try simp only [List.map_toArray, List.map_cons, List.map_nil]); first | done | rfl | (simp only [List.length_drop, List.length_take]; rfl)) ?_; (with_reducible refine (spec_NameOk.calls k t141 t143 _ A6.out).mono ?_); rintro e w17 ⟨rfl, hb⟩; refine ⟨_, rfl, ?_⟩; have n0_ := Aside0.mk (below_step (by repeat (first | (with_reducible first | exact HB.out | apply below_alloc | apply pw_below_drewN | apply below_drew1) | exact HB.out)) hb); clear HB; have HB := n0_; clear n0_; (try clear hb); (try clear hb2); (try clear hk); (try clear hi)) | (go_at_call 7; (with_reducible refine (impl_NameOk.calls k ((⟨#[113]⟩ : ByteArray) ++ t141) A1 c1 l1 t144 _ ?side1 ?side2 ?side3 A9.out).mono ?_); (case side1 => repeat (first | exact (Kd.C_below HR1.out HB.out) | (with_reducible refine Kd.C_alloc ?_ _) | (with_reducible refine Kd.C_drewN ?_ _) | (with_reducible refine Kd.C_drew ?_))); (case side2 => exact HC1.out); (case side3 => exact HG1.out); rintro e w' ⟨rfl, ⟨nd, rfl⟩⟩) | (go_at_call 6; (with_reducible refine (spec_NameOk.calls k ((⟨#[113]⟩ : ByteArray) ++ t141) t145 _ A10.out).mono ?_); rintro e w18 ⟨rfl, hb⟩; have n0_ := Aside0.mk (below_step (by repeat (first | (with_reducible first | exact HB.out | apply below_alloc | apply pw_below_drewN | apply below_drew1) | exact HB.out)) hb); clear HB; have HB := n0_; clear n0_; (try clear hb); (try clear hb2); (try clear hk); (try clear hi)))
                  go_ret
                  exact ⟨by first | rfl | (simp [errW_none, errW_some] <;> rfl) | (simp [*, errW_none, errW_some] <;> rfl), by repeat (first | (with_reducible first | exact HB.out | apply below_alloc | apply pw_below_drewN | apply below_drew1) | exact HB.out)⟩
                · rw [if_neg c15] at H
                  have c15b0 : ((t141.size : Int) == 12) = false := beq_eq_false_iff_ne.mpr c15
                  have c15b1 : ((t141.size : Int) != 12) = true := bne_iff_ne.mpr c15
                  obtain rfl := Option.some.inj H
                  go_enter Tryd.func4, Tryd.ntmps4
                  go_wp2_with (first | ((with_reducible refine gate_callee (f := 8) rfl ?_); refine goesL_ (some 9) rfl rfl Tryd.func8 (by kernel_rfl) rfl #[.slice A0 l0.length c0] rfl (by (try simp only [List.map_toArray, List.map_cons, List.map_nil]); first | done | rfl | (simp only [List.length_drop, List.length_take]; rfl)) ?_; (with_reducible refine (spec_DrawNameOk.calls k _ _ l0 t141 _ ?side1 ?side2 A4.out).mono ?_); (case side1 => repeat (first | exact HR0.out | (with_reducible refine Kd.C_alloc ?_ _) | (with_reducible refine Kd.C_drewN ?_ _) | (with_reducible refine Kd.C_drew ?_))); (case side2 => exact HC0.out); rintro e w19 ⟨rfl, hb⟩; refine ⟨_, rfl, ?_⟩; have n0_ := Aside0.mk (below_step (by repeat (first | (with_reducible first | exact HB.out | apply below_alloc | apply pw_below_drewN | apply below_drew1) | exact HB.out)) hb); clear HB; have HB := n0_; clear n0_; (try clear hb); (try clear hb2); (try clear hk); (try clear hi)) | ((with_reducible refine gate_callee (f := 7) rfl ?_); refine goesL_ (some 11) rfl rfl Tryd.func7 (by kernel_rfl) rfl #[.string t141] rfl (by (try simp only [List.map_toArray, List.map_cons, List.map_nil]); first | done | rfl | (simp only [List.length_drop, List.length_take]; rfl)) ?_; (with_reducible refine (impl_NameOk.calls k t141 A1 c1 l1 true _ ?side1 ?side2 ?side3 A5.out).mono ?_); (case side1 => repeat (first | exact (Kd.C_below HR1.out HB.out) | (with_reducible refine Kd.C_alloc ?_ _) | (with_reducible refine Kd.C_drewN ?_ _) | (with_reducible refine Kd.C_drew ?_))); (case side2 => exact HC1.out); (case side3 => exact HG1.out); rintro e w' ⟨rfl, ⟨nd, rfl⟩⟩; refine ⟨_, rfl, ?_⟩) | ((with_reducible refine gate_callee (f := 6) rfl ?_); refine goesL_ (some 14) rfl rfl Tryd.func6 (by kernel_rfl) rfl #[.string t141] rfl (by (try simp only [List.map_toArray, List.map_cons, List.map_nil]); first | done | rfl | (simp only [List.length_drop, List.length_take]; rfl)) ?_; (with_reducible refine (spec_NameOk.calls k t141 t143 _ A6.out).mono ?_); rintro e w20 ⟨rfl, hb⟩; refine ⟨_, rfl, ?_⟩; have n0_ := Aside0.mk (below_step (by repeat (first | (with_reducible first | exact HB.out | apply below_alloc | apply pw_below_drewN | apply below_drew1) | exact HB.out)) hb); clear HB; have HB := n0_; clear n0_; (try clear hb); (try clear hb2); (try clear hk); (try clear hi)) | (go_at_call 7; (with_reducible refine (impl_NameOk.calls k ((⟨#[113]⟩ : ByteArray) ++ t141) A1 c1 l1 t144 _ ?side1 ?side2 ?side3 A9.out).mono ?_); (case side1 => repeat (first | exact (Kd.C_below HR1.out HB.out) | (with_reducible refine Kd.C_alloc ?_ _) | (with_reducible refine Kd.C_drewN ?_ _) | (with_reducible refine Kd.C_drew ?_))); (case side2 => exact HC1.out); (case side3 => exact HG1.out); rintro e w' ⟨rfl, ⟨nd, rfl⟩⟩) | (go_at_call 6; (with_reducible refine (spec_NameOk.calls k ((⟨#[113]⟩ : ByteArray) ++ t141) t145 _ A10.out).mono ?_); rintro e w21 ⟨rfl, hb⟩; have n0_ := Aside0.mk (below_step (by repeat (first | (with_reducible first | exact HB.out | apply below_alloc | apply pw_below_drewN | apply below_drew1) | exact HB.out)) hb); clear HB; have HB := n0_; clear n0_; (try clear hb); (try clear hb2); (try clear hk); (try clear hi)))
                  go_ret
                  exact ⟨by first | rfl | (simp [errW_none, errW_some] <;> rfl) | (simp [*, errW_none, errW_some] <;> rfl), by repeat (first | (with_reducible first | exact HB.out | apply below_alloc | apply pw_below_drewN | apply below_drew1) | exact HB.out)⟩
              · rw [if_neg c14] at H
                exact absurd H (by simp)
            · rw [if_neg c13] at H
              exact absurd H (by simp)
          · replace c12 := Bool.eq_false_iff.mpr c12
            subst c12
            have H1 : (some true) = some r := by rw [if_neg (show ¬ (false = true) by decide)] at H; exact H
            clear H
            have H := H1
            clear H1
            obtain rfl := Option.some.inj H
            go_enter Tryd.func4, Tryd.ntmps4
            go_wp2_with (first | ((with_reducible refine gate_callee (f := 8) rfl ?_); refine goesL_ (some 9) rfl rfl Tryd.func8 (by kernel_rfl) rfl #[.slice A0 l0.length c0] rfl (by (try simp only [List.map_toArray, List.map_cons, List.map_nil]); first | done | rfl | (simp only [List.length_drop, List.length_take]; rfl)) ?_; (with_reducible refine (spec_DrawNameOk.calls k _ _ l0 t141 _ ?side1 ?side2 A4.out).mono ?_); (case side1 => repeat (first | exact HR0.out | (with_reducible refine Kd.C_alloc ?_ _) | (with_reducible refine Kd.C_drewN ?_ _) | (with_reducible refine Kd.C_drew ?_))); (case side2 => exact HC0.out); rintro e w22 ⟨rfl, hb⟩; refine ⟨_, rfl, ?_⟩; have n0_ := Aside0.mk (below_step (by repeat (first | (with_reducible first | exact HB.out | apply below_alloc | apply pw_below_drewN | apply below_drew1) | exact HB.out)) hb); clear HB; have HB := n0_; clear n0_; (try clear hb); (try clear hb2); (try clear hk); (try clear hi)) | ((with_reducible refine gate_callee (f := 7) rfl ?_); refine goesL_ (some 11) rfl rfl Tryd.func7 (by kernel_rfl) rfl #[.string t141] rfl (by (try simp only [List.map_toArray, List.map_cons, List.map_nil]); first | done | rfl | (simp only [List.length_drop, List.length_take]; rfl)) ?_; (with_reducible refine (impl_NameOk.calls k t141 A1 c1 l1 false _ ?side1 ?side2 ?side3 A5.out).mono ?_); (case side1 => repeat (first | exact (Kd.C_below HR1.out HB.out) | (with_reducible refine Kd.C_alloc ?_ _) | (with_reducible refine Kd.C_drewN ?_ _) | (with_reducible refine Kd.C_drew ?_))); (case side2 => exact HC1.out); (case side3 => exact HG1.out); rintro e w' ⟨rfl, ⟨nd, rfl⟩⟩; refine ⟨_, rfl, ?_⟩) | ((with_reducible refine gate_callee (f := 6) rfl ?_); refine goesL_ (some 14) rfl rfl Tryd.func6 (by kernel_rfl) rfl #[.string t141] rfl (by (try simp only [List.map_toArray, List.map_cons, List.map_nil]); first | done | rfl | (simp only [List.length_drop, List.length_take]; rfl)) ?_; (with_reducible refine (spec_NameOk.calls k t141 t143 _ A6.out).mono ?_); rintro e w23 ⟨rfl, hb⟩; refine ⟨_, rfl, ?_⟩; have n0_ := Aside0.mk (below_step (by repeat (first | (with_reducible first | exact HB.out | apply below_alloc | apply pw_below_drewN | apply below_drew1) | exact HB.out)) hb); clear HB; have HB := n0_; clear n0_; (try clear hb); (try clear hb2); (try clear hk); (try clear hi)) | (go_at_call 7; (with_reducible refine (impl_NameOk.calls k ((⟨#[113]⟩ : ByteArray) ++ t141) A1 c1 l1 t144 _ ?side1 ?side2 ?side3 A9.out).mono ?_); (case side1 => repeat (first | exact (Kd.C_below HR1.out HB.out) | (with_reducible refine Kd.C_alloc ?_ _) | (with_reducible refine Kd.C_drewN ?_ _) | (with_reducible refine Kd.C_drew ?_))); (case side2 => exact HC1.out); (case side3 => exact HG1.out); rintro e w' ⟨rfl, ⟨nd, rfl⟩⟩) | (go_at_call 6; (with_reducible refine (spec_NameOk.calls k ((⟨#[113]⟩ : ByteArray) ++ t141) t145 _ A10.out).mono ?_); rintro e w24 ⟨rfl, hb⟩; have n0_ := Aside0.mk (below_step (by repeat (first | (with_reducible first | exact HB.out | apply below_alloc | apply pw_below_drewN | apply below_drew1) | exact HB.out)) hb); clear HB; have HB := n0_; clear n0_; (try clear hb); (try clear hb2); (try clear hk); (try clear hi)))
            go_ret
            exact ⟨by first | rfl | (simp [errW_none, errW_some] <;> rfl) | (simp [*, errW_none, errW_some] <;> rfl), by repeat (first | (with_reducible first | exact HB.out | apply below_alloc | apply pw_below_drewN | apply below_drew1) | exact HB.out)⟩
      · rw [if_neg c8] at H
        exact absurd H (by simp)

end Go.Proofs.YtjhjdbhbccadfaaDoor.Q
