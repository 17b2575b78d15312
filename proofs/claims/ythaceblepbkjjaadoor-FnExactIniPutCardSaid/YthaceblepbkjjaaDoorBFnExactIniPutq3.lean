-- laid by a program of this session (wip/tools) out of the translation; Lean checks it
import Derived.Test.YthaceblepbkjjaaDoorBFnExactIniPutq2
namespace Go.Proofs.YthaceblepbkjjaaDoor.Q
open Go.RowKit Go.Proofs.YthaceblepbkjjaaDoorW.PrintWords Go.Proofs.YthaceblepbkjjaaDoorW.PrintLast Go.Proofs.YthaceblepbkjjaaDoorW.PrintMore Go.Proofs.YthaceblepbkjjaaDoorX
attribute [local go_sem] max2_int min2_int max_two min_two max_three min_three max_four min_four   -- for this text's walks alone
set_option linter.unusedVariables false
set_option linter.unusedSimpArgs false

mutual
def spec_l12Toml.l0 : Nat → ByteArray → ByteArray → Int → Int → Int → Int → ByteArray → List (S34) → List ByteArray → Option (ByteArray)
 | 0, _, _, _, _, _, _, _, _, _ => none
 | k + 1, x1, x5, x6, x221000, x221001, x221002, x221003, x221004, x221005 => if x6 < (x221004.length : Int) then (if 0 ≤ x6 then (if ((rd_T34 x221004 x6).f0) = 6 then (spec_l12Toml.l0 k x1 x5 (wrap64 (x6 + 1)) x221000 x221001 x221002 x221003 x221004 x221005) else (if x6 < (x221005.length : Int) then (if x5.size + (rdOf ByteArray.empty x221005 x6).size ≤ 9223372036854775807 then (if (x5 ++ (rdOf ByteArray.empty x221005 x6)).size + 3 ≤ 9223372036854775807 then ((spec_l7Put.f k ((rd_T34 x221004 x6).f0) ((rd_T34 x221004 x6).f1.f0) ((rd_T34 x221004 x6).f1.f1) ((rd_T34 x221004 x6).f2) ((rd_T34 x221004 x6).f3) ((rd_T34 x221004 x6).f4)).bind fun t224 => (if ((x5 ++ (rdOf ByteArray.empty x221005 x6)) ++ (⟨#[32, 61, 32]⟩ : ByteArray)).size + t224.size ≤ 9223372036854775807 then (if (((x5 ++ (rdOf ByteArray.empty x221005 x6)) ++ (⟨#[32, 61, 32]⟩ : ByteArray)) ++ t224).size + 1 ≤ 9223372036854775807 then (spec_l12Toml.l0 k x1 ((((x5 ++ (rdOf ByteArray.empty x221005 x6)) ++ (⟨#[32, 61, 32]⟩ : ByteArray)) ++ t224) ++ (⟨#[10]⟩ : ByteArray)) (wrap64 (x6 + 1)) x221000 x221001 x221002 x221003 x221004 x221005) else (none)) else (none))) else (none)) else (none)) else (none))) else (none)) else (spec_l12Toml.l1 k x1 x5 0 x221000 x221001 x221002 x221003 x221004 x221005)
def spec_l12Toml.l1 : Nat → ByteArray → ByteArray → Int → Int → Int → Int → ByteArray → List (S34) → List ByteArray → Option (ByteArray)
 | 0, _, _, _, _, _, _, _, _, _ => none
 | k + 1, x1, x5, x7, x221000, x221001, x221002, x221003, x221004, x221005 => if x7 < (x221004.length : Int) then (if 0 ≤ x7 then (if ((rd_T34 x221004 x7).f0) = 6 then (if x7 < (x221005.length : Int) then (if x1.size + (rdOf ByteArray.empty x221005 x7).size ≤ 9223372036854775807 then (if x5.size + 1 ≤ 9223372036854775807 then (if (x5 ++ (⟨#[91]⟩ : ByteArray)).size + (x1 ++ (rdOf ByteArray.empty x221005 x7)).size ≤ 9223372036854775807 then (if ((x5 ++ (⟨#[91]⟩ : ByteArray)) ++ (x1 ++ (rdOf ByteArray.empty x221005 x7))).size + 2 ≤ 9223372036854775807 then (if (x1 ++ (rdOf ByteArray.empty x221005 x7)).size + 1 ≤ 9223372036854775807 then ((spec_l12Toml.f k ((rd_T34 x221004 x7).f0) ((rd_T34 x221004 x7).f1.f0) ((rd_T34 x221004 x7).f1.f1) ((rd_T34 x221004 x7).f2) ((rd_T34 x221004 x7).f3) ((rd_T34 x221004 x7).f4) ((x1 ++ (rdOf ByteArray.empty x221005 x7)) ++ (⟨#[46]⟩ : ByteArray))).bind fun t228 => (if (((x5 ++ (⟨#[91]⟩ : ByteArray)) ++ (x1 ++ (rdOf ByteArray.empty x221005 x7))) ++ (⟨#[93, 10]⟩ : ByteArray)).size + t228.size ≤ 9223372036854775807 then (spec_l12Toml.l1 k x1 ((((x5 ++ (⟨#[91]⟩ : ByteArray)) ++ (x1 ++ (rdOf ByteArray.empty x221005 x7))) ++ (⟨#[93, 10]⟩ : ByteArray)) ++ t228) (wrap64 (x7 + 1)) x221000 x221001 x221002 x221003 x221004 x221005) else (none))) else (none)) else (none)) else (none)) else (none)) else (none)) else (none)) else (spec_l12Toml.l1 k x1 x5 (wrap64 (x7 + 1)) x221000 x221001 x221002 x221003 x221004 x221005)) else (none)) else (some x5)
def spec_l12Toml.f : Nat → Int → Int → Int → ByteArray → List (S34) → List ByteArray → ByteArray → Option (ByteArray)
 | 0, _, _, _, _, _, _, _ => none
 | k + 1, a0_0, a0_1, a0_2, a0_3, l0_4, l0_5, a1 => spec_l12Toml.l0 k a1 (⟨#[]⟩ : ByteArray) 0 a0_0 a0_1 a0_2 a0_3 l0_4 l0_5
end
theorem spec_l12Toml.mono_l : ∀ k, (∀ y0 y1 y2 y3 y4 y5 y6, LeO (spec_l12Toml.f k y0 y1 y2 y3 y4 y5 y6) (spec_l12Toml.f (k + 1) y0 y1 y2 y3 y4 y5 y6)) ∧ (∀ y0 y1 y2 y3 y4 y5 y6 y7 y8, LeO (spec_l12Toml.l0 k y0 y1 y2 y3 y4 y5 y6 y7 y8) (spec_l12Toml.l0 (k + 1) y0 y1 y2 y3 y4 y5 y6 y7 y8)) ∧ (∀ y0 y1 y2 y3 y4 y5 y6 y7 y8, LeO (spec_l12Toml.l1 k y0 y1 y2 y3 y4 y5 y6 y7 y8) (spec_l12Toml.l1 (k + 1) y0 y1 y2 y3 y4 y5 y6 y7 y8))
 | 0 => ⟨fun _ _ _ _ _ _ _ r h => by simp [spec_l12Toml.f] at h, fun _ _ _ _ _ _ _ _ _ r h => by simp [spec_l12Toml.l0] at h, fun _ _ _ _ _ _ _ _ _ r h => by simp [spec_l12Toml.l1] at h⟩
 | k + 1 => by
  obtain ⟨ih0, ih1, ih2⟩ := spec_l12Toml.mono_l k
  refine ⟨?_, ?_, ?_⟩
  ·intro y0 y1 y2 y3 y4 y5 y6
   unfold spec_l12Toml.f
   repeat' first
   | (with_reducible exact ih0 _ _ _ _ _ _ _)
   | (with_reducible exact ih1 _ _ _ _ _ _ _ _ _)
   | (with_reducible exact ih2 _ _ _ _ _ _ _ _ _)
   | (with_reducible exact spec_l7Put.mono _ _ _ _ _ _ _)
   | (with_reducible exact LeO.refl _)
   | (with_reducible exact LeO.none _)
   | (with_reducible refine LeO.ite ?_ ?_)
   | (with_reducible refine LeO.bind ?_ (fun _ => ?_))
   | exact ih0 _ _ _ _ _ _ _
   | exact ih1 _ _ _ _ _ _ _ _ _
   | exact ih2 _ _ _ _ _ _ _ _ _
  ·intro y0 y1 y2 y3 y4 y5 y6 y7 y8
   unfold spec_l12Toml.l0
   repeat' first
   | (with_reducible exact ih0 _ _ _ _ _ _ _)
   | (with_reducible exact ih1 _ _ _ _ _ _ _ _ _)
   | (with_reducible exact ih2 _ _ _ _ _ _ _ _ _)
   | (with_reducible exact spec_l7Put.mono _ _ _ _ _ _ _)
   | (with_reducible exact LeO.refl _)
   | (with_reducible exact LeO.none _)
   | (with_reducible refine LeO.ite ?_ ?_)
   | (with_reducible refine LeO.bind ?_ (fun _ => ?_))
   | exact ih0 _ _ _ _ _ _ _
   | exact ih1 _ _ _ _ _ _ _ _ _
   | exact ih2 _ _ _ _ _ _ _ _ _
  ·intro y0 y1 y2 y3 y4 y5 y6 y7 y8
   unfold spec_l12Toml.l1
   repeat' first
   | (with_reducible exact ih0 _ _ _ _ _ _ _)
   | (with_reducible exact ih1 _ _ _ _ _ _ _ _ _)
   | (with_reducible exact ih2 _ _ _ _ _ _ _ _ _)
   | (with_reducible exact spec_l7Put.mono _ _ _ _ _ _ _)
   | (with_reducible exact LeO.refl _)
   | (with_reducible exact LeO.none _)
   | (with_reducible refine LeO.ite ?_ ?_)
   | (with_reducible refine LeO.bind ?_ (fun _ => ?_))
   | exact ih0 _ _ _ _ _ _ _
   | exact ih1 _ _ _ _ _ _ _ _ _
   | exact ih2 _ _ _ _ _ _ _ _ _
theorem spec_l12Toml.mono : ∀ a0 a1 a2 a3 a4 a5 a6 k, LeO (spec_l12Toml.f k a0 a1 a2 a3 a4 a5 a6) (spec_l12Toml.f (k + 1) a0 a1 a2 a3 a4 a5 a6) := by
 intro a0 a1 a2 a3 a4 a5 a6 k
 obtain ⟨ih0, ih1, ih2⟩ := spec_l12Toml.mono_l k
 exact ih0 a0 a1 a2 a3 a4 a5 a6
def spec_l12Toml.T6 : Bool × List (List Nat × List Nat) := (true, [([], []), ([], []), ([1], [1]), ([], []), ([2, 3], [2, 3]), ([4], [4]), ([0, 5], [0, 5]), ([6], [6]), ([], []), ([8], [8]), ([], []), ([9, 10], [9, 10]), ([11], [11]), ([12], [12]), ([7, 13], [7, 13]), ([14], [14]), ([15, 13, 0, 1, 2, 3, 4, 5, 6, 7, 8, 9, 10, 11, 12, 13, 14, 15], [0, 15])])
def spec_l12Toml.B6 : List Nat := [0, 0, 2, 0, 14, 30, 63, 127, 0, 256, 0, 1792, 3840, 7936, 16383, 32767, 65535]
theorem spec_l12Toml.tab6 : rtab .any (opsOf Tryd.f13 6) = spec_l12Toml.T6 := by kernel_rfl
theorem spec_l12Toml.bits6 : waitsOk spec_l12Toml.T6.2 spec_l12Toml.B6 = true := by kernel_rfl
set_option maxHeartbeats 8000000 in
set_option maxRecDepth 100000 in
theorem spec_l12Toml.calls (k : Nat) : ∀ (a0_0 : Int) (a0_1 : Int) (a0_2 : Int) (a0_3 : ByteArray) (A0_4 : Option Addr) (c0_4 : Nat) (l0_4 : List (S34)) (A0_5 : Option Addr) (c0_5 : Nat) (l0_5 : List ByteArray) (a1 : ByteArray) (r : ByteArray) (w : World) (hr0_4 : Kd.C k34 w A0_4 l0_4.length l0_4) (hc0_4 : l0_4.length ≤ c0_4) (hr0_5 : Kd.C Kd.string w A0_5 l0_5.length l0_5) (hc0_5 : l0_5.length ≤ c0_5) (h : spec_l12Toml.f k a0_0 a0_1 a0_2 a0_3 l0_4 l0_5 a1 = some r),
  Calls Tryd.prog 13 #[.agg #[.int .i64 a0_0, .int .i64 a0_1, .int .i64 a0_2, .string a0_3, .slice A0_4 l0_4.length c0_4, .slice A0_5 l0_5.length c0_5], .string a1] w fun e w' => e = .returned (.string r) ∧ Below w.heap.size w w' := by
 induction k using Nat.strongRecOn with
 | _ k ih =>
 intro a0_0 a0_1 a0_2 a0_3 A0_4 c0_4 l0_4 A0_5 c0_5 l0_5 a1 r w hr0_4 hc0_4 hr0_5 hc0_5 h
 cases k with
 | zero => exact absurd h (by simp [spec_l12Toml.f])
 | succ k =>
 simp only [spec_l12Toml.f] at h
 have hu34 := Tryd.underlying34
 have HR0_4 := zA hr0_4
 have HC0_4 := zA hc0_4
 clear hr0_4 hc0_4
 have HR0_5 := zA hr0_5
 have HC0_5 := zA hc0_5
 clear hr0_5 hc0_5
 have HB := zA (yH w.heap.size w)
 have H : (spec_l12Toml.l0 k a1 (⟨#[]⟩ : ByteArray) 0 a0_0 a0_1 a0_2 a0_3 l0_4 l0_5) = some r := h
 clear h
 have H' := zA H
 clear H
 go_enter Tryd.func13, Tryd.ntmps13
 go_wp2_with (first | ((with_reducible refine zS (N := 2) rfl ?_); refine zW ?hg (N := 2) ?hd (cs := #[.int .i64 a0_0, .int .i64 a0_1, .int .i64 a0_2, .string a0_3, .slice A0_4 l0_4.length c0_4, .slice A0_5 l0_5.length c0_5]) (t := 34) ?hr ?_; (case hd => rfl); (case hg => rfl); (case hr => first | (go_simp; done) | (go_simp; rfl)); intro gb220 hg w3 hbox hb; have BK220 := zA (hbox); have GW220 := zA ((by rw [hg]; exact (zQ apA) : w.heap.size ≤ gb220)); have GE220 := zA ((by rw [hg]; exact (zQ apA) : w.heap.size ≤ gb220)); replace HB := zA (zP apA hb); clear hb hbox hg))
 go_loopg [5, 6] k (fun kq v5 v6 w' => ∃ (x5_1 : ByteArray) (x6_1 : Int), v5 = .string x5_1 ∧ v6 = .int .i64 x6_1 ∧ Aside0 (spec_l12Toml.l0 kq a1 x5_1 x6_1 a0_0 a0_1 a0_2 a0_3 l0_4 l0_5 = some r) ∧ Aside0 (kq ≤ k) ∧ Aside0 (w'.heap[gb220]? = some (.cells #[.int .i64 a0_0, .int .i64 a0_1, .int .i64 a0_2, .string a0_3, (.slice A0_4 l0_4.length c0_4), (.slice A0_5 l0_5.length c0_5)] 34 (0, 0))) ∧ Aside0 (Below w.heap.size w w'))
 case atStart => exact ⟨((⟨#[]⟩ : ByteArray)), (0), apC, apC, H', ⟨yJ _⟩, ⟨by (with_reducible repeat (first | refine zB ?_ _ | refine zD ?_ | refine zC ?_ _)); exact BK220.out⟩, ⟨by repeat (first | (with_reducible first | exact HB.out | apply zG | apply zE | apply zF | refine zH ?_ GE220.out) | exact HB.out)⟩⟩
 case round =>
  clear H'
  try clear c1 p2
  obtain ⟨x5_1, x6_1, rfl, rfl, HA, HK1, BK220, HB⟩ := hrel
  cases gk with
  | zero => exact absurd HA.out (by simp [spec_l12Toml.l0])
  | succ k1 =>
   have H := HA.out
   clear HA
   simp only [spec_l12Toml.l0] at H
   by_cases c4 : x6_1 < (l0_4.length : Int)
   ·rw [if_pos c4] at H
    have c4b0 : decide (x6_1 < (l0_4.length : Int)) = true := yE c4
    clear c4
    by_cases c5 : 0 ≤ x6_1
    ·rw [if_pos c5] at H
     have c5b0 : decide (0 ≤ x6_1) = true := yE c5
     clear c5
     by_cases c6 : ((rd_T34 l0_4 x6_1).f0) = 6
     ·rw [if_pos c6] at H
      have c6b0 : (((rd_T34 l0_4 x6_1).f0) == 6) = true := beq_iff_eq.mpr c6
      have c6b1 : (((rd_T34 l0_4 x6_1).f0) != 6) = false := bne_eq_false_iff_eq.mpr c6
      clear c6
      have H' := zA H
      clear H
      obtain ⟨hcz7_0, hcz7_1, hcz7_2, hcz7_3, hcz7_4, hcz7_5, hfz7_0, hfz7_1, hfz7_2, hfz7_3, hfz7_4, hfz7_5⟩ := zb6 BK220.out
      have p221 : 0 ≤ (x6_1 : Int) := yF apB
      have q221 : x6_1 < (l0_4.length : Int) := yF apB
      obtain ⟨ad221, A221_4, c221_4, A221_5, c221_5, e221, hx221_0, hx221_1, hx221_2, hx221_3, hx221_4, hx221_5, hl221_4, hi221_4, hl221_5, hi221_5⟩ := at_T34 HR0_4.out x6_1 p221 q221
      cases e221
      replace hx221_0 := (HB.out.cell (zR w _ hx221_0)).trans hx221_0
      replace hx221_1 := (HB.out.cell (zR w _ hx221_1)).trans hx221_1
      replace hx221_2 := (HB.out.cell (zR w _ hx221_2)).trans hx221_2
      replace hx221_3 := (HB.out.cell (zR w _ hx221_3)).trans hx221_3
      replace hx221_4 := (HB.out.cell (zR w _ hx221_4)).trans hx221_4
      replace hx221_5 := (HB.out.cell (zR w _ hx221_5)).trans hx221_5
      have HR221_4 := zA hi221_4
      have HC221_4 := zA hl221_4
      clear hi221_4 hl221_4
      have HR221_5 := zA hi221_5
      have HC221_5 := zA hl221_5
      clear hi221_5 hl221_5
      replace p221 := eq_true p221
      replace q221 := eq_true q221
      go_wp2
      go_roundg k1
      case measure => have := HK1.out; omega
      case rel => exact ⟨(x5_1), (wrap64 (x6_1 + 1)), apC, apC, H', ⟨by have := HK1.out; omega⟩, ⟨by (with_reducible repeat (first | refine zB ?_ _ | refine zD ?_ | refine zC ?_ _)); exact BK220.out⟩, ⟨by repeat (first | (with_reducible first | exact HB.out | apply zG | apply zE | apply zF | refine zH ?_ GE220.out) | exact HB.out)⟩⟩
     ·rw [if_neg c6] at H
      have c6b0 : (((rd_T34 l0_4 x6_1).f0) == 6) = false := beq_eq_false_iff_ne.mpr c6
      have c6b1 : (((rd_T34 l0_4 x6_1).f0) != 6) = true := bne_iff_ne.mpr c6
      by_cases c8 : x6_1 < (l0_5.length : Int)
      ·rw [if_pos c8] at H
       have c8b0 : decide (x6_1 < (l0_5.length : Int)) = true := yE c8
       clear c8
       by_cases c9 : x5_1.size + (rdOf ByteArray.empty l0_5 x6_1).size ≤ 9223372036854775807
       ·rw [if_pos c9] at H
        have c9b0 := eq_true c9
        have c9b1 : decide (x5_1.size + (rdOf ByteArray.empty l0_5 x6_1).size ≤ 9223372036854775807) = true := yE c9
        try have c9b2 : (9223372036854775807 < x5_1.size + (rdOf ByteArray.empty l0_5 x6_1).size) = False := eq_false (Nat.not_lt.2 c9)
        by_cases c10 : (x5_1 ++ (rdOf ByteArray.empty l0_5 x6_1)).size + 3 ≤ 9223372036854775807
        ·rw [if_pos c10] at H
         have c10b0 := eq_true c10
         have c10b1 : decide ((x5_1 ++ (rdOf ByteArray.empty l0_5 x6_1)).size + 3 ≤ 9223372036854775807) = true := yE c10
         try have c10b2 : (9223372036854775807 < (x5_1 ++ (rdOf ByteArray.empty l0_5 x6_1)).size + 3) = False := eq_false (Nat.not_lt.2 c10)
         try simp only [ByteArray.size_append] at c10b2
         replace H := Option.bind_eq_some_iff.mp H
         obtain ⟨t224, A110, H⟩ := H
         have A11 := zA A110
         clear A110
         by_cases c12 : ((x5_1 ++ (rdOf ByteArray.empty l0_5 x6_1)) ++ (⟨#[32, 61, 32]⟩ : ByteArray)).size + t224.size ≤ 9223372036854775807
         ·rw [if_pos c12] at H
          (try (have c12b9 := eq_true c12; simp only [ByteArray.size_append, Int.natCast_add, show ((⟨#[32, 61, 32]⟩ : ByteArray)).size = 3 from rfl] at c12b9))
          (try (have c12b8 := eq_false (Nat.not_lt.2 c12); simp only [ByteArray.size_append, show ((⟨#[32, 61, 32]⟩ : ByteArray)).size = 3 from rfl] at c12b8))
          have c12b0 := eq_true c12
          have c12b1 : decide (((x5_1 ++ (rdOf ByteArray.empty l0_5 x6_1)) ++ (⟨#[32, 61, 32]⟩ : ByteArray)).size + t224.size ≤ 9223372036854775807) = true := yE c12
          try have c12b2 : (9223372036854775807 < ((x5_1 ++ (rdOf ByteArray.empty l0_5 x6_1)) ++ (⟨#[32, 61, 32]⟩ : ByteArray)).size + t224.size) = False := eq_false (Nat.not_lt.2 c12)
          try simp only [ByteArray.size_append] at c12b2
          by_cases c13 : (((x5_1 ++ (rdOf ByteArray.empty l0_5 x6_1)) ++ (⟨#[32, 61, 32]⟩ : ByteArray)) ++ t224).size + 1 ≤ 9223372036854775807
          ·rw [if_pos c13] at H
           (try (have c13b9 := eq_true c13; simp only [ByteArray.size_append, Int.natCast_add, show ((⟨#[32, 61, 32]⟩ : ByteArray)).size = 3 from rfl] at c13b9))
           (try (have c13b8 := eq_false (Nat.not_lt.2 c13); simp only [ByteArray.size_append, show ((⟨#[32, 61, 32]⟩ : ByteArray)).size = 3 from rfl] at c13b8))
           have c13b0 := eq_true c13
           have c13b1 : decide ((((x5_1 ++ (rdOf ByteArray.empty l0_5 x6_1)) ++ (⟨#[32, 61, 32]⟩ : ByteArray)) ++ t224).size + 1 ≤ 9223372036854775807) = true := yE c13
           try have c13b2 : (9223372036854775807 < (((x5_1 ++ (rdOf ByteArray.empty l0_5 x6_1)) ++ (⟨#[32, 61, 32]⟩ : ByteArray)) ++ t224).size + 1) = False := eq_false (Nat.not_lt.2 c13)
           try simp only [ByteArray.size_append] at c13b2
           have H' := zA H
           clear H
           obtain ⟨hcz14_0, hcz14_1, hcz14_2, hcz14_3, hcz14_4, hcz14_5, hfz14_0, hfz14_1, hfz14_2, hfz14_3, hfz14_4, hfz14_5⟩ := zb6 BK220.out
           have p221 : 0 ≤ (x6_1 : Int) := yF apB
           have q221 : x6_1 < (l0_4.length : Int) := yF apB
           obtain ⟨ad221, A221_4, c221_4, A221_5, c221_5, e221, hx221_0, hx221_1, hx221_2, hx221_3, hx221_4, hx221_5, hl221_4, hi221_4, hl221_5, hi221_5⟩ := at_T34 HR0_4.out x6_1 p221 q221
           cases e221
           replace hx221_0 := (HB.out.cell (zR w _ hx221_0)).trans hx221_0
           replace hx221_1 := (HB.out.cell (zR w _ hx221_1)).trans hx221_1
           replace hx221_2 := (HB.out.cell (zR w _ hx221_2)).trans hx221_2
           replace hx221_3 := (HB.out.cell (zR w _ hx221_3)).trans hx221_3
           replace hx221_4 := (HB.out.cell (zR w _ hx221_4)).trans hx221_4
           replace hx221_5 := (HB.out.cell (zR w _ hx221_5)).trans hx221_5
           have HR221_4 := zA hi221_4
           have HC221_4 := zA hl221_4
           clear hi221_4 hl221_4
           have HR221_5 := zA hi221_5
           have HC221_5 := zA hl221_5
           clear hi221_5 hl221_5
           replace p221 := eq_true p221
           replace q221 := eq_true q221
           try go_wp2
           replace BK220 := zA (zD BK220.out)
           replace HB := zA (zF HB.out)
           have p222 : 0 ≤ (x6_1 : Int) := yF apB
           have q222 : x6_1 < (l0_5.length : Int) := yF apB
           obtain ⟨ad222, e222, hx222_0⟩ := Kd.at_string HR0_5.out x6_1 p222 q222
           have hw222_0 := hx222_0
           cases e222
           replace hx222_0 := (HB.out.cell (zR w _ hx222_0)).trans hx222_0
           replace p222 := eq_true p222
           replace q222 := eq_true q222
           have p223 : 0 ≤ (x6_1 : Int) := yF apB
           have q223 : x6_1 < (l0_4.length : Int) := yF apB
           obtain ⟨ad223, A223_4, c223_4, A223_5, c223_5, e223, hx223_0, hx223_1, hx223_2, hx223_3, hx223_4, hx223_5, hl223_4, hi223_4, hl223_5, hi223_5⟩ := at_T34 HR0_4.out x6_1 p223 q223
           have hw223_5 := hx223_5
           have hw223_4 := hx223_4
           have hw223_3 := hx223_3
           have hw223_2 := hx223_2
           have hw223_1 := hx223_1
           have hw223_0 := hx223_0
           obtain rfl : ad221 = ad223 := (by injection e223)
           replace hx223_0 := (HB.out.cell (zR w _ hx223_0)).trans hx223_0
           replace hx223_1 := (HB.out.cell (zR w _ hx223_1)).trans hx223_1
           replace hx223_2 := (HB.out.cell (zR w _ hx223_2)).trans hx223_2
           replace hx223_3 := (HB.out.cell (zR w _ hx223_3)).trans hx223_3
           replace hx223_4 := (HB.out.cell (zR w _ hx223_4)).trans hx223_4
           replace hx223_5 := (HB.out.cell (zR w _ hx223_5)).trans hx223_5
           have HR223_4 := zA hi223_4
           have HC223_4 := zA hl223_4
           clear hi223_4 hl223_4
           have HR223_5 := zA hi223_5
           have HC223_5 := zA hl223_5
           clear hi223_5 hl223_5
           replace p223 := eq_true p223
           replace q223 := eq_true q223
           refine start_ (n := 17) (S := fun w' => w'.cell? ⟨gb220, 0, none⟩ = some (.int .i64 a0_0) ∧ w'.cell? ⟨gb220, 1, none⟩ = some (.int .i64 a0_1) ∧ w'.cell? ⟨gb220, 2, none⟩ = some (.int .i64 a0_2) ∧ w'.cell? ⟨gb220, 3, none⟩ = some (.string a0_3) ∧ w'.cell? ⟨gb220, 4, none⟩ = some (.slice (some ad221) l0_4.length c0_4) ∧ w'.cell? ⟨gb220, 5, none⟩ = some (.slice (some ad222) l0_5.length c0_5) ∧ w'.cell? (ad222.add (x6_1).toNat) = some (.string (rdOf ByteArray.empty l0_5 x6_1)) ∧ w'.cell? (ad221.add ((x6_1).toNat * 6)) = some (.int .i64 ((rd_T34 l0_4 x6_1).f0)) ∧ w'.cell? ⟨(ad221.add ((x6_1).toNat * 6)).block, (ad221.add ((x6_1).toNat * 6)).off + 1, none⟩ = some (.int .i64 ((rd_T34 l0_4 x6_1).f1.f0)) ∧ w'.cell? ⟨(ad221.add ((x6_1).toNat * 6)).block, (ad221.add ((x6_1).toNat * 6)).off + 2, none⟩ = some (.int .i64 ((rd_T34 l0_4 x6_1).f1.f1)) ∧ w'.cell? ⟨(ad221.add ((x6_1).toNat * 6)).block, (ad221.add ((x6_1).toNat * 6)).off + 3, none⟩ = some (.string ((rd_T34 l0_4 x6_1).f2)) ∧ w'.cell? ⟨(ad221.add ((x6_1).toNat * 6)).block, (ad221.add ((x6_1).toNat * 6)).off + 4, none⟩ = some (.slice A223_4 ((rd_T34 l0_4 x6_1).f3).length c223_4) ∧ w'.cell? ⟨(ad221.add ((x6_1).toNat * 6)).block, (ad221.add ((x6_1).toNat * 6)).off + 5, none⟩ = some (.slice A223_5 ((rd_T34 l0_4 x6_1).f4).length c223_5)) (ds := []) #[false, false, false, false, false, false, false, false, false, false, false, false, false, false, false, false, false] (by kernel_rfl) rfl rfl ⟨(zJ BK220.out 0).trans rfl, (zJ BK220.out 1).trans rfl, (zJ BK220.out 2).trans rfl, (zJ BK220.out 3).trans rfl, (zJ BK220.out 4).trans rfl, (zJ BK220.out 5).trans rfl, ((HB.out.cell (zR w _ hw222_0)).trans hw222_0), ((HB.out.cell (zR w _ hw223_0)).trans hw223_0), ((HB.out.cell (zR w _ hw223_1)).trans hw223_1), ((HB.out.cell (zR w _ hw223_2)).trans hw223_2), ((HB.out.cell (zR w _ hw223_3)).trans hw223_3), ((HB.out.cell (zR w _ hw223_4)).trans hw223_4), ((HB.out.cell (zR w _ hw223_5)).trans hw223_5)⟩ (fun hHeld => ?_); refine with_tabW spec_l12Toml.tab6 spec_l12Toml.bits6 (fun HT_ HW_ => ?_)
           generalize wr.drew = w15 at BK220 HB HR223_4 HR223_5 hx222_0 hx223_0 hx223_1 hx223_2 hx223_3 hx223_4 hx223_5 hHeld ⊢
           refine pure_ (i := 0) (N := some 23) (v := ?_) (a' := ?_) #[true, false, false, false, false, false, false, false, false, false, false, false, false, false, false, false, false] rfl rfl (any_of HT_.out (by kernel_rfl)) (fun _ _ _ h => h) (Or.inl ⟨by rfl, ?_⟩) ?_ ?_
           rotate_left
           ·intro w'
            go_simp
            with_reducible rfl
           rotate_left
           ·simp only [Act.put, zK, zL, zM, i64_w, i32_w]
            rfl
           refine pure_ (i := 1) (N := some 24) (v := ?_) (a' := ?_) #[true, true, false, false, false, false, false, false, false, false, false, false, false, false, false, false, false] rfl rfl (any_of HT_.out (by kernel_rfl)) (fun _ _ _ h => h) (Or.inl ⟨by rfl, ?_⟩) ?_ ?_
           rotate_left
           ·intro w'
            go_simp
            with_reducible rfl
           rotate_left
           ·simp only [Act.put, zK, zL, zM, i64_w, i32_w]
            rfl
           refine pure_ (i := 3) (N := some 26) (v := ?_) (a' := ?_) #[true, true, false, true, false, false, false, false, false, false, false, false, false, false, false, false, false] rfl rfl (any_of HT_.out (by kernel_rfl)) (fun _ _ _ h => h) (Or.inl ⟨by rfl, ?_⟩) ?_ ?_
           rotate_left
           ·intro w'
            go_simp
            with_reducible rfl
           rotate_left
           ·simp only [Act.put, zK, zL, zM, i64_w, i32_w]
            rfl
           refine pure_ (i := 8) (N := some 31) (v := ?_) (a' := ?_) #[true, true, false, true, false, false, false, false, true, false, false, false, false, false, false, false, false] rfl rfl (any_of HT_.out (by kernel_rfl)) (fun _ _ _ h => h) (Or.inl ⟨by rfl, ?_⟩) ?_ ?_
           rotate_left
           ·intro w'
            go_simp
            with_reducible rfl
           rotate_left
           ·simp only [Act.put, zK, zL, zM, i64_w, i32_w]
            rfl
           refine pure_ (i := 10) (N := some 33) (v := ?_) (a' := ?_) #[true, true, false, true, false, false, false, false, true, false, true, false, false, false, false, false, false] rfl rfl (any_of HT_.out (by kernel_rfl)) (fun _ _ _ h => h) (Or.inl ⟨by rfl, ?_⟩) ?_ ?_
           rotate_left
           ·intro w'
            go_simp
            with_reducible rfl
           rotate_left
           ·simp only [Act.put, zK, zL, zM, i64_w, i32_w]
            rfl
           refine take_ (i := 2) (N := some 25) (v := ?_) (a' := ?_) #[true, true, true, true, false, false, false, false, true, false, true, false, false, false, false, false, false] rfl rfl (take_ofW HT_.out HW_.out (by kernel_rfl)) (fun _ _ _ h => h) (Or.inl ⟨by rfl, ?_⟩) hHeld ?_ ?_
           rotate_left
           ·rintro w' ⟨s0, s1, s2, s3, s4, s5, s6, s7, s8, s9, s10, s11, s12⟩
            go_simp
            with_reducible rfl
           rotate_left
           ·simp only [Act.put, zK, zL, zM, i64_w, i32_w]
            rfl
           refine pure_ (i := 4) (N := some 27) (v := ?_) (a' := ?_) #[true, true, true, true, true, false, false, false, true, false, true, false, false, false, false, false, false] rfl rfl (any_of HT_.out (by kernel_rfl)) (fun _ _ _ h => h) (Or.inl ⟨by rfl, ?_⟩) ?_ ?_
           rotate_left
           ·intro w'
            go_simp
            with_reducible rfl
           rotate_left
           ·simp only [Act.put, zK, zL, zM, i64_w, i32_w]
            rfl
           refine take_ (i := 5) (N := some 28) (v := ?_) (a' := ?_) #[true, true, true, true, true, true, false, false, true, false, true, false, false, false, false, false, false] rfl rfl (take_ofW HT_.out HW_.out (by kernel_rfl)) (fun _ _ _ h => h) (Or.inl ⟨by rfl, ?_⟩) hHeld ?_ ?_
           rotate_left
           ·rintro w' ⟨s0, s1, s2, s3, s4, s5, s6, s7, s8, s9, s10, s11, s12⟩
            go_simp
            with_reducible rfl
           rotate_left
           ·simp only [Act.put, zK, zL, zM, i64_w, i32_w]
            rfl
           refine pure_ (i := 6) (N := some 29) (v := ?_) (a' := ?_) #[true, true, true, true, true, true, true, false, true, false, true, false, false, false, false, false, false] rfl rfl (any_of HT_.out (by kernel_rfl)) (fun _ _ _ h => h) (Or.inl ⟨by rfl, ?_⟩) ?_ ?_
           rotate_left
           ·intro w'
            go_simp
            with_reducible rfl
           rotate_left
           ·simp only [Act.put, zK, zL, zM, i64_w, i32_w]
            rfl
           refine pure_ (i := 7) (N := some 30) (v := ?_) (a' := ?_) #[true, true, true, true, true, true, true, true, true, false, true, false, false, false, false, false, false] rfl rfl (any_of HT_.out (by kernel_rfl)) (fun _ _ _ h => h) (Or.inl ⟨by rfl, ?_⟩) ?_ ?_
           rotate_left
           ·intro w'
            go_simp
            with_reducible rfl
           rotate_left
           ·simp only [Act.put, zK, zL, zM, i64_w, i32_w]
            rfl
           refine take_ (i := 9) (N := some 32) (v := ?_) (a' := ?_) #[true, true, true, true, true, true, true, true, true, true, true, false, false, false, false, false, false] rfl rfl (take_ofW HT_.out HW_.out (by kernel_rfl)) (fun _ _ _ h => h) (Or.inl ⟨by rfl, ?_⟩) hHeld ?_ ?_
           rotate_left
           ·rintro w' ⟨s0, s1, s2, s3, s4, s5, s6, s7, s8, s9, s10, s11, s12⟩
            go_simp
            with_reducible rfl
           rotate_left
           ·simp only [Act.put, zK, zL, zM, i64_w, i32_w]
            rfl
           refine pure_ (i := 11) (N := some 34) (v := ?_) (a' := ?_) #[true, true, true, true, true, true, true, true, true, true, true, true, false, false, false, false, false] rfl rfl (any_of HT_.out (by kernel_rfl)) (fun _ _ _ h => h) (Or.inl ⟨by rfl, ?_⟩) ?_ ?_
           rotate_left
           ·intro w'
            go_simp
            with_reducible rfl
           rotate_left
           ·simp only [Act.put, zK, zL, zM, i64_w, i32_w]
            rfl
           refine take_ (i := 12) (N := some 35) (v := ?_) (a' := ?_) #[true, true, true, true, true, true, true, true, true, true, true, true, true, false, false, false, false] rfl rfl (take_ofW HT_.out HW_.out (by kernel_rfl)) (fun _ _ _ h => h) (Or.inl ⟨by rfl, ?_⟩) hHeld ?_ ?_
           rotate_left
           ·rintro w' ⟨s0, s1, s2, s3, s4, s5, s6, s7, s8, s9, s10, s11, s12⟩
            go_simp
            with_reducible rfl
           rotate_left
           ·simp only [Act.put, zK, zL, zM, i64_w, i32_w]
            rfl
           refine one_ (i := 13) (N := some 36) #[true, true, true, true, true, true, true, true, true, true, true, true, true, true, false, false, false] rfl rfl (one_of HT_.out (by kernel_rfl)) (by decide) (fun K hK => ?_)
           refine goes_ Tryd.func25 (by kernel_rfl) rfl #[.agg #[.int .i64 ((rd_T34 l0_4 x6_1).f0), .int .i64 ((rd_T34 l0_4 x6_1).f1.f0), .int .i64 ((rd_T34 l0_4 x6_1).f1.f1), .string ((rd_T34 l0_4 x6_1).f2), .slice A223_4 ((rd_T34 l0_4 x6_1).f3).length c223_4, .slice A223_5 ((rd_T34 l0_4 x6_1).f4).length c223_5]] (by rfl) rfl rfl apE ?_
           with_reducible refine (spec_l7Put.calls k1 ((rd_T34 l0_4 x6_1).f0) ((rd_T34 l0_4 x6_1).f1.f0) ((rd_T34 l0_4 x6_1).f1.f1) ((rd_T34 l0_4 x6_1).f2) _ _ ((rd_T34 l0_4 x6_1).f3) _ _ ((rd_T34 l0_4 x6_1).f4) t224 _ ?side1 ?side2 ?side3 ?side4 A11.out).mono ?_
           (case side1 => exact vc (Kd.C_below HR223_4.out HB.out))
           (case side2 => exact HC223_4.out)
           (case side3 => exact vc (Kd.C_below HR223_5.out HB.out))
           (case side4 => exact HC223_5.out)
           rintro e w16 ⟨rfl, hb⟩
           refine ⟨_, rfl, ?_⟩
           replace BK220 := zA (zN (g := gb220) (o := .cells #[.int .i64 a0_0, .int .i64 a0_1, .int .i64 a0_2, .string a0_3, .slice (some ad221) l0_4.length c0_4, .slice (some ad222) l0_5.length c0_5] 34 (0, 0)) (by (with_reducible repeat (first | refine zB ?_ _ | refine zD ?_ | refine zC ?_ _)); exact BK220.out) hb)
           replace HB := zA (zP (by repeat (first | (with_reducible first | exact HB.out | apply zG | apply zE | apply zF | refine zH ?_ GE220.out) | exact HB.out)) hb)
           (try clear hb)
           (try clear hb2)
           (try clear hk)
           (try clear hi)
           refine hK.out _ _ ⟨(zJ BK220.out 0).trans rfl, (zJ BK220.out 1).trans rfl, (zJ BK220.out 2).trans rfl, (zJ BK220.out 3).trans rfl, (zJ BK220.out 4).trans rfl, (zJ BK220.out 5).trans rfl, ((HB.out.cell (zR w _ hw222_0)).trans hw222_0), ((HB.out.cell (zR w _ hw223_0)).trans hw223_0), ((HB.out.cell (zR w _ hw223_1)).trans hw223_1), ((HB.out.cell (zR w _ hw223_2)).trans hw223_2), ((HB.out.cell (zR w _ hw223_3)).trans hw223_3), ((HB.out.cell (zR w _ hw223_4)).trans hw223_4), ((HB.out.cell (zR w _ hw223_5)).trans hw223_5)⟩ (fun hHeld => ?_)
           clear hK K
           refine norm_ (a' := ?_) ?_ ?_
           rotate_left
           ·show Act.put _ (some 36) _ = _
            simp only [Act.put, zK, zL, zM, i64_w, i32_w]
            rfl
           refine pure_ (i := 14) (N := some 37) (v := ?_) (a' := ?_) #[true, true, true, true, true, true, true, true, true, true, true, true, true, true, true, false, false] rfl rfl (any_of HT_.out (by kernel_rfl)) (fun _ _ _ h => h) (Or.inl ⟨by rfl, ?_⟩) ?_ ?_
           rotate_left
           ·intro w'
            go_simp
            with_reducible rfl
           rotate_left
           ·simp only [Act.put, zK, zL, zM, i64_w, i32_w]
            rfl
           refine pure_ (i := 15) (N := some 38) (v := ?_) (a' := ?_) #[true, true, true, true, true, true, true, true, true, true, true, true, true, true, true, true, false] rfl rfl (any_of HT_.out (by kernel_rfl)) (fun _ _ _ h => h) (Or.inl ⟨by rfl, ?_⟩) ?_ ?_
           rotate_left
           ·intro w'
            go_simp
            with_reducible rfl
           rotate_left
           ·simp only [Act.put, zK, zL, zM, i64_w, i32_w]
            rfl
           refine pure_ (i := 16) (N := some 5) (v := ?_) (a' := ?_) #[true, true, true, true, true, true, true, true, true, true, true, true, true, true, true, true, true] rfl rfl (any_of HT_.out (by kernel_rfl)) (fun _ _ _ h => h) (Or.inl ⟨by rfl, ?_⟩) ?_ ?_
           rotate_left
           ·intro w'
            go_simp
            with_reducible rfl
           rotate_left
           ·simp only [Act.put, zK, zL, zM, i64_w, i32_w]
            rfl
           refine done_ (done_of HT_.out (by kernel_rfl)) ?_
           try go_wp2
           go_roundg k1
           case measure => have := HK1.out; omega
           case rel => exact ⟨((((x5_1 ++ (rdOf ByteArray.empty l0_5 x6_1)) ++ (⟨#[32, 61, 32]⟩ : ByteArray)) ++ t224) ++ (⟨#[10]⟩ : ByteArray)), (wrap64 (x6_1 + 1)), apC, apC, H', ⟨by have := HK1.out; omega⟩, ⟨by (with_reducible repeat (first | refine zB ?_ _ | refine zD ?_ | refine zC ?_ _)); exact BK220.out⟩, ⟨by repeat (first | (with_reducible first | exact HB.out | apply zG | apply zE | apply zF | refine zH ?_ GE220.out) | exact HB.out)⟩⟩
          ·rw [if_neg c13] at H
           exact absurd H (by simp)
         ·rw [if_neg c12] at H
          exact absurd H (by simp)
        ·rw [if_neg c10] at H
         exact absurd H (by simp)
       ·rw [if_neg c9] at H
        exact absurd H (by simp)
      ·rw [if_neg c8] at H
       exact absurd H (by simp)
    ·rw [if_neg c5] at H
     exact absurd H (by simp)
   ·rw [if_neg c4] at H
    have c4b0 : decide (x6_1 < (l0_4.length : Int)) = false := decide_eq_false c4
    clear c4
    have H' := zA H
    clear H
    obtain ⟨hcz17_0, hcz17_1, hcz17_2, hcz17_3, hcz17_4, hcz17_5, hfz17_0, hfz17_1, hfz17_2, hfz17_3, hfz17_4, hfz17_5⟩ := zb6 BK220.out
    go_wp2
    go_loopg [5, 7] k1 (fun kq v5 v7 w' => ∃ (x5_2 : ByteArray) (x7_2 : Int), v5 = .string x5_2 ∧ v7 = .int .i64 x7_2 ∧ Aside0 (spec_l12Toml.l1 kq a1 x5_2 x7_2 a0_0 a0_1 a0_2 a0_3 l0_4 l0_5 = some r) ∧ Aside0 (kq ≤ k1) ∧ Aside0 (w'.heap[gb220]? = some (.cells #[.int .i64 a0_0, .int .i64 a0_1, .int .i64 a0_2, .string a0_3, (.slice A0_4 l0_4.length c0_4), (.slice A0_5 l0_5.length c0_5)] 34 (0, 0))) ∧ Aside0 (Below w.heap.size w w'))
    case atStart => exact ⟨(x5_1), (0), apC, apC, H', ⟨yJ _⟩, ⟨by (with_reducible repeat (first | refine zB ?_ _ | refine zD ?_ | refine zC ?_ _)); exact BK220.out⟩, ⟨by repeat (first | (with_reducible first | exact HB.out | apply zG | apply zE | apply zF | refine zH ?_ GE220.out) | exact HB.out)⟩⟩
    case round =>
     clear H'
     try clear c1 c2 p2 q2 hx2 c4 c4b0 c5 c5b0 c6 c6b0 c6b1 p6 c8 c8b0 c9 c9b0 c9b1 c9b2 c10 c10b0 c10b1 c10b2 c12 c12b0 c12b1 c12b2 c13 c13b0 c13b1 c13b2 hcz14_0 hcz14_1 hcz14_2 hcz14_3 hcz14_4 hcz14_5 hcz17_0 hcz17_1 hcz17_2 hcz17_3 hcz17_4 hcz17_5 hcz7_0 hcz7_1 hcz7_2 hcz7_3 hcz7_4 hcz7_5 hfz14_0 hfz14_1 hfz14_2 hfz14_3 hfz14_4 hfz14_5 hfz17_0 hfz17_1 hfz17_2 hfz17_3 hfz17_4 hfz17_5 hfz7_0 hfz7_1 hfz7_2 hfz7_3 hfz7_4 hfz7_5 hx221_0 hx221_1 hx221_2 hx221_3 hx221_4 hx221_5 hx222_0 hx223_0 hx223_1 hx223_2 hx223_3 hx223_4 hx223_5 p2 p221 p222 p223 q221 q222 q223
     obtain ⟨x5_2, x7_2, rfl, rfl, HA, HK2, BK220, HB⟩ := hrel
     cases gk with
     | zero => exact absurd HA.out (by simp [spec_l12Toml.l1])
     | succ k2 =>
      have H := HA.out
      clear HA
      simp only [spec_l12Toml.l1] at H
      by_cases c18 : x7_2 < (l0_4.length : Int)
      ·rw [if_pos c18] at H
       have c18b0 : decide (x7_2 < (l0_4.length : Int)) = true := yE c18
       clear c18
       by_cases c19 : 0 ≤ x7_2
       ·rw [if_pos c19] at H
        have c19b0 : decide (0 ≤ x7_2) = true := yE c19
        clear c19
        by_cases c20 : ((rd_T34 l0_4 x7_2).f0) = 6
        ·rw [if_pos c20] at H
         have c20b0 : (((rd_T34 l0_4 x7_2).f0) == 6) = true := beq_iff_eq.mpr c20
         have c20b1 : (((rd_T34 l0_4 x7_2).f0) != 6) = false := bne_eq_false_iff_eq.mpr c20
         clear c20
         by_cases c21 : x7_2 < (l0_5.length : Int)
         ·rw [if_pos c21] at H
          have c21b0 : decide (x7_2 < (l0_5.length : Int)) = true := yE c21
          clear c21
          by_cases c22 : a1.size + (rdOf ByteArray.empty l0_5 x7_2).size ≤ 9223372036854775807
          ·rw [if_pos c22] at H
           have c22b0 := eq_true c22
           have c22b1 : decide (a1.size + (rdOf ByteArray.empty l0_5 x7_2).size ≤ 9223372036854775807) = true := yE c22
           try have c22b2 : (9223372036854775807 < a1.size + (rdOf ByteArray.empty l0_5 x7_2).size) = False := eq_false (Nat.not_lt.2 c22)
           by_cases c23 : x5_2.size + 1 ≤ 9223372036854775807
           ·rw [if_pos c23] at H
            have c23b0 := eq_true c23
            have c23b1 : decide (x5_2.size + 1 ≤ 9223372036854775807) = true := yE c23
            try have c23b2 : (9223372036854775807 < x5_2.size + 1) = False := eq_false (Nat.not_lt.2 c23)
            by_cases c24 : (x5_2 ++ (⟨#[91]⟩ : ByteArray)).size + (a1 ++ (rdOf ByteArray.empty l0_5 x7_2)).size ≤ 9223372036854775807
            ·rw [if_pos c24] at H
             (try (have c24b9 := eq_true c24; simp only [ByteArray.size_append, Int.natCast_add, show ((⟨#[91]⟩ : ByteArray)).size = 1 from rfl] at c24b9))
             (try (have c24b8 := eq_false (Nat.not_lt.2 c24); simp only [ByteArray.size_append, show ((⟨#[91]⟩ : ByteArray)).size = 1 from rfl] at c24b8))
             have c24b0 := eq_true c24
             have c24b1 : decide ((x5_2 ++ (⟨#[91]⟩ : ByteArray)).size + (a1 ++ (rdOf ByteArray.empty l0_5 x7_2)).size ≤ 9223372036854775807) = true := yE c24
             try have c24b2 : (9223372036854775807 < (x5_2 ++ (⟨#[91]⟩ : ByteArray)).size + (a1 ++ (rdOf ByteArray.empty l0_5 x7_2)).size) = False := eq_false (Nat.not_lt.2 c24)
             try simp only [ByteArray.size_append] at c24b2
             by_cases c25 : ((x5_2 ++ (⟨#[91]⟩ : ByteArray)) ++ (a1 ++ (rdOf ByteArray.empty l0_5 x7_2))).size + 2 ≤ 9223372036854775807
             ·rw [if_pos c25] at H
              (try (have c25b9 := eq_true c25; simp only [ByteArray.size_append, Int.natCast_add, show ((⟨#[91]⟩ : ByteArray)).size = 1 from rfl] at c25b9))
              (try (have c25b8 := eq_false (Nat.not_lt.2 c25); simp only [ByteArray.size_append, show ((⟨#[91]⟩ : ByteArray)).size = 1 from rfl] at c25b8))
              have c25b0 := eq_true c25
              have c25b1 : decide (((x5_2 ++ (⟨#[91]⟩ : ByteArray)) ++ (a1 ++ (rdOf ByteArray.empty l0_5 x7_2))).size + 2 ≤ 9223372036854775807) = true := yE c25
              try have c25b2 : (9223372036854775807 < ((x5_2 ++ (⟨#[91]⟩ : ByteArray)) ++ (a1 ++ (rdOf ByteArray.empty l0_5 x7_2))).size + 2) = False := eq_false (Nat.not_lt.2 c25)
              try simp only [ByteArray.size_append] at c25b2
              by_cases c26 : (a1 ++ (rdOf ByteArray.empty l0_5 x7_2)).size + 1 ≤ 9223372036854775807
              ·rw [if_pos c26] at H
               have c26b0 := eq_true c26
               have c26b1 : decide ((a1 ++ (rdOf ByteArray.empty l0_5 x7_2)).size + 1 ≤ 9223372036854775807) = true := yE c26
               try have c26b2 : (9223372036854775807 < (a1 ++ (rdOf ByteArray.empty l0_5 x7_2)).size + 1) = False := eq_false (Nat.not_lt.2 c26)
               try simp only [ByteArray.size_append] at c26b2
               replace H := Option.bind_eq_some_iff.mp H
               obtain ⟨t228, A270, H⟩ := H
               have A27 := zA A270
               clear A270
               by_cases c28 : (((x5_2 ++ (⟨#[91]⟩ : ByteArray)) ++ (a1 ++ (rdOf ByteArray.empty l0_5 x7_2))) ++ (⟨#[93, 10]⟩ : ByteArray)).size + t228.size ≤ 9223372036854775807
               ·rw [if_pos c28] at H
                (try (have c28b9 := eq_true c28; simp only [ByteArray.size_append, Int.natCast_add, show ((⟨#[91]⟩ : ByteArray)).size = 1 from rfl, show ((⟨#[93, 10]⟩ : ByteArray)).size = 2 from rfl] at c28b9))
                (try (have c28b8 := eq_false (Nat.not_lt.2 c28); simp only [ByteArray.size_append, show ((⟨#[91]⟩ : ByteArray)).size = 1 from rfl, show ((⟨#[93, 10]⟩ : ByteArray)).size = 2 from rfl] at c28b8))
                have c28b0 := eq_true c28
                have c28b1 : decide ((((x5_2 ++ (⟨#[91]⟩ : ByteArray)) ++ (a1 ++ (rdOf ByteArray.empty l0_5 x7_2))) ++ (⟨#[93, 10]⟩ : ByteArray)).size + t228.size ≤ 9223372036854775807) = true := yE c28
                try have c28b2 : (9223372036854775807 < (((x5_2 ++ (⟨#[91]⟩ : ByteArray)) ++ (a1 ++ (rdOf ByteArray.empty l0_5 x7_2))) ++ (⟨#[93, 10]⟩ : ByteArray)).size + t228.size) = False := eq_false (Nat.not_lt.2 c28)
                try simp only [ByteArray.size_append] at c28b2
                have H' := zA H
                clear H
                obtain ⟨hcz29_0, hcz29_1, hcz29_2, hcz29_3, hcz29_4, hcz29_5, hfz29_0, hfz29_1, hfz29_2, hfz29_3, hfz29_4, hfz29_5⟩ := zb6 BK220.out
                have p225 : 0 ≤ (x7_2 : Int) := yF apB
                have q225 : x7_2 < (l0_4.length : Int) := yF apB
                obtain ⟨ad225, A225_4, c225_4, A225_5, c225_5, e225, hx225_0, hx225_1, hx225_2, hx225_3, hx225_4, hx225_5, hl225_4, hi225_4, hl225_5, hi225_5⟩ := at_T34 HR0_4.out x7_2 p225 q225
                cases e225
                replace hx225_0 := (HB.out.cell (zR w _ hx225_0)).trans hx225_0
                replace hx225_1 := (HB.out.cell (zR w _ hx225_1)).trans hx225_1
                replace hx225_2 := (HB.out.cell (zR w _ hx225_2)).trans hx225_2
                replace hx225_3 := (HB.out.cell (zR w _ hx225_3)).trans hx225_3
                replace hx225_4 := (HB.out.cell (zR w _ hx225_4)).trans hx225_4
                replace hx225_5 := (HB.out.cell (zR w _ hx225_5)).trans hx225_5
                have HR225_4 := zA hi225_4
                have HC225_4 := zA hl225_4
                clear hi225_4 hl225_4
                have HR225_5 := zA hi225_5
                have HC225_5 := zA hl225_5
                clear hi225_5 hl225_5
                replace p225 := eq_true p225
                replace q225 := eq_true q225
                have p226 : 0 ≤ (x7_2 : Int) := yF apB
                have q226 : x7_2 < (l0_5.length : Int) := yF apB
                obtain ⟨ad226, e226, hx226_0⟩ := Kd.at_string HR0_5.out x7_2 p226 q226
                cases e226
                replace hx226_0 := (HB.out.cell (zR w _ hx226_0)).trans hx226_0
                replace p226 := eq_true p226
                replace q226 := eq_true q226
                have p227 : 0 ≤ (x7_2 : Int) := yF apB
                have q227 : x7_2 < (l0_4.length : Int) := yF apB
                obtain ⟨ad227, A227_4, c227_4, A227_5, c227_5, e227, hx227_0, hx227_1, hx227_2, hx227_3, hx227_4, hx227_5, hl227_4, hi227_4, hl227_5, hi227_5⟩ := at_T34 HR0_4.out x7_2 p227 q227
                obtain rfl : ad225 = ad227 := (by injection e227)
                replace hx227_0 := (HB.out.cell (zR w _ hx227_0)).trans hx227_0
                replace hx227_1 := (HB.out.cell (zR w _ hx227_1)).trans hx227_1
                replace hx227_2 := (HB.out.cell (zR w _ hx227_2)).trans hx227_2
                replace hx227_3 := (HB.out.cell (zR w _ hx227_3)).trans hx227_3
                replace hx227_4 := (HB.out.cell (zR w _ hx227_4)).trans hx227_4
                replace hx227_5 := (HB.out.cell (zR w _ hx227_5)).trans hx227_5
                have HR227_4 := zA hi227_4
                have HC227_4 := zA hl227_4
                clear hi227_4 hl227_4
                have HR227_5 := zA hi227_5
                have HC227_5 := zA hl227_5
                clear hi227_5 hl227_5
                replace p227 := eq_true p227
                replace q227 := eq_true q227
                have ea_ := yG (hx225_4.symm.trans hx227_4)
                injection ea_ with ea_ en_ ec_
                subst ea_
                subst ec_
                clear en_
                have ea_ := yG (hx225_5.symm.trans hx227_5)
                injection ea_ with ea_ en_ ec_
                subst ea_
                subst ec_
                clear en_
                go_wp2_with (first | ((with_reducible refine zT (f := 13) rfl ?_); refine goesL_ (some 72) rfl rfl Tryd.func13 (by kernel_rfl) rfl #[.agg #[.int .i64 ((rd_T34 l0_4 x7_2).f0), .int .i64 ((rd_T34 l0_4 x7_2).f1.f0), .int .i64 ((rd_T34 l0_4 x7_2).f1.f1), .string ((rd_T34 l0_4 x7_2).f2), .slice A225_4 ((rd_T34 l0_4 x7_2).f3).length c225_4, .slice A225_5 ((rd_T34 l0_4 x7_2).f4).length c225_5], .string ((a1 ++ (rdOf ByteArray.empty l0_5 x7_2)) ++ (⟨#[46]⟩ : ByteArray))] rfl apE ?_; (with_reducible refine (ih k2 (by have := HK1.out; have := HK2.out; omega) ((rd_T34 l0_4 x7_2).f0) ((rd_T34 l0_4 x7_2).f1.f0) ((rd_T34 l0_4 x7_2).f1.f1) ((rd_T34 l0_4 x7_2).f2) _ _ ((rd_T34 l0_4 x7_2).f3) _ _ ((rd_T34 l0_4 x7_2).f4) ((a1 ++ (rdOf ByteArray.empty l0_5 x7_2)) ++ (⟨#[46]⟩ : ByteArray)) t228 _ ?side1 ?side2 ?side3 ?side4 A27.out).mono ?_); (case side1 => exact vc (Kd.C_below HR227_4.out HB.out)); (case side2 => exact HC227_4.out); (case side3 => exact vc (Kd.C_below HR227_5.out HB.out)); (case side4 => exact HC227_5.out); rintro e w30 ⟨rfl, hb⟩; refine ⟨_, rfl, ?_⟩; replace BK220 := zA (zN (g := gb220) (o := .cells #[.int .i64 a0_0, .int .i64 a0_1, .int .i64 a0_2, .string a0_3, .slice (some ad225) l0_4.length c0_4, .slice (some ad226) l0_5.length c0_5] 34 (0, 0)) (by (with_reducible repeat (first | refine zB ?_ _ | refine zD ?_ | refine zC ?_ _)); exact BK220.out) hb); replace HB := zA (zP (by repeat (first | (with_reducible first | exact HB.out | apply zG | apply zE | apply zF | refine zH ?_ GE220.out) | exact HB.out)) hb); (try clear hb); (try clear hb2); (try clear hk); (try clear hi)))
                go_roundg k2
                case measure => have := HK1.out; have := HK2.out; omega
                case rel => exact ⟨((((x5_2 ++ (⟨#[91]⟩ : ByteArray)) ++ (a1 ++ (rdOf ByteArray.empty l0_5 x7_2))) ++ (⟨#[93, 10]⟩ : ByteArray)) ++ t228), (wrap64 (x7_2 + 1)), apC, apC, H', ⟨by have := HK1.out; have := HK2.out; omega⟩, ⟨by (with_reducible repeat (first | refine zB ?_ _ | refine zD ?_ | refine zC ?_ _)); exact BK220.out⟩, ⟨by repeat (first | (with_reducible first | exact HB.out | apply zG | apply zE | apply zF | refine zH ?_ GE220.out) | exact HB.out)⟩⟩
               ·rw [if_neg c28] at H
                exact absurd H (by simp)
              ·rw [if_neg c26] at H
               exact absurd H (by simp)
             ·rw [if_neg c25] at H
              exact absurd H (by simp)
            ·rw [if_neg c24] at H
             exact absurd H (by simp)
           ·rw [if_neg c23] at H
            exact absurd H (by simp)
          ·rw [if_neg c22] at H
           exact absurd H (by simp)
         ·rw [if_neg c21] at H
          exact absurd H (by simp)
        ·rw [if_neg c20] at H
         have c20b0 : (((rd_T34 l0_4 x7_2).f0) == 6) = false := beq_eq_false_iff_ne.mpr c20
         have c20b1 : (((rd_T34 l0_4 x7_2).f0) != 6) = true := bne_iff_ne.mpr c20
         have H' := zA H
         clear H
         obtain ⟨hcz31_0, hcz31_1, hcz31_2, hcz31_3, hcz31_4, hcz31_5, hfz31_0, hfz31_1, hfz31_2, hfz31_3, hfz31_4, hfz31_5⟩ := zb6 BK220.out
         have p225 : 0 ≤ (x7_2 : Int) := yF apB
         have q225 : x7_2 < (l0_4.length : Int) := yF apB
         obtain ⟨ad225, A225_4, c225_4, A225_5, c225_5, e225, hx225_0, hx225_1, hx225_2, hx225_3, hx225_4, hx225_5, hl225_4, hi225_4, hl225_5, hi225_5⟩ := at_T34 HR0_4.out x7_2 p225 q225
         cases e225
         replace hx225_0 := (HB.out.cell (zR w _ hx225_0)).trans hx225_0
         replace hx225_1 := (HB.out.cell (zR w _ hx225_1)).trans hx225_1
         replace hx225_2 := (HB.out.cell (zR w _ hx225_2)).trans hx225_2
         replace hx225_3 := (HB.out.cell (zR w _ hx225_3)).trans hx225_3
         replace hx225_4 := (HB.out.cell (zR w _ hx225_4)).trans hx225_4
         replace hx225_5 := (HB.out.cell (zR w _ hx225_5)).trans hx225_5
         have HR225_4 := zA hi225_4
         have HC225_4 := zA hl225_4
         clear hi225_4 hl225_4
         have HR225_5 := zA hi225_5
         have HC225_5 := zA hl225_5
         clear hi225_5 hl225_5
         replace p225 := eq_true p225
         replace q225 := eq_true q225
         go_wp2
         go_roundg k2
         case measure => have := HK1.out; have := HK2.out; omega
         case rel => exact ⟨(x5_2), (wrap64 (x7_2 + 1)), apC, apC, H', ⟨by have := HK1.out; have := HK2.out; omega⟩, ⟨by (with_reducible repeat (first | refine zB ?_ _ | refine zD ?_ | refine zC ?_ _)); exact BK220.out⟩, ⟨by repeat (first | (with_reducible first | exact HB.out | apply zG | apply zE | apply zF | refine zH ?_ GE220.out) | exact HB.out)⟩⟩
       ·rw [if_neg c19] at H
        exact absurd H (by simp)
      ·rw [if_neg c18] at H
       have c18b0 : decide (x7_2 < (l0_4.length : Int)) = false := decide_eq_false c18
       clear c18
       obtain rfl := yG H
       obtain ⟨hcz32_0, hcz32_1, hcz32_2, hcz32_3, hcz32_4, hcz32_5, hfz32_0, hfz32_1, hfz32_2, hfz32_3, hfz32_4, hfz32_5⟩ := zb6 BK220.out
       go_wp2
       go_ret
       exact ⟨apD, by repeat (first | (with_reducible first | exact HB.out | apply zG | apply zE | apply zF | refine zH ?_ GE220.out) | exact HB.out)⟩


mutual
def impl_Value_27_at_flat_1.f : Nat → List (S34) → Option (Bool)
 | 0, _ => none
 | k + 1, l0 => (impl_Value_36_at_flat_1.f k l0).bind fun t279 => (some (decide (t279 ≥ 0)))
def impl_Value_36_at_flat_1.l0 : Nat → List (S34) → Int → Int → Option (Int)
 | 0, _, _, _ => none
 | k + 1, x0, x7, x8 => if x8 < x7 then (if 0 ≤ x8 then (if x8 < (x0.length : Int) then ((impl_flat_1.f k ((rd_T34 x0 x8).f0) ((rd_T34 x0 x8).f1.f0) ((rd_T34 x0 x8).f1.f1) ((rd_T34 x0 x8).f2) ((rd_T34 x0 x8).f3) ((rd_T34 x0 x8).f4)).bind fun t281 => (if t281 = true then (some x8) else (impl_Value_36_at_flat_1.l0 k x0 x7 (wrap64 (x8 + 1))))) else (none)) else (none)) else (some (-1))
def impl_Value_36_at_flat_1.f : Nat → List (S34) → Option (Int)
 | 0, _ => none
 | k + 1, l0 => impl_Value_36_at_flat_1.l0 k l0 (l0.length : Int) 0
def impl_flat.f : Nat → Int → Int → Int → ByteArray → List (S34) → List ByteArray → Option (Bool)
 | 0, _, _, _, _, _, _ => none
 | k + 1, a0_0, a0_1, a0_2, a0_3, l0_4, l0_5 => if a0_0 = 0 then (some false) else (if a0_0 = 6 then (some false) else ((impl_Value_27_at_flat_1.f k l0_4).bind fun t283 => (some (!t283))))
def impl_flat_1.f : Nat → Int → Int → Int → ByteArray → List (S34) → List ByteArray → Option (Bool)
 | 0, _, _, _, _, _, _ => none
 | k + 1, a0_0, a0_1, a0_2, a0_3, l0_4, l0_5 => (impl_flat.f k a0_0 a0_1 a0_2 a0_3 l0_4 l0_5).bind fun t285 => (some (!t285))
end
theorem impl_Value_27_at_flat_1.G.mono_l : ∀ k, (∀ y0, LeO (impl_Value_27_at_flat_1.f k y0) (impl_Value_27_at_flat_1.f (k + 1) y0)) ∧ (∀ y0, LeO (impl_Value_36_at_flat_1.f k y0) (impl_Value_36_at_flat_1.f (k + 1) y0)) ∧ (∀ y0 y1 y2, LeO (impl_Value_36_at_flat_1.l0 k y0 y1 y2) (impl_Value_36_at_flat_1.l0 (k + 1) y0 y1 y2)) ∧ (∀ y0 y1 y2 y3 y4 y5, LeO (impl_flat.f k y0 y1 y2 y3 y4 y5) (impl_flat.f (k + 1) y0 y1 y2 y3 y4 y5)) ∧ (∀ y0 y1 y2 y3 y4 y5, LeO (impl_flat_1.f k y0 y1 y2 y3 y4 y5) (impl_flat_1.f (k + 1) y0 y1 y2 y3 y4 y5))
 | 0 => ⟨fun _ r h => by simp [impl_Value_27_at_flat_1.f] at h, fun _ r h => by simp [impl_Value_36_at_flat_1.f] at h, fun _ _ _ r h => by simp [impl_Value_36_at_flat_1.l0] at h, fun _ _ _ _ _ _ r h => by simp [impl_flat.f] at h, fun _ _ _ _ _ _ r h => by simp [impl_flat_1.f] at h⟩
 | k + 1 => by
  obtain ⟨ih0, ih1, ih2, ih3, ih4⟩ := impl_Value_27_at_flat_1.G.mono_l k
  refine ⟨?_, ?_, ?_, ?_, ?_⟩
  ·intro y0
   unfold impl_Value_27_at_flat_1.f
   repeat' first
   | (with_reducible exact ih0 _)
   | (with_reducible exact ih1 _)
   | (with_reducible exact ih2 _ _ _)
   | (with_reducible exact ih3 _ _ _ _ _ _)
   | (with_reducible exact ih4 _ _ _ _ _ _)
   | (with_reducible exact LeO.refl _)
   | (with_reducible exact LeO.none _)
   | (with_reducible refine LeO.ite ?_ ?_)
   | (with_reducible refine LeO.bind ?_ (fun _ => ?_))
   | exact ih0 _
   | exact ih1 _
   | exact ih2 _ _ _
   | exact ih3 _ _ _ _ _ _
   | exact ih4 _ _ _ _ _ _
  ·intro y0
   unfold impl_Value_36_at_flat_1.f
   repeat' first
   | (with_reducible exact ih0 _)
   | (with_reducible exact ih1 _)
   | (with_reducible exact ih2 _ _ _)
   | (with_reducible exact ih3 _ _ _ _ _ _)
   | (with_reducible exact ih4 _ _ _ _ _ _)
   | (with_reducible exact LeO.refl _)
   | (with_reducible exact LeO.none _)
   | (with_reducible refine LeO.ite ?_ ?_)
   | (with_reducible refine LeO.bind ?_ (fun _ => ?_))
   | exact ih0 _
   | exact ih1 _
   | exact ih2 _ _ _
   | exact ih3 _ _ _ _ _ _
   | exact ih4 _ _ _ _ _ _
  ·intro y0 y1 y2
   unfold impl_Value_36_at_flat_1.l0
   repeat' first
   | (with_reducible exact ih0 _)
   | (with_reducible exact ih1 _)
   | (with_reducible exact ih2 _ _ _)
   | (with_reducible exact ih3 _ _ _ _ _ _)
   | (with_reducible exact ih4 _ _ _ _ _ _)
   | (with_reducible exact LeO.refl _)
   | (with_reducible exact LeO.none _)
   | (with_reducible refine LeO.ite ?_ ?_)
   | (with_reducible refine LeO.bind ?_ (fun _ => ?_))
   | exact ih0 _
   | exact ih1 _
   | exact ih2 _ _ _
   | exact ih3 _ _ _ _ _ _
   | exact ih4 _ _ _ _ _ _
  ·intro y0 y1 y2 y3 y4 y5
   unfold impl_flat.f
   repeat' first
   | (with_reducible exact ih0 _)
   | (with_reducible exact ih1 _)
   | (with_reducible exact ih2 _ _ _)
   | (with_reducible exact ih3 _ _ _ _ _ _)
   | (with_reducible exact ih4 _ _ _ _ _ _)
   | (with_reducible exact LeO.refl _)
   | (with_reducible exact LeO.none _)
   | (with_reducible refine LeO.ite ?_ ?_)
   | (with_reducible refine LeO.bind ?_ (fun _ => ?_))
   | exact ih0 _
   | exact ih1 _
   | exact ih2 _ _ _
   | exact ih3 _ _ _ _ _ _
   | exact ih4 _ _ _ _ _ _
  ·intro y0 y1 y2 y3 y4 y5
   unfold impl_flat_1.f
   repeat' first
   | (with_reducible exact ih0 _)
   | (with_reducible exact ih1 _)
   | (with_reducible exact ih2 _ _ _)
   | (with_reducible exact ih3 _ _ _ _ _ _)
   | (with_reducible exact ih4 _ _ _ _ _ _)
   | (with_reducible exact LeO.refl _)
   | (with_reducible exact LeO.none _)
   | (with_reducible refine LeO.ite ?_ ?_)
   | (with_reducible refine LeO.bind ?_ (fun _ => ?_))
   | exact ih0 _
   | exact ih1 _
   | exact ih2 _ _ _
   | exact ih3 _ _ _ _ _ _
   | exact ih4 _ _ _ _ _ _
theorem impl_Value_27_at_flat_1.mono : ∀ a0 k, LeO (impl_Value_27_at_flat_1.f k a0) (impl_Value_27_at_flat_1.f (k + 1) a0) := fun a0 k => (impl_Value_27_at_flat_1.G.mono_l k).1 a0
theorem impl_Value_36_at_flat_1.mono : ∀ a0 k, LeO (impl_Value_36_at_flat_1.f k a0) (impl_Value_36_at_flat_1.f (k + 1) a0) := fun a0 k => (impl_Value_27_at_flat_1.G.mono_l k).2.1 a0
theorem impl_flat.mono : ∀ a0 a1 a2 a3 a4 a5 k, LeO (impl_flat.f k a0 a1 a2 a3 a4 a5) (impl_flat.f (k + 1) a0 a1 a2 a3 a4 a5) := fun a0 a1 a2 a3 a4 a5 k => (impl_Value_27_at_flat_1.G.mono_l k).2.2.2.1 a0 a1 a2 a3 a4 a5
theorem impl_flat_1.mono : ∀ a0 a1 a2 a3 a4 a5 k, LeO (impl_flat_1.f k a0 a1 a2 a3 a4 a5) (impl_flat_1.f (k + 1) a0 a1 a2 a3 a4 a5) := fun a0 a1 a2 a3 a4 a5 k => (impl_Value_27_at_flat_1.G.mono_l k).2.2.2.2 a0 a1 a2 a3 a4 a5
abbrev impl_Value_27_at_flat_1.Spec (k : Nat) : Prop := ∀ (A0 : Option Addr) (c0 : Nat) (l0 : List (S34))  (r : Bool) (w : World) (hr0 : Kd.C k34 w A0 l0.length l0) (hc0 : l0.length ≤ c0) (h : impl_Value_27_at_flat_1.f k l0 = some r),
  Calls Tryd.prog 27 #[.slice A0 l0.length c0, .func (.func 51) #[] #[]] w fun e w' => e = .returned (.bool r) ∧ Below w.heap.size w w'
abbrev impl_Value_36_at_flat_1.Spec (k : Nat) : Prop := ∀ (A0 : Option Addr) (c0 : Nat) (l0 : List (S34))  (r : Int) (w : World) (hr0 : Kd.C k34 w A0 l0.length l0) (hc0 : l0.length ≤ c0) (h : impl_Value_36_at_flat_1.f k l0 = some r),
  Calls Tryd.prog 36 #[.slice A0 l0.length c0, .func (.func 51) #[] #[]] w fun e w' => e = .returned (.int .i64 r) ∧ Below w.heap.size w w'
abbrev impl_flat.Spec (k : Nat) : Prop := ∀ (a0_0 : Int) (a0_1 : Int) (a0_2 : Int) (a0_3 : ByteArray) (A0_4 : Option Addr) (c0_4 : Nat) (l0_4 : List (S34)) (A0_5 : Option Addr) (c0_5 : Nat) (l0_5 : List ByteArray) (r : Bool) (w : World) (hr0_4 : Kd.C k34 w A0_4 l0_4.length l0_4) (hc0_4 : l0_4.length ≤ c0_4) (hr0_5 : Kd.C Kd.string w A0_5 l0_5.length l0_5) (hc0_5 : l0_5.length ≤ c0_5) (h : impl_flat.f k a0_0 a0_1 a0_2 a0_3 l0_4 l0_5 = some r),
  Calls Tryd.prog 40 #[.agg #[.int .i64 a0_0, .int .i64 a0_1, .int .i64 a0_2, .string a0_3, .slice A0_4 l0_4.length c0_4, .slice A0_5 l0_5.length c0_5]] w fun e w' => e = .returned (.bool r) ∧ Below w.heap.size w w'
abbrev impl_flat_1.Spec (k : Nat) : Prop := ∀ (a0_0 : Int) (a0_1 : Int) (a0_2 : Int) (a0_3 : ByteArray) (A0_4 : Option Addr) (c0_4 : Nat) (l0_4 : List (S34)) (A0_5 : Option Addr) (c0_5 : Nat) (l0_5 : List ByteArray) (r : Bool) (w : World) (hr0_4 : Kd.C k34 w A0_4 l0_4.length l0_4) (hc0_4 : l0_4.length ≤ c0_4) (hr0_5 : Kd.C Kd.string w A0_5 l0_5.length l0_5) (hc0_5 : l0_5.length ≤ c0_5) (h : impl_flat_1.f k a0_0 a0_1 a0_2 a0_3 l0_4 l0_5 = some r),
  Calls Tryd.prog 51 #[.agg #[.int .i64 a0_0, .int .i64 a0_1, .int .i64 a0_2, .string a0_3, .slice A0_4 l0_4.length c0_4, .slice A0_5 l0_5.length c0_5]] w fun e w' => e = .returned (.bool r) ∧ Below w.heap.size w w'
set_option maxHeartbeats 8000000 in
set_option maxRecDepth 100000 in
theorem impl_Value_27_at_flat_1.step (k : Nat) (ih_impl_Value_27_at_flat_1 : ∀ m, m < k → impl_Value_27_at_flat_1.Spec m) (ih_impl_Value_36_at_flat_1 : ∀ m, m < k → impl_Value_36_at_flat_1.Spec m) (ih_impl_flat : ∀ m, m < k → impl_flat.Spec m) (ih_impl_flat_1 : ∀ m, m < k → impl_flat_1.Spec m) : impl_Value_27_at_flat_1.Spec k := by
 intro A0 c0 l0 r w hr0 hc0 h
 cases k with
 | zero => exact absurd h (by simp [impl_Value_27_at_flat_1.f])
 | succ k =>
 simp only [impl_Value_27_at_flat_1.f] at h
 have HR0 := zA hr0
 have HC0 := zA hc0
 clear hr0 hc0
 have HB := zA (yH w.heap.size w)
 have H : ((impl_Value_36_at_flat_1.f k l0).bind fun t279 => (some (decide (t279 ≥ 0)))) = some r := h
 clear h
 replace H := Option.bind_eq_some_iff.mp H
 obtain ⟨t279, A30, H⟩ := H
 have A3 := zA A30
 clear A30
 obtain rfl := yG H
 go_enter Tryd.func27, Tryd.ntmps27
 go_wp2_with (first | ((with_reducible refine zT (f := 36) rfl ?_); refine goesL_ (some 7) rfl rfl Tryd.func36 (by kernel_rfl) rfl #[.slice A0 l0.length c0, .func (.func 51) #[] #[]] rfl apE ?_; (with_reducible refine (ih_impl_Value_36_at_flat_1 k (by omega) _ _ l0 t279 _ ?side1 ?side2 A3.out).mono ?_); (case side1 => repeat (first | exact HR0.out | (with_reducible refine Kd.C_alloc ?_ _) | (with_reducible refine Kd.C_drewN ?_ _) | (with_reducible refine Kd.C_drew ?_))); (case side2 => exact HC0.out); rintro e w4 ⟨rfl, hb⟩; refine ⟨_, rfl, ?_⟩; replace HB := zA (zP apA hb); (try clear hb); (try clear hb2); (try clear hk); (try clear hi)))
 go_ret
 exact ⟨apD, apA⟩

set_option maxHeartbeats 8000000 in
set_option maxRecDepth 100000 in
theorem impl_Value_36_at_flat_1.step (k : Nat) (ih_impl_Value_27_at_flat_1 : ∀ m, m < k → impl_Value_27_at_flat_1.Spec m) (ih_impl_Value_36_at_flat_1 : ∀ m, m < k → impl_Value_36_at_flat_1.Spec m) (ih_impl_flat : ∀ m, m < k → impl_flat.Spec m) (ih_impl_flat_1 : ∀ m, m < k → impl_flat_1.Spec m) : impl_Value_36_at_flat_1.Spec k := by
 intro A0 c0 l0 r w hr0 hc0 h
 cases k with
 | zero => exact absurd h (by simp [impl_Value_36_at_flat_1.f])
 | succ k =>
 simp only [impl_Value_36_at_flat_1.f] at h
 have hu34 := Tryd.underlying34
 have HR0 := zA hr0
 have HC0 := zA hc0
 clear hr0 hc0
 have HB := zA (yH w.heap.size w)
 have H : (impl_Value_36_at_flat_1.l0 k l0 (l0.length : Int) 0) = some r := h
 clear h
 have H' := zA H
 clear H
 go_enter Tryd.func36, Tryd.ntmps36
 go_wp2
 go_loopg [8] k (fun kq v8 w' => ∃ (x8_1 : Int), v8 = .int .i64 x8_1 ∧ Aside0 (impl_Value_36_at_flat_1.l0 kq l0 (l0.length : Int) x8_1 = some r) ∧ Aside0 (kq ≤ k) ∧ Aside0 (Below w.heap.size w w'))
 case atStart => exact ⟨(0), apC, H', ⟨yJ _⟩, ⟨apA⟩⟩
 case round =>
  clear H'
  try clear p2
  obtain ⟨x8_1, rfl, HA, HK1, HB⟩ := hrel
  cases gk with
  | zero => exact absurd HA.out (by simp [impl_Value_36_at_flat_1.l0])
  | succ k1 =>
   have H := HA.out
   clear HA
   simp only [impl_Value_36_at_flat_1.l0] at H
   by_cases c3 : x8_1 < (l0.length : Int)
   ·rw [if_pos c3] at H
    have c3b0 : decide (x8_1 < (l0.length : Int)) = true := yE c3
    clear c3
    by_cases c4 : 0 ≤ x8_1
    ·rw [if_pos c4] at H
     have c4b0 : decide (0 ≤ x8_1) = true := yE c4
     clear c4
     by_cases c5 : x8_1 < (l0.length : Int)
     ·rw [if_pos c5] at H
      have c5b0 : decide (x8_1 < (l0.length : Int)) = true := yE c5
      clear c5
      replace H := Option.bind_eq_some_iff.mp H
      obtain ⟨t281, A60, H⟩ := H
      have A6 := zA A60
      clear A60
      by_cases c7 : t281 = true
      ·subst c7
       have H1 := H; rw [if_pos rfl] at H1
       clear H
       have H := H1
       clear H1
       obtain rfl := yG H
       have p280 : 0 ≤ (x8_1 : Int) := yF apB
       have q280 : x8_1 < (l0.length : Int) := yF apB
       obtain ⟨ad280, A280_4, c280_4, A280_5, c280_5, e280, hx280_0, hx280_1, hx280_2, hx280_3, hx280_4, hx280_5, hl280_4, hi280_4, hl280_5, hi280_5⟩ := at_T34 HR0.out x8_1 p280 q280
       cases e280
       replace hx280_0 := (HB.out.cell (zR w _ hx280_0)).trans hx280_0
       replace hx280_1 := (HB.out.cell (zR w _ hx280_1)).trans hx280_1
       replace hx280_2 := (HB.out.cell (zR w _ hx280_2)).trans hx280_2
       replace hx280_3 := (HB.out.cell (zR w _ hx280_3)).trans hx280_3
       replace hx280_4 := (HB.out.cell (zR w _ hx280_4)).trans hx280_4
       replace hx280_5 := (HB.out.cell (zR w _ hx280_5)).trans hx280_5
       have HR280_4 := zA hi280_4
       have HC280_4 := zA hl280_4
       clear hi280_4 hl280_4
       have HR280_5 := zA hi280_5
       have HC280_5 := zA hl280_5
       clear hi280_5 hl280_5
       replace p280 := eq_true p280
       replace q280 := eq_true q280
       go_wp2_with (first | ((refine gate_calleev (f := 51) rfl rfl ?_); refine goesvL_ (some 16) rfl rfl Tryd.func51 (by kernel_rfl) rfl #[.agg #[.int .i64 ((rd_T34 l0 x8_1).f0), .int .i64 ((rd_T34 l0 x8_1).f1.f0), .int .i64 ((rd_T34 l0 x8_1).f1.f1), .string ((rd_T34 l0 x8_1).f2), .slice A280_4 ((rd_T34 l0 x8_1).f3).length c280_4, .slice A280_5 ((rd_T34 l0 x8_1).f4).length c280_5]] rfl rfl apE ?_; (with_reducible refine (ih_impl_flat_1 k1 (by have := HK1.out; omega) ((rd_T34 l0 x8_1).f0) ((rd_T34 l0 x8_1).f1.f0) ((rd_T34 l0 x8_1).f1.f1) ((rd_T34 l0 x8_1).f2) _ _ ((rd_T34 l0 x8_1).f3) _ _ ((rd_T34 l0 x8_1).f4) true _ ?side1 ?side2 ?side3 ?side4 A6.out).mono ?_); (case side1 => exact vc (Kd.C_below HR280_4.out HB.out)); (case side2 => exact HC280_4.out); (case side3 => exact vc (Kd.C_below HR280_5.out HB.out)); (case side4 => exact HC280_5.out); rintro e w8 ⟨rfl, hb⟩; refine ⟨_, rfl, ?_⟩; replace HB := zA (zP apA hb); (try clear hb); (try clear hb2); (try clear hk); (try clear hi)))
       go_ret
       exact ⟨apD, apA⟩
      ·replace c7 := Bool.eq_false_iff.mpr c7
       subst c7
       have H1 := H; rw [if_neg (show ¬ (false = true) by decide)] at H1
       clear H
       have H := H1
       clear H1
       have H' := zA H
       clear H
       have p280 : 0 ≤ (x8_1 : Int) := yF apB
       have q280 : x8_1 < (l0.length : Int) := yF apB
       obtain ⟨ad280, A280_4, c280_4, A280_5, c280_5, e280, hx280_0, hx280_1, hx280_2, hx280_3, hx280_4, hx280_5, hl280_4, hi280_4, hl280_5, hi280_5⟩ := at_T34 HR0.out x8_1 p280 q280
       cases e280
       replace hx280_0 := (HB.out.cell (zR w _ hx280_0)).trans hx280_0
       replace hx280_1 := (HB.out.cell (zR w _ hx280_1)).trans hx280_1
       replace hx280_2 := (HB.out.cell (zR w _ hx280_2)).trans hx280_2
       replace hx280_3 := (HB.out.cell (zR w _ hx280_3)).trans hx280_3
       replace hx280_4 := (HB.out.cell (zR w _ hx280_4)).trans hx280_4
       replace hx280_5 := (HB.out.cell (zR w _ hx280_5)).trans hx280_5
       have HR280_4 := zA hi280_4
       have HC280_4 := zA hl280_4
       clear hi280_4 hl280_4
       have HR280_5 := zA hi280_5
       have HC280_5 := zA hl280_5
       clear hi280_5 hl280_5
       replace p280 := eq_true p280
       replace q280 := eq_true q280
       go_wp2_with (first | ((refine gate_calleev (f := 51) rfl rfl ?_); refine goesvL_ (some 16) rfl rfl Tryd.func51 (by kernel_rfl) rfl #[.agg #[.int .i64 ((rd_T34 l0 x8_1).f0), .int .i64 ((rd_T34 l0 x8_1).f1.f0), .int .i64 ((rd_T34 l0 x8_1).f1.f1), .string ((rd_T34 l0 x8_1).f2), .slice A280_4 ((rd_T34 l0 x8_1).f3).length c280_4, .slice A280_5 ((rd_T34 l0 x8_1).f4).length c280_5]] rfl rfl apE ?_; (with_reducible refine (ih_impl_flat_1 k1 (by have := HK1.out; omega) ((rd_T34 l0 x8_1).f0) ((rd_T34 l0 x8_1).f1.f0) ((rd_T34 l0 x8_1).f1.f1) ((rd_T34 l0 x8_1).f2) _ _ ((rd_T34 l0 x8_1).f3) _ _ ((rd_T34 l0 x8_1).f4) false _ ?side1 ?side2 ?side3 ?side4 A6.out).mono ?_); (case side1 => exact vc (Kd.C_below HR280_4.out HB.out)); (case side2 => exact HC280_4.out); (case side3 => exact vc (Kd.C_below HR280_5.out HB.out)); (case side4 => exact HC280_5.out); rintro e w9 ⟨rfl, hb⟩; refine ⟨_, rfl, ?_⟩; replace HB := zA (zP apA hb); (try clear hb); (try clear hb2); (try clear hk); (try clear hi)))
       go_roundg k1
       case measure => have := HK1.out; omega
       case rel => exact ⟨(wrap64 (x8_1 + 1)), apC, H', ⟨by have := HK1.out; omega⟩, ⟨apA⟩⟩
     ·rw [if_neg c5] at H
      exact absurd H (by simp)
    ·rw [if_neg c4] at H
     exact absurd H (by simp)
   ·rw [if_neg c3] at H
    have c3b0 : decide (x8_1 < (l0.length : Int)) = false := decide_eq_false c3
    clear c3
    obtain rfl := yG H
    go_wp2
    go_ret
    exact ⟨apD, apA⟩

set_option maxHeartbeats 8000000 in
set_option maxRecDepth 100000 in
theorem impl_flat.step (k : Nat) (ih_impl_Value_27_at_flat_1 : ∀ m, m < k → impl_Value_27_at_flat_1.Spec m) (ih_impl_Value_36_at_flat_1 : ∀ m, m < k → impl_Value_36_at_flat_1.Spec m) (ih_impl_flat : ∀ m, m < k → impl_flat.Spec m) (ih_impl_flat_1 : ∀ m, m < k → impl_flat_1.Spec m) : impl_flat.Spec k := by
 intro a0_0 a0_1 a0_2 a0_3 A0_4 c0_4 l0_4 A0_5 c0_5 l0_5 r w hr0_4 hc0_4 hr0_5 hc0_5 h
 cases k with
 | zero => exact absurd h (by simp [impl_flat.f])
 | succ k =>
 simp only [impl_flat.f] at h
 have hu34 := Tryd.underlying34
 have HR0_4 := zA hr0_4
 have HC0_4 := zA hc0_4
 clear hr0_4 hc0_4
 have HR0_5 := zA hr0_5
 have HC0_5 := zA hc0_5
 clear hr0_5 hc0_5
 have HB := zA (yH w.heap.size w)
 have H : (if a0_0 = 0 then (some false) else (if a0_0 = 6 then (some false) else ((impl_Value_27_at_flat_1.f k l0_4).bind fun t283 => (some (!t283))))) = some r := h
 clear h
 by_cases c2 : a0_0 = 0
 ·rw [if_pos c2] at H
  have c2b0 : (a0_0 == 0) = true := beq_iff_eq.mpr c2
  have c2b1 : (a0_0 != 0) = false := bne_eq_false_iff_eq.mpr c2
  clear c2
  obtain rfl := yG H
  go_enter Tryd.func40, Tryd.ntmps40
  go_wp2_with (first | ((with_reducible refine zS (N := 1) rfl ?_); refine zW ?hg (N := 1) ?hd (cs := #[.int .i64 a0_0, .int .i64 a0_1, .int .i64 a0_2, .string a0_3, .slice A0_4 l0_4.length c0_4, .slice A0_5 l0_5.length c0_5]) (t := 34) ?hr ?_; (case hd => rfl); (case hg => rfl); (case hr => first | (go_simp; done) | (go_simp; rfl)); intro gb282 hg w3 hbox hb; have BK282 := zA (hbox); have GW282 := zA ((by rw [hg]; exact (zQ apA) : w.heap.size ≤ gb282)); have GE282 := zA ((by rw [hg]; exact (zQ apA) : w.heap.size ≤ gb282)); replace HB := zA (zP apA hb); clear hb hbox hg; obtain ⟨hcz4_0, hcz4_1, hcz4_2, hcz4_3, hcz4_4, hcz4_5, hfz4_0, hfz4_1, hfz4_2, hfz4_3, hfz4_4, hfz4_5⟩ := zb6 BK282.out))
  go_ret
  exact ⟨apD, by repeat (first | (with_reducible first | exact HB.out | apply zG | apply zE | apply zF | refine zH ?_ GE282.out) | exact HB.out)⟩
 ·rw [if_neg c2] at H
  have c2b0 : (a0_0 == 0) = false := beq_eq_false_iff_ne.mpr c2
  have c2b1 : (a0_0 != 0) = true := bne_iff_ne.mpr c2
  by_cases c5 : a0_0 = 6
  ·rw [if_pos c5] at H
   have c5b0 : (a0_0 == 6) = true := beq_iff_eq.mpr c5
   have c5b1 : (a0_0 != 6) = false := bne_eq_false_iff_eq.mpr c5
   clear c5
   obtain rfl := yG H
   go_enter Tryd.func40, Tryd.ntmps40
   go_wp2_with (first | ((with_reducible refine zS (N := 1) rfl ?_); refine zW ?hg (N := 1) ?hd (cs := #[.int .i64 a0_0, .int .i64 a0_1, .int .i64 a0_2, .string a0_3, .slice A0_4 l0_4.length c0_4, .slice A0_5 l0_5.length c0_5]) (t := 34) ?hr ?_; (case hd => rfl); (case hg => rfl); (case hr => first | (go_simp; done) | (go_simp; rfl)); intro gb282 hg w6 hbox hb; have BK282 := zA (hbox); have GW282 := zA ((by rw [hg]; exact (zQ apA) : w.heap.size ≤ gb282)); have GE282 := zA ((by rw [hg]; exact (zQ apA) : w.heap.size ≤ gb282)); replace HB := zA (zP apA hb); clear hb hbox hg; obtain ⟨hcz7_0, hcz7_1, hcz7_2, hcz7_3, hcz7_4, hcz7_5, hfz7_0, hfz7_1, hfz7_2, hfz7_3, hfz7_4, hfz7_5⟩ := zb6 BK282.out))
   go_ret
   exact ⟨apD, by repeat (first | (with_reducible first | exact HB.out | apply zG | apply zE | apply zF | refine zH ?_ GE282.out) | exact HB.out)⟩
  ·rw [if_neg c5] at H
   have c5b0 : (a0_0 == 6) = false := beq_eq_false_iff_ne.mpr c5
   have c5b1 : (a0_0 != 6) = true := bne_iff_ne.mpr c5
   replace H := Option.bind_eq_some_iff.mp H
   obtain ⟨t283, A80, H⟩ := H
   have A8 := zA A80
   clear A80
   obtain rfl := yG H
   go_enter Tryd.func40, Tryd.ntmps40
   go_wp2_with (first | ((with_reducible refine zS (N := 1) rfl ?_); refine zW ?hg (N := 1) ?hd (cs := #[.int .i64 a0_0, .int .i64 a0_1, .int .i64 a0_2, .string a0_3, .slice A0_4 l0_4.length c0_4, .slice A0_5 l0_5.length c0_5]) (t := 34) ?hr ?_; (case hd => rfl); (case hg => rfl); (case hr => first | (go_simp; done) | (go_simp; rfl)); intro gb282 hg w9 hbox hb; have BK282 := zA (hbox); have GW282 := zA ((by rw [hg]; exact (zQ apA) : w.heap.size ≤ gb282)); have GE282 := zA ((by rw [hg]; exact (zQ apA) : w.heap.size ≤ gb282)); replace HB := zA (zP apA hb); clear hb hbox hg; obtain ⟨hcz10_0, hcz10_1, hcz10_2, hcz10_3, hcz10_4, hcz10_5, hfz10_0, hfz10_1, hfz10_2, hfz10_3, hfz10_4, hfz10_5⟩ := zb6 BK282.out) | (go_at_call 27; (with_reducible refine (ih_impl_Value_27_at_flat_1 k (by omega) _ _ l0_4 t283 _ ?side1 ?side2 A8.out).mono ?_); (case side1 => exact vc (Kd.C_below HR0_4.out HB.out)); (case side2 => exact HC0_4.out); rintro e w11 ⟨rfl, hb⟩; replace HB := zA (zP apA hb); (try clear hb); (try clear hb2); (try clear hk); (try clear hi)))
   go_ret
   exact ⟨apD, apA⟩

set_option maxHeartbeats 8000000 in
set_option maxRecDepth 100000 in
theorem impl_flat_1.step (k : Nat) (ih_impl_Value_27_at_flat_1 : ∀ m, m < k → impl_Value_27_at_flat_1.Spec m) (ih_impl_Value_36_at_flat_1 : ∀ m, m < k → impl_Value_36_at_flat_1.Spec m) (ih_impl_flat : ∀ m, m < k → impl_flat.Spec m) (ih_impl_flat_1 : ∀ m, m < k → impl_flat_1.Spec m) : impl_flat_1.Spec k := by
 intro a0_0 a0_1 a0_2 a0_3 A0_4 c0_4 l0_4 A0_5 c0_5 l0_5 r w hr0_4 hc0_4 hr0_5 hc0_5 h
 cases k with
 | zero => exact absurd h (by simp [impl_flat_1.f])
 | succ k =>
 simp only [impl_flat_1.f] at h
 have hu34 := Tryd.underlying34
 have HR0_4 := zA hr0_4
 have HC0_4 := zA hc0_4
 clear hr0_4 hc0_4
 have HR0_5 := zA hr0_5
 have HC0_5 := zA hc0_5
 clear hr0_5 hc0_5
 have HB := zA (yH w.heap.size w)
 have H : ((impl_flat.f k a0_0 a0_1 a0_2 a0_3 l0_4 l0_5).bind fun t285 => (some (!t285))) = some r := h
 clear h
 replace H := Option.bind_eq_some_iff.mp H
 obtain ⟨t285, A20, H⟩ := H
 have A2 := zA A20
 clear A20
 obtain rfl := yG H
 go_enter Tryd.func51, Tryd.ntmps51
 go_wp2_with (first | ((with_reducible refine zS (N := 1) rfl ?_); refine zW ?hg (N := 1) ?hd (cs := #[.int .i64 a0_0, .int .i64 a0_1, .int .i64 a0_2, .string a0_3, .slice A0_4 l0_4.length c0_4, .slice A0_5 l0_5.length c0_5]) (t := 34) ?hr ?_; (case hd => rfl); (case hg => rfl); (case hr => first | (go_simp; done) | (go_simp; rfl)); intro gb284 hg w3 hbox hb; have BK284 := zA (hbox); have GW284 := zA ((by rw [hg]; exact (zQ apA) : w.heap.size ≤ gb284)); have GE284 := zA ((by rw [hg]; exact (zQ apA) : w.heap.size ≤ gb284)); replace HB := zA (zP apA hb); clear hb hbox hg; obtain ⟨hcz4_0, hcz4_1, hcz4_2, hcz4_3, hcz4_4, hcz4_5, hfz4_0, hfz4_1, hfz4_2, hfz4_3, hfz4_4, hfz4_5⟩ := zb6 BK284.out) | ((with_reducible refine zT (f := 40) rfl ?_); refine goesL_ (some 4) rfl rfl Tryd.func40 (by kernel_rfl) rfl #[.agg #[.int .i64 a0_0, .int .i64 a0_1, .int .i64 a0_2, .string a0_3, .slice A0_4 l0_4.length c0_4, .slice A0_5 l0_5.length c0_5]] rfl apE ?_; (with_reducible refine (ih_impl_flat k (by omega) a0_0 a0_1 a0_2 a0_3 _ _ l0_4 _ _ l0_5 t285 _ ?side1 ?side2 ?side3 ?side4 A2.out).mono ?_); (case side1 => exact vc (Kd.C_below HR0_4.out HB.out)); (case side2 => exact HC0_4.out); (case side3 => exact vc (Kd.C_below HR0_5.out HB.out)); (case side4 => exact HC0_5.out); rintro e w5 ⟨rfl, hb⟩; refine ⟨_, rfl, ?_⟩; replace HB := zA (zP apA hb); (try clear hb); (try clear hb2); (try clear hk); (try clear hi)))
 go_ret
 exact ⟨apD, apA⟩

theorem impl_Value_27_at_flat_1.G.all (k : Nat) : impl_Value_27_at_flat_1.Spec k ∧ impl_Value_36_at_flat_1.Spec k ∧ impl_flat.Spec k ∧ impl_flat_1.Spec k := by
 induction k using Nat.strongRecOn with
 | _ k ih =>
  exact ⟨impl_Value_27_at_flat_1.step k (fun m hm => (ih m hm).1) (fun m hm => (ih m hm).2.1) (fun m hm => (ih m hm).2.2.1) (fun m hm => (ih m hm).2.2.2), impl_Value_36_at_flat_1.step k (fun m hm => (ih m hm).1) (fun m hm => (ih m hm).2.1) (fun m hm => (ih m hm).2.2.1) (fun m hm => (ih m hm).2.2.2), impl_flat.step k (fun m hm => (ih m hm).1) (fun m hm => (ih m hm).2.1) (fun m hm => (ih m hm).2.2.1) (fun m hm => (ih m hm).2.2.2), impl_flat_1.step k (fun m hm => (ih m hm).1) (fun m hm => (ih m hm).2.1) (fun m hm => (ih m hm).2.2.1) (fun m hm => (ih m hm).2.2.2)⟩
theorem impl_Value_27_at_flat_1.calls (k : Nat) : impl_Value_27_at_flat_1.Spec k := (impl_Value_27_at_flat_1.G.all k).1
theorem impl_Value_36_at_flat_1.calls (k : Nat) : impl_Value_36_at_flat_1.Spec k := (impl_Value_27_at_flat_1.G.all k).2.1
theorem impl_flat.calls (k : Nat) : impl_flat.Spec k := (impl_Value_27_at_flat_1.G.all k).2.2.1
theorem impl_flat_1.calls (k : Nat) : impl_flat_1.Spec k := (impl_Value_27_at_flat_1.G.all k).2.2.2


mutual
def impl_Value_27_at_fits_1.f : Nat → List (S34) → Option (Bool)
 | 0, _ => none
 | k + 1, l0 => (impl_Value_36_at_fits_1.f k l0).bind fun t286 => (some (decide (t286 ≥ 0)))
def impl_fits.f : Nat → Int → Int → Int → ByteArray → List (S34) → List ByteArray → Option (Bool)
 | 0, _, _, _, _, _, _ => none
 | k + 1, a0_0, a0_1, a0_2, a0_3, l0_4, l0_5 => if a0_0 = 6 then ((impl_Value_27_at_fits_1.f k l0_4).bind fun t288 => (some (!t288))) else (some false)
def impl_Value_36_at_fits_1.l0 : Nat → List (S34) → Int → Int → Option (Int)
 | 0, _, _, _ => none
 | k + 1, x0, x7, x8 => if x8 < x7 then (if 0 ≤ x8 then (if x8 < (x0.length : Int) then ((impl_fits_1.f k ((rd_T34 x0 x8).f0) ((rd_T34 x0 x8).f1.f0) ((rd_T34 x0 x8).f1.f1) ((rd_T34 x0 x8).f2) ((rd_T34 x0 x8).f3) ((rd_T34 x0 x8).f4)).bind fun t290 => (if t290 = true then (some x8) else (impl_Value_36_at_fits_1.l0 k x0 x7 (wrap64 (x8 + 1))))) else (none)) else (none)) else (some (-1))
def impl_Value_36_at_fits_1.f : Nat → List (S34) → Option (Int)
 | 0, _ => none
 | k + 1, l0 => impl_Value_36_at_fits_1.l0 k l0 (l0.length : Int) 0
def impl_fits_1.f : Nat → Int → Int → Int → ByteArray → List (S34) → List ByteArray → Option (Bool)
 | 0, _, _, _, _, _, _ => none
 | k + 1, a0_0, a0_1, a0_2, a0_3, l0_4, l0_5 => (impl_flat.f k a0_0 a0_1 a0_2 a0_3 l0_4 l0_5).bind fun t292 => (if t292 = true then (some false) else ((impl_fits.f k a0_0 a0_1 a0_2 a0_3 l0_4 l0_5).bind fun t293 => (some (!t293))))
end
theorem impl_Value_27_at_fits_1.G.mono_l : ∀ k, (∀ y0, LeO (impl_Value_27_at_fits_1.f k y0) (impl_Value_27_at_fits_1.f (k + 1) y0)) ∧ (∀ y0 y1 y2 y3 y4 y5, LeO (impl_fits.f k y0 y1 y2 y3 y4 y5) (impl_fits.f (k + 1) y0 y1 y2 y3 y4 y5)) ∧ (∀ y0, LeO (impl_Value_36_at_fits_1.f k y0) (impl_Value_36_at_fits_1.f (k + 1) y0)) ∧ (∀ y0 y1 y2, LeO (impl_Value_36_at_fits_1.l0 k y0 y1 y2) (impl_Value_36_at_fits_1.l0 (k + 1) y0 y1 y2)) ∧ (∀ y0 y1 y2 y3 y4 y5, LeO (impl_fits_1.f k y0 y1 y2 y3 y4 y5) (impl_fits_1.f (k + 1) y0 y1 y2 y3 y4 y5))
 | 0 => ⟨fun _ r h => by simp [impl_Value_27_at_fits_1.f] at h, fun _ _ _ _ _ _ r h => by simp [impl_fits.f] at h, fun _ r h => by simp [impl_Value_36_at_fits_1.f] at h, fun _ _ _ r h => by simp [impl_Value_36_at_fits_1.l0] at h, fun _ _ _ _ _ _ r h => by simp [impl_fits_1.f] at h⟩
 | k + 1 => by
  obtain ⟨ih0, ih1, ih2, ih3, ih4⟩ := impl_Value_27_at_fits_1.G.mono_l k
  refine ⟨?_, ?_, ?_, ?_, ?_⟩
  ·intro y0
   unfold impl_Value_27_at_fits_1.f
   repeat' first
   | (with_reducible exact ih0 _)
   | (with_reducible exact ih1 _ _ _ _ _ _)
   | (with_reducible exact ih2 _)
   | (with_reducible exact ih3 _ _ _)
   | (with_reducible exact ih4 _ _ _ _ _ _)
   | (with_reducible exact impl_flat.mono _ _ _ _ _ _ _)
   | (with_reducible exact LeO.refl _)
   | (with_reducible exact LeO.none _)
   | (with_reducible refine LeO.ite ?_ ?_)
   | (with_reducible refine LeO.bind ?_ (fun _ => ?_))
   | exact ih0 _
   | exact ih1 _ _ _ _ _ _
   | exact ih2 _
   | exact ih3 _ _ _
   | exact ih4 _ _ _ _ _ _
  ·intro y0 y1 y2 y3 y4 y5
   unfold impl_fits.f
   repeat' first
   | (with_reducible exact ih0 _)
   | (with_reducible exact ih1 _ _ _ _ _ _)
   | (with_reducible exact ih2 _)
   | (with_reducible exact ih3 _ _ _)
   | (with_reducible exact ih4 _ _ _ _ _ _)
   | (with_reducible exact impl_flat.mono _ _ _ _ _ _ _)
   | (with_reducible exact LeO.refl _)
   | (with_reducible exact LeO.none _)
   | (with_reducible refine LeO.ite ?_ ?_)
   | (with_reducible refine LeO.bind ?_ (fun _ => ?_))
   | exact ih0 _
   | exact ih1 _ _ _ _ _ _
   | exact ih2 _
   | exact ih3 _ _ _
   | exact ih4 _ _ _ _ _ _
  ·intro y0
   unfold impl_Value_36_at_fits_1.f
   repeat' first
   | (with_reducible exact ih0 _)
   | (with_reducible exact ih1 _ _ _ _ _ _)
   | (with_reducible exact ih2 _)
   | (with_reducible exact ih3 _ _ _)
   | (with_reducible exact ih4 _ _ _ _ _ _)
   | (with_reducible exact impl_flat.mono _ _ _ _ _ _ _)
   | (with_reducible exact LeO.refl _)
   | (with_reducible exact LeO.none _)
   | (with_reducible refine LeO.ite ?_ ?_)
   | (with_reducible refine LeO.bind ?_ (fun _ => ?_))
   | exact ih0 _
   | exact ih1 _ _ _ _ _ _
   | exact ih2 _
   | exact ih3 _ _ _
   | exact ih4 _ _ _ _ _ _
  ·intro y0 y1 y2
   unfold impl_Value_36_at_fits_1.l0
   repeat' first
   | (with_reducible exact ih0 _)
   | (with_reducible exact ih1 _ _ _ _ _ _)
   | (with_reducible exact ih2 _)
   | (with_reducible exact ih3 _ _ _)
   | (with_reducible exact ih4 _ _ _ _ _ _)
   | (with_reducible exact impl_flat.mono _ _ _ _ _ _ _)
   | (with_reducible exact LeO.refl _)
   | (with_reducible exact LeO.none _)
   | (with_reducible refine LeO.ite ?_ ?_)
   | (with_reducible refine LeO.bind ?_ (fun _ => ?_))
   | exact ih0 _
   | exact ih1 _ _ _ _ _ _
   | exact ih2 _
   | exact ih3 _ _ _
   | exact ih4 _ _ _ _ _ _
  ·intro y0 y1 y2 y3 y4 y5
   unfold impl_fits_1.f
   repeat' first
   | (with_reducible exact ih0 _)
   | (with_reducible exact ih1 _ _ _ _ _ _)
   | (with_reducible exact ih2 _)
   | (with_reducible exact ih3 _ _ _)
   | (with_reducible exact ih4 _ _ _ _ _ _)
   | (with_reducible exact impl_flat.mono _ _ _ _ _ _ _)
   | (with_reducible exact LeO.refl _)
   | (with_reducible exact LeO.none _)
   | (with_reducible refine LeO.ite ?_ ?_)
   | (with_reducible refine LeO.bind ?_ (fun _ => ?_))
   | exact ih0 _
   | exact ih1 _ _ _ _ _ _
   | exact ih2 _
   | exact ih3 _ _ _
   | exact ih4 _ _ _ _ _ _
theorem impl_Value_27_at_fits_1.mono : ∀ a0 k, LeO (impl_Value_27_at_fits_1.f k a0) (impl_Value_27_at_fits_1.f (k + 1) a0) := fun a0 k => (impl_Value_27_at_fits_1.G.mono_l k).1 a0
theorem impl_fits.mono : ∀ a0 a1 a2 a3 a4 a5 k, LeO (impl_fits.f k a0 a1 a2 a3 a4 a5) (impl_fits.f (k + 1) a0 a1 a2 a3 a4 a5) := fun a0 a1 a2 a3 a4 a5 k => (impl_Value_27_at_fits_1.G.mono_l k).2.1 a0 a1 a2 a3 a4 a5
theorem impl_Value_36_at_fits_1.mono : ∀ a0 k, LeO (impl_Value_36_at_fits_1.f k a0) (impl_Value_36_at_fits_1.f (k + 1) a0) := fun a0 k => (impl_Value_27_at_fits_1.G.mono_l k).2.2.1 a0
theorem impl_fits_1.mono : ∀ a0 a1 a2 a3 a4 a5 k, LeO (impl_fits_1.f k a0 a1 a2 a3 a4 a5) (impl_fits_1.f (k + 1) a0 a1 a2 a3 a4 a5) := fun a0 a1 a2 a3 a4 a5 k => (impl_Value_27_at_fits_1.G.mono_l k).2.2.2.2 a0 a1 a2 a3 a4 a5
abbrev impl_Value_27_at_fits_1.Spec (k : Nat) : Prop := ∀ (A0 : Option Addr) (c0 : Nat) (l0 : List (S34))  (r : Bool) (w : World) (hr0 : Kd.C k34 w A0 l0.length l0) (hc0 : l0.length ≤ c0) (h : impl_Value_27_at_fits_1.f k l0 = some r),
  Calls Tryd.prog 27 #[.slice A0 l0.length c0, .func (.func 39) #[] #[]] w fun e w' => e = .returned (.bool r) ∧ Below w.heap.size w w'
abbrev impl_fits.Spec (k : Nat) : Prop := ∀ (a0_0 : Int) (a0_1 : Int) (a0_2 : Int) (a0_3 : ByteArray) (A0_4 : Option Addr) (c0_4 : Nat) (l0_4 : List (S34)) (A0_5 : Option Addr) (c0_5 : Nat) (l0_5 : List ByteArray) (r : Bool) (w : World) (hr0_4 : Kd.C k34 w A0_4 l0_4.length l0_4) (hc0_4 : l0_4.length ≤ c0_4) (hr0_5 : Kd.C Kd.string w A0_5 l0_5.length l0_5) (hc0_5 : l0_5.length ≤ c0_5) (h : impl_fits.f k a0_0 a0_1 a0_2 a0_3 l0_4 l0_5 = some r),
  Calls Tryd.prog 31 #[.agg #[.int .i64 a0_0, .int .i64 a0_1, .int .i64 a0_2, .string a0_3, .slice A0_4 l0_4.length c0_4, .slice A0_5 l0_5.length c0_5]] w fun e w' => e = .returned (.bool r) ∧ Below w.heap.size w w'
abbrev impl_Value_36_at_fits_1.Spec (k : Nat) : Prop := ∀ (A0 : Option Addr) (c0 : Nat) (l0 : List (S34))  (r : Int) (w : World) (hr0 : Kd.C k34 w A0 l0.length l0) (hc0 : l0.length ≤ c0) (h : impl_Value_36_at_fits_1.f k l0 = some r),
  Calls Tryd.prog 36 #[.slice A0 l0.length c0, .func (.func 39) #[] #[]] w fun e w' => e = .returned (.int .i64 r) ∧ Below w.heap.size w w'
abbrev impl_fits_1.Spec (k : Nat) : Prop := ∀ (a0_0 : Int) (a0_1 : Int) (a0_2 : Int) (a0_3 : ByteArray) (A0_4 : Option Addr) (c0_4 : Nat) (l0_4 : List (S34)) (A0_5 : Option Addr) (c0_5 : Nat) (l0_5 : List ByteArray) (r : Bool) (w : World) (hr0_4 : Kd.C k34 w A0_4 l0_4.length l0_4) (hc0_4 : l0_4.length ≤ c0_4) (hr0_5 : Kd.C Kd.string w A0_5 l0_5.length l0_5) (hc0_5 : l0_5.length ≤ c0_5) (h : impl_fits_1.f k a0_0 a0_1 a0_2 a0_3 l0_4 l0_5 = some r),
  Calls Tryd.prog 39 #[.agg #[.int .i64 a0_0, .int .i64 a0_1, .int .i64 a0_2, .string a0_3, .slice A0_4 l0_4.length c0_4, .slice A0_5 l0_5.length c0_5]] w fun e w' => e = .returned (.bool r) ∧ Below w.heap.size w w'
set_option maxHeartbeats 8000000 in
set_option maxRecDepth 100000 in
theorem impl_Value_27_at_fits_1.step (k : Nat) (ih_impl_Value_27_at_fits_1 : ∀ m, m < k → impl_Value_27_at_fits_1.Spec m) (ih_impl_fits : ∀ m, m < k → impl_fits.Spec m) (ih_impl_Value_36_at_fits_1 : ∀ m, m < k → impl_Value_36_at_fits_1.Spec m) (ih_impl_fits_1 : ∀ m, m < k → impl_fits_1.Spec m) : impl_Value_27_at_fits_1.Spec k := by
 intro A0 c0 l0 r w hr0 hc0 h
 cases k with
 | zero => exact absurd h (by simp [impl_Value_27_at_fits_1.f])
 | succ k =>
 simp only [impl_Value_27_at_fits_1.f] at h
 have HR0 := zA hr0
 have HC0 := zA hc0
 clear hr0 hc0
 have HB := zA (yH w.heap.size w)
 have H : ((impl_Value_36_at_fits_1.f k l0).bind fun t286 => (some (decide (t286 ≥ 0)))) = some r := h
 clear h
 replace H := Option.bind_eq_some_iff.mp H
 obtain ⟨t286, A30, H⟩ := H
 have A3 := zA A30
 clear A30
 obtain rfl := yG H
 go_enter Tryd.func27, Tryd.ntmps27
 go_wp2_with (first | ((with_reducible refine zT (f := 36) rfl ?_); refine goesL_ (some 7) rfl rfl Tryd.func36 (by kernel_rfl) rfl #[.slice A0 l0.length c0, .func (.func 39) #[] #[]] rfl apE ?_; (with_reducible refine (ih_impl_Value_36_at_fits_1 k (by omega) _ _ l0 t286 _ ?side1 ?side2 A3.out).mono ?_); (case side1 => repeat (first | exact HR0.out | (with_reducible refine Kd.C_alloc ?_ _) | (with_reducible refine Kd.C_drewN ?_ _) | (with_reducible refine Kd.C_drew ?_))); (case side2 => exact HC0.out); rintro e w4 ⟨rfl, hb⟩; refine ⟨_, rfl, ?_⟩; replace HB := zA (zP apA hb); (try clear hb); (try clear hb2); (try clear hk); (try clear hi)))
 go_ret
 exact ⟨apD, apA⟩

set_option maxHeartbeats 8000000 in
set_option maxRecDepth 100000 in
theorem impl_fits.step (k : Nat) (ih_impl_Value_27_at_fits_1 : ∀ m, m < k → impl_Value_27_at_fits_1.Spec m) (ih_impl_fits : ∀ m, m < k → impl_fits.Spec m) (ih_impl_Value_36_at_fits_1 : ∀ m, m < k → impl_Value_36_at_fits_1.Spec m) (ih_impl_fits_1 : ∀ m, m < k → impl_fits_1.Spec m) : impl_fits.Spec k := by
 intro a0_0 a0_1 a0_2 a0_3 A0_4 c0_4 l0_4 A0_5 c0_5 l0_5 r w hr0_4 hc0_4 hr0_5 hc0_5 h
 cases k with
 | zero => exact absurd h (by simp [impl_fits.f])
 | succ k =>
 simp only [impl_fits.f] at h
 have hu34 := Tryd.underlying34
 have HR0_4 := zA hr0_4
 have HC0_4 := zA hc0_4
 clear hr0_4 hc0_4
 have HR0_5 := zA hr0_5
 have HC0_5 := zA hc0_5
 clear hr0_5 hc0_5
 have HB := zA (yH w.heap.size w)
 have H : (if a0_0 = 6 then ((impl_Value_27_at_fits_1.f k l0_4).bind fun t288 => (some (!t288))) else (some false)) = some r := h
 clear h
 by_cases c2 : a0_0 = 6
 ·rw [if_pos c2] at H
  have c2b0 : (a0_0 == 6) = true := beq_iff_eq.mpr c2
  have c2b1 : (a0_0 != 6) = false := bne_eq_false_iff_eq.mpr c2
  clear c2
  replace H := Option.bind_eq_some_iff.mp H
  obtain ⟨t288, A30, H⟩ := H
  have A3 := zA A30
  clear A30
  obtain rfl := yG H
  go_enter Tryd.func31, Tryd.ntmps31
  go_wp2_with (first | ((with_reducible refine zS (N := 1) rfl ?_); refine zW ?hg (N := 1) ?hd (cs := #[.int .i64 a0_0, .int .i64 a0_1, .int .i64 a0_2, .string a0_3, .slice A0_4 l0_4.length c0_4, .slice A0_5 l0_5.length c0_5]) (t := 34) ?hr ?_; (case hd => rfl); (case hg => rfl); (case hr => first | (go_simp; done) | (go_simp; rfl)); intro gb287 hg w4 hbox hb; have BK287 := zA (hbox); have GW287 := zA ((by rw [hg]; exact (zQ apA) : w.heap.size ≤ gb287)); have GE287 := zA ((by rw [hg]; exact (zQ apA) : w.heap.size ≤ gb287)); replace HB := zA (zP apA hb); clear hb hbox hg; obtain ⟨hcz5_0, hcz5_1, hcz5_2, hcz5_3, hcz5_4, hcz5_5, hfz5_0, hfz5_1, hfz5_2, hfz5_3, hfz5_4, hfz5_5⟩ := zb6 BK287.out) | (go_at_call 27; (with_reducible refine (ih_impl_Value_27_at_fits_1 k (by omega) _ _ l0_4 t288 _ ?side1 ?side2 A3.out).mono ?_); (case side1 => exact vc (Kd.C_below HR0_4.out HB.out)); (case side2 => exact HC0_4.out); rintro e w6 ⟨rfl, hb⟩; replace HB := zA (zP apA hb); (try clear hb); (try clear hb2); (try clear hk); (try clear hi)))
  go_ret
  exact ⟨apD, apA⟩
 ·rw [if_neg c2] at H
  have c2b0 : (a0_0 == 6) = false := beq_eq_false_iff_ne.mpr c2
  have c2b1 : (a0_0 != 6) = true := bne_iff_ne.mpr c2
  obtain rfl := yG H
  go_enter Tryd.func31, Tryd.ntmps31
  go_wp2_with (first | ((with_reducible refine zS (N := 1) rfl ?_); refine zW ?hg (N := 1) ?hd (cs := #[.int .i64 a0_0, .int .i64 a0_1, .int .i64 a0_2, .string a0_3, .slice A0_4 l0_4.length c0_4, .slice A0_5 l0_5.length c0_5]) (t := 34) ?hr ?_; (case hd => rfl); (case hg => rfl); (case hr => first | (go_simp; done) | (go_simp; rfl)); intro gb287 hg w7 hbox hb; have BK287 := zA (hbox); have GW287 := zA ((by rw [hg]; exact (zQ apA) : w.heap.size ≤ gb287)); have GE287 := zA ((by rw [hg]; exact (zQ apA) : w.heap.size ≤ gb287)); replace HB := zA (zP apA hb); clear hb hbox hg; obtain ⟨hcz8_0, hcz8_1, hcz8_2, hcz8_3, hcz8_4, hcz8_5, hfz8_0, hfz8_1, hfz8_2, hfz8_3, hfz8_4, hfz8_5⟩ := zb6 BK287.out))
  go_ret
  exact ⟨apD, by repeat (first | (with_reducible first | exact HB.out | apply zG | apply zE | apply zF | refine zH ?_ GE287.out) | exact HB.out)⟩

set_option maxHeartbeats 8000000 in
set_option maxRecDepth 100000 in
theorem impl_Value_36_at_fits_1.step (k : Nat) (ih_impl_Value_27_at_fits_1 : ∀ m, m < k → impl_Value_27_at_fits_1.Spec m) (ih_impl_fits : ∀ m, m < k → impl_fits.Spec m) (ih_impl_Value_36_at_fits_1 : ∀ m, m < k → impl_Value_36_at_fits_1.Spec m) (ih_impl_fits_1 : ∀ m, m < k → impl_fits_1.Spec m) : impl_Value_36_at_fits_1.Spec k := by
 intro A0 c0 l0 r w hr0 hc0 h
 cases k with
 | zero => exact absurd h (by simp [impl_Value_36_at_fits_1.f])
 | succ k =>
 simp only [impl_Value_36_at_fits_1.f] at h
 have hu34 := Tryd.underlying34
 have HR0 := zA hr0
 have HC0 := zA hc0
 clear hr0 hc0
 have HB := zA (yH w.heap.size w)
 have H : (impl_Value_36_at_fits_1.l0 k l0 (l0.length : Int) 0) = some r := h
 clear h
 have H' := zA H
 clear H
 go_enter Tryd.func36, Tryd.ntmps36
 go_wp2
 go_loopg [8] k (fun kq v8 w' => ∃ (x8_1 : Int), v8 = .int .i64 x8_1 ∧ Aside0 (impl_Value_36_at_fits_1.l0 kq l0 (l0.length : Int) x8_1 = some r) ∧ Aside0 (kq ≤ k) ∧ Aside0 (Below w.heap.size w w'))
 case atStart => exact ⟨(0), apC, H', ⟨yJ _⟩, ⟨apA⟩⟩
 case round =>
  clear H'
  try clear p2
  obtain ⟨x8_1, rfl, HA, HK1, HB⟩ := hrel
  cases gk with
  | zero => exact absurd HA.out (by simp [impl_Value_36_at_fits_1.l0])
  | succ k1 =>
   have H := HA.out
   clear HA
   simp only [impl_Value_36_at_fits_1.l0] at H
   by_cases c3 : x8_1 < (l0.length : Int)
   ·rw [if_pos c3] at H
    have c3b0 : decide (x8_1 < (l0.length : Int)) = true := yE c3
    clear c3
    by_cases c4 : 0 ≤ x8_1
    ·rw [if_pos c4] at H
     have c4b0 : decide (0 ≤ x8_1) = true := yE c4
     clear c4
     by_cases c5 : x8_1 < (l0.length : Int)
     ·rw [if_pos c5] at H
      have c5b0 : decide (x8_1 < (l0.length : Int)) = true := yE c5
      clear c5
      replace H := Option.bind_eq_some_iff.mp H
      obtain ⟨t290, A60, H⟩ := H
      have A6 := zA A60
      clear A60
      by_cases c7 : t290 = true
      ·subst c7
       have H1 := H; rw [if_pos rfl] at H1
       clear H
       have H := H1
       clear H1
       obtain rfl := yG H
       have p289 : 0 ≤ (x8_1 : Int) := yF apB
       have q289 : x8_1 < (l0.length : Int) := yF apB
       obtain ⟨ad289, A289_4, c289_4, A289_5, c289_5, e289, hx289_0, hx289_1, hx289_2, hx289_3, hx289_4, hx289_5, hl289_4, hi289_4, hl289_5, hi289_5⟩ := at_T34 HR0.out x8_1 p289 q289
       cases e289
       replace hx289_0 := (HB.out.cell (zR w _ hx289_0)).trans hx289_0
       replace hx289_1 := (HB.out.cell (zR w _ hx289_1)).trans hx289_1
       replace hx289_2 := (HB.out.cell (zR w _ hx289_2)).trans hx289_2
       replace hx289_3 := (HB.out.cell (zR w _ hx289_3)).trans hx289_3
       replace hx289_4 := (HB.out.cell (zR w _ hx289_4)).trans hx289_4
       replace hx289_5 := (HB.out.cell (zR w _ hx289_5)).trans hx289_5
       have HR289_4 := zA hi289_4
       have HC289_4 := zA hl289_4
       clear hi289_4 hl289_4
       have HR289_5 := zA hi289_5
       have HC289_5 := zA hl289_5
       clear hi289_5 hl289_5
       replace p289 := eq_true p289
       replace q289 := eq_true q289
       go_wp2_with (first | ((refine gate_calleev (f := 39) rfl rfl ?_); refine goesvL_ (some 16) rfl rfl Tryd.func39 (by kernel_rfl) rfl #[.agg #[.int .i64 ((rd_T34 l0 x8_1).f0), .int .i64 ((rd_T34 l0 x8_1).f1.f0), .int .i64 ((rd_T34 l0 x8_1).f1.f1), .string ((rd_T34 l0 x8_1).f2), .slice A289_4 ((rd_T34 l0 x8_1).f3).length c289_4, .slice A289_5 ((rd_T34 l0 x8_1).f4).length c289_5]] rfl rfl apE ?_; (with_reducible refine (ih_impl_fits_1 k1 (by have := HK1.out; omega) ((rd_T34 l0 x8_1).f0) ((rd_T34 l0 x8_1).f1.f0) ((rd_T34 l0 x8_1).f1.f1) ((rd_T34 l0 x8_1).f2) _ _ ((rd_T34 l0 x8_1).f3) _ _ ((rd_T34 l0 x8_1).f4) true _ ?side1 ?side2 ?side3 ?side4 A6.out).mono ?_); (case side1 => exact vc (Kd.C_below HR289_4.out HB.out)); (case side2 => exact HC289_4.out); (case side3 => exact vc (Kd.C_below HR289_5.out HB.out)); (case side4 => exact HC289_5.out); rintro e w8 ⟨rfl, hb⟩; refine ⟨_, rfl, ?_⟩; replace HB := zA (zP apA hb); (try clear hb); (try clear hb2); (try clear hk); (try clear hi)))
       go_ret
       exact ⟨apD, apA⟩
      ·replace c7 := Bool.eq_false_iff.mpr c7
       subst c7
       have H1 := H; rw [if_neg (show ¬ (false = true) by decide)] at H1
       clear H
       have H := H1
       clear H1
       have H' := zA H
       clear H
       have p289 : 0 ≤ (x8_1 : Int) := yF apB
       have q289 : x8_1 < (l0.length : Int) := yF apB
       obtain ⟨ad289, A289_4, c289_4, A289_5, c289_5, e289, hx289_0, hx289_1, hx289_2, hx289_3, hx289_4, hx289_5, hl289_4, hi289_4, hl289_5, hi289_5⟩ := at_T34 HR0.out x8_1 p289 q289
       cases e289
       replace hx289_0 := (HB.out.cell (zR w _ hx289_0)).trans hx289_0
       replace hx289_1 := (HB.out.cell (zR w _ hx289_1)).trans hx289_1
       replace hx289_2 := (HB.out.cell (zR w _ hx289_2)).trans hx289_2
       replace hx289_3 := (HB.out.cell (zR w _ hx289_3)).trans hx289_3
       replace hx289_4 := (HB.out.cell (zR w _ hx289_4)).trans hx289_4
       replace hx289_5 := (HB.out.cell (zR w _ hx289_5)).trans hx289_5
       have HR289_4 := zA hi289_4
       have HC289_4 := zA hl289_4
       clear hi289_4 hl289_4
       have HR289_5 := zA hi289_5
       have HC289_5 := zA hl289_5
       clear hi289_5 hl289_5
       replace p289 := eq_true p289
       replace q289 := eq_true q289
       go_wp2_with (first | ((refine gate_calleev (f := 39) rfl rfl ?_); refine goesvL_ (some 16) rfl rfl Tryd.func39 (by kernel_rfl) rfl #[.agg #[.int .i64 ((rd_T34 l0 x8_1).f0), .int .i64 ((rd_T34 l0 x8_1).f1.f0), .int .i64 ((rd_T34 l0 x8_1).f1.f1), .string ((rd_T34 l0 x8_1).f2), .slice A289_4 ((rd_T34 l0 x8_1).f3).length c289_4, .slice A289_5 ((rd_T34 l0 x8_1).f4).length c289_5]] rfl rfl apE ?_; (with_reducible refine (ih_impl_fits_1 k1 (by have := HK1.out; omega) ((rd_T34 l0 x8_1).f0) ((rd_T34 l0 x8_1).f1.f0) ((rd_T34 l0 x8_1).f1.f1) ((rd_T34 l0 x8_1).f2) _ _ ((rd_T34 l0 x8_1).f3) _ _ ((rd_T34 l0 x8_1).f4) false _ ?side1 ?side2 ?side3 ?side4 A6.out).mono ?_); (case side1 => exact vc (Kd.C_below HR289_4.out HB.out)); (case side2 => exact HC289_4.out); (case side3 => exact vc (Kd.C_below HR289_5.out HB.out)); (case side4 => exact HC289_5.out); rintro e w9 ⟨rfl, hb⟩; refine ⟨_, rfl, ?_⟩; replace HB := zA (zP apA hb); (try clear hb); (try clear hb2); (try clear hk); (try clear hi)))
       go_roundg k1
       case measure => have := HK1.out; omega
       case rel => exact ⟨(wrap64 (x8_1 + 1)), apC, H', ⟨by have := HK1.out; omega⟩, ⟨apA⟩⟩
     ·rw [if_neg c5] at H
      exact absurd H (by simp)
    ·rw [if_neg c4] at H
     exact absurd H (by simp)
   ·rw [if_neg c3] at H
    have c3b0 : decide (x8_1 < (l0.length : Int)) = false := decide_eq_false c3
    clear c3
    obtain rfl := yG H
    go_wp2
    go_ret
    exact ⟨apD, apA⟩

set_option maxHeartbeats 8000000 in
set_option maxRecDepth 100000 in
theorem impl_fits_1.step (k : Nat) (ih_impl_Value_27_at_fits_1 : ∀ m, m < k → impl_Value_27_at_fits_1.Spec m) (ih_impl_fits : ∀ m, m < k → impl_fits.Spec m) (ih_impl_Value_36_at_fits_1 : ∀ m, m < k → impl_Value_36_at_fits_1.Spec m) (ih_impl_fits_1 : ∀ m, m < k → impl_fits_1.Spec m) : impl_fits_1.Spec k := by
 intro a0_0 a0_1 a0_2 a0_3 A0_4 c0_4 l0_4 A0_5 c0_5 l0_5 r w hr0_4 hc0_4 hr0_5 hc0_5 h
 cases k with
 | zero => exact absurd h (by simp [impl_fits_1.f])
 | succ k =>
 simp only [impl_fits_1.f] at h
 have hu34 := Tryd.underlying34
 have HR0_4 := zA hr0_4
 have HC0_4 := zA hc0_4
 clear hr0_4 hc0_4
 have HR0_5 := zA hr0_5
 have HC0_5 := zA hc0_5
 clear hr0_5 hc0_5
 have HB := zA (yH w.heap.size w)
 have H : ((impl_flat.f k a0_0 a0_1 a0_2 a0_3 l0_4 l0_5).bind fun t292 => (if t292 = true then (some false) else ((impl_fits.f k a0_0 a0_1 a0_2 a0_3 l0_4 l0_5).bind fun t293 => (some (!t293))))) = some r := h
 clear h
 replace H := Option.bind_eq_some_iff.mp H
 obtain ⟨t292, A20, H⟩ := H
 have A2 := zA A20
 clear A20
 by_cases c3 : t292 = true
 ·subst c3
  have H1 := H; rw [if_pos rfl] at H1
  clear H
  have H := H1
  clear H1
  obtain rfl := yG H
  go_enter Tryd.func39, Tryd.ntmps39
  go_wp2_with (first | ((with_reducible refine zS (N := 1) rfl ?_); refine zW ?hg (N := 1) ?hd (cs := #[.int .i64 a0_0, .int .i64 a0_1, .int .i64 a0_2, .string a0_3, .slice A0_4 l0_4.length c0_4, .slice A0_5 l0_5.length c0_5]) (t := 34) ?hr ?_; (case hd => rfl); (case hg => rfl); (case hr => first | (go_simp; done) | (go_simp; rfl)); intro gb291 hg w4 hbox hb; have BK291 := zA (hbox); have GW291 := zA ((by rw [hg]; exact (zQ apA) : w.heap.size ≤ gb291)); have GE291 := zA ((by rw [hg]; exact (zQ apA) : w.heap.size ≤ gb291)); replace HB := zA (zP apA hb); clear hb hbox hg; obtain ⟨hcz5_0, hcz5_1, hcz5_2, hcz5_3, hcz5_4, hcz5_5, hfz5_0, hfz5_1, hfz5_2, hfz5_3, hfz5_4, hfz5_5⟩ := zb6 BK291.out) | ((with_reducible refine zT (f := 40) rfl ?_); refine goesL_ (some 4) rfl rfl Tryd.func40 (by kernel_rfl) rfl #[.agg #[.int .i64 a0_0, .int .i64 a0_1, .int .i64 a0_2, .string a0_3, .slice A0_4 l0_4.length c0_4, .slice A0_5 l0_5.length c0_5]] rfl apE ?_; (with_reducible refine (impl_flat.calls k a0_0 a0_1 a0_2 a0_3 _ _ l0_4 _ _ l0_5 true _ ?side1 ?side2 ?side3 ?side4 A2.out).mono ?_); (case side1 => exact vc (Kd.C_below HR0_4.out HB.out)); (case side2 => exact HC0_4.out); (case side3 => exact vc (Kd.C_below HR0_5.out HB.out)); (case side4 => exact HC0_5.out); rintro e w6 ⟨rfl, hb⟩; refine ⟨_, rfl, ?_⟩; replace HB := zA (zP apA hb); (try clear hb); (try clear hb2); (try clear hk); (try clear hi)))
  go_ret
  exact ⟨apD, apA⟩
 ·replace c3 := Bool.eq_false_iff.mpr c3
  subst c3
  have H1 := H; rw [if_neg (show ¬ (false = true) by decide)] at H1
  clear H
  have H := H1
  clear H1
  replace H := Option.bind_eq_some_iff.mp H
  obtain ⟨t293, A70, H⟩ := H
  have A7 := zA A70
  clear A70
  obtain rfl := yG H
  go_enter Tryd.func39, Tryd.ntmps39
  go_wp2_with (first | ((with_reducible refine zS (N := 1) rfl ?_); refine zW ?hg (N := 1) ?hd (cs := #[.int .i64 a0_0, .int .i64 a0_1, .int .i64 a0_2, .string a0_3, .slice A0_4 l0_4.length c0_4, .slice A0_5 l0_5.length c0_5]) (t := 34) ?hr ?_; (case hd => rfl); (case hg => rfl); (case hr => first | (go_simp; done) | (go_simp; rfl)); intro gb291 hg w8 hbox hb; have BK291 := zA (hbox); have GW291 := zA ((by rw [hg]; exact (zQ apA) : w.heap.size ≤ gb291)); have GE291 := zA ((by rw [hg]; exact (zQ apA) : w.heap.size ≤ gb291)); replace HB := zA (zP apA hb); clear hb hbox hg; obtain ⟨hcz9_0, hcz9_1, hcz9_2, hcz9_3, hcz9_4, hcz9_5, hfz9_0, hfz9_1, hfz9_2, hfz9_3, hfz9_4, hfz9_5⟩ := zb6 BK291.out) | ((with_reducible refine zT (f := 40) rfl ?_); refine goesL_ (some 4) rfl rfl Tryd.func40 (by kernel_rfl) rfl #[.agg #[.int .i64 a0_0, .int .i64 a0_1, .int .i64 a0_2, .string a0_3, .slice A0_4 l0_4.length c0_4, .slice A0_5 l0_5.length c0_5]] rfl apE ?_; (with_reducible refine (impl_flat.calls k a0_0 a0_1 a0_2 a0_3 _ _ l0_4 _ _ l0_5 false _ ?side1 ?side2 ?side3 ?side4 A2.out).mono ?_); (case side1 => exact vc (Kd.C_below HR0_4.out HB.out)); (case side2 => exact HC0_4.out); (case side3 => exact vc (Kd.C_below HR0_5.out HB.out)); (case side4 => exact HC0_5.out); rintro e w10 ⟨rfl, hb⟩; refine ⟨_, rfl, ?_⟩; replace BK291 := zA (zN (g := gb291) (o := .cells #[.int .i64 a0_0, .int .i64 a0_1, .int .i64 a0_2, .string a0_3, .slice A0_4 l0_4.length c0_4, .slice A0_5 l0_5.length c0_5] 34 (0, 0)) (by (with_reducible repeat (first | refine zB ?_ _ | refine zD ?_ | refine zC ?_ _)); exact BK291.out) hb); replace HB := zA (zP (by repeat (first | (with_reducible first | exact HB.out | apply zG | apply zE | apply zF | refine zH ?_ GE291.out) | exact HB.out)) hb); (try clear hb); (try clear hb2); (try clear hk); (try clear hi); obtain ⟨hcz11_0, hcz11_1, hcz11_2, hcz11_3, hcz11_4, hcz11_5, hfz11_0, hfz11_1, hfz11_2, hfz11_3, hfz11_4, hfz11_5⟩ := zb6 BK291.out) | (go_at_call 31; (with_reducible refine (ih_impl_fits k (by omega) a0_0 a0_1 a0_2 a0_3 _ _ l0_4 _ _ l0_5 t293 _ ?side1 ?side2 ?side3 ?side4 A7.out).mono ?_); (case side1 => exact vc (Kd.C_below HR0_4.out HB.out)); (case side2 => exact HC0_4.out); (case side3 => exact vc (Kd.C_below HR0_5.out HB.out)); (case side4 => exact HC0_5.out); rintro e w12 ⟨rfl, hb⟩; replace HB := zA (zP apA hb); (try clear hb); (try clear hb2); (try clear hk); (try clear hi)))
  go_ret
  exact ⟨apD, apA⟩

theorem impl_Value_27_at_fits_1.G.all (k : Nat) : impl_Value_27_at_fits_1.Spec k ∧ impl_fits.Spec k ∧ impl_Value_36_at_fits_1.Spec k ∧ impl_fits_1.Spec k := by
 induction k using Nat.strongRecOn with
 | _ k ih =>
  exact ⟨impl_Value_27_at_fits_1.step k (fun m hm => (ih m hm).1) (fun m hm => (ih m hm).2.1) (fun m hm => (ih m hm).2.2.1) (fun m hm => (ih m hm).2.2.2), impl_fits.step k (fun m hm => (ih m hm).1) (fun m hm => (ih m hm).2.1) (fun m hm => (ih m hm).2.2.1) (fun m hm => (ih m hm).2.2.2), impl_Value_36_at_fits_1.step k (fun m hm => (ih m hm).1) (fun m hm => (ih m hm).2.1) (fun m hm => (ih m hm).2.2.1) (fun m hm => (ih m hm).2.2.2), impl_fits_1.step k (fun m hm => (ih m hm).1) (fun m hm => (ih m hm).2.1) (fun m hm => (ih m hm).2.2.1) (fun m hm => (ih m hm).2.2.2)⟩
theorem impl_Value_27_at_fits_1.calls (k : Nat) : impl_Value_27_at_fits_1.Spec k := (impl_Value_27_at_fits_1.G.all k).1
theorem impl_fits.calls (k : Nat) : impl_fits.Spec k := (impl_Value_27_at_fits_1.G.all k).2.1
theorem impl_Value_36_at_fits_1.calls (k : Nat) : impl_Value_36_at_fits_1.Spec k := (impl_Value_27_at_fits_1.G.all k).2.2.1
theorem impl_fits_1.calls (k : Nat) : impl_fits_1.Spec k := (impl_Value_27_at_fits_1.G.all k).2.2.2


mutual
def impl_toml.l0 : Nat → ByteArray → ByteArray → List (S34) → Int → Int → List Int → Int → Int → Int → ByteArray → List (S34) → List ByteArray → Option (ByteArray)
 | 0, _, _, _, _, _, _, _, _, _, _, _, _ => none
 | k + 1, x1, x5, x11, x12, x13, x997, x346000, x346001, x346002, x346003, x346004, x346005 => if x13 < x12 then (if 0 ≤ x13 then (if x13 < (x11.length : Int) then (if ((rd_T34 x11 x13).f0) = 6 then (impl_toml.l0 k x1 x5 x11 x12 (wrap64 (x13 + 1)) x997 x346000 x346001 x346002 x346003 x346004 x346005) else (if x13 < (x346005.length : Int) then (if (rdOf ByteArray.empty x346005 x13).size + 3 ≤ 9223372036854775807 then ((impl_layout.f k ((rd_T34 x11 x13).f0) ((rd_T34 x11 x13).f1.f0) ((rd_T34 x11 x13).f1.f1) ((rd_T34 x11 x13).f2) ((rd_T34 x11 x13).f3) ((rd_T34 x11 x13).f4) false (⟨#[]⟩ : ByteArray) x997).bind fun t349 => (if ((rdOf ByteArray.empty x346005 x13) ++ (⟨#[32, 61, 32]⟩ : ByteArray)).size + t349.size ≤ 9223372036854775807 then (if (((rdOf ByteArray.empty x346005 x13) ++ (⟨#[32, 61, 32]⟩ : ByteArray)) ++ t349).size + 1 ≤ 9223372036854775807 then (if x5.size + ((((rdOf ByteArray.empty x346005 x13) ++ (⟨#[32, 61, 32]⟩ : ByteArray)) ++ t349) ++ (⟨#[10]⟩ : ByteArray)).size ≤ 9223372036854775807 then (impl_toml.l0 k x1 (x5 ++ ((((rdOf ByteArray.empty x346005 x13) ++ (⟨#[32, 61, 32]⟩ : ByteArray)) ++ t349) ++ (⟨#[10]⟩ : ByteArray))) x11 x12 (wrap64 (x13 + 1)) x997 x346000 x346001 x346002 x346003 x346004 x346005) else (none)) else (none)) else (none))) else (none)) else (none))) else (none)) else (none)) else (impl_toml.l1 k x1 x5 x346004 (x346004.length : Int) 0 x997 x346000 x346001 x346002 x346003 x346004 x346005)
def impl_toml.l1 : Nat → ByteArray → ByteArray → List (S34) → Int → Int → List Int → Int → Int → Int → ByteArray → List (S34) → List ByteArray → Option (ByteArray)
 | 0, _, _, _, _, _, _, _, _, _, _, _, _ => none
 | k + 1, x1, x5, x35, x36, x37, x997, x346000, x346001, x346002, x346003, x346004, x346005 => if x37 < x36 then (if 0 ≤ x37 then (if x37 < (x35.length : Int) then (if ((rd_T34 x35 x37).f0) = 6 then (if 1 + x1.size ≤ 9223372036854775807 then (if x37 < (x346005.length : Int) then (if ((⟨#[91]⟩ : ByteArray) ++ x1).size + (rdOf ByteArray.empty x346005 x37).size ≤ 9223372036854775807 then (if (((⟨#[91]⟩ : ByteArray) ++ x1) ++ (rdOf ByteArray.empty x346005 x37)).size + 2 ≤ 9223372036854775807 then (if x1.size + (rdOf ByteArray.empty x346005 x37).size ≤ 9223372036854775807 then (if (x1 ++ (rdOf ByteArray.empty x346005 x37)).size + 1 ≤ 9223372036854775807 then ((impl_toml.f k ((rd_T34 x35 x37).f0) ((rd_T34 x35 x37).f1.f0) ((rd_T34 x35 x37).f1.f1) ((rd_T34 x35 x37).f2) ((rd_T34 x35 x37).f3) ((rd_T34 x35 x37).f4) ((x1 ++ (rdOf ByteArray.empty x346005 x37)) ++ (⟨#[46]⟩ : ByteArray)) x997).bind fun t354 => (if ((((⟨#[91]⟩ : ByteArray) ++ x1) ++ (rdOf ByteArray.empty x346005 x37)) ++ (⟨#[93, 10]⟩ : ByteArray)).size + t354.size ≤ 9223372036854775807 then (if x5.size + (((((⟨#[91]⟩ : ByteArray) ++ x1) ++ (rdOf ByteArray.empty x346005 x37)) ++ (⟨#[93, 10]⟩ : ByteArray)) ++ t354).size ≤ 9223372036854775807 then (impl_toml.l1 k x1 (x5 ++ (((((⟨#[91]⟩ : ByteArray) ++ x1) ++ (rdOf ByteArray.empty x346005 x37)) ++ (⟨#[93, 10]⟩ : ByteArray)) ++ t354)) x35 x36 (wrap64 (x37 + 1)) x997 x346000 x346001 x346002 x346003 x346004 x346005) else (none)) else (none))) else (none)) else (none)) else (none)) else (none)) else (none)) else (none)) else (impl_toml.l1 k x1 x5 x35 x36 (wrap64 (x37 + 1)) x997 x346000 x346001 x346002 x346003 x346004 x346005)) else (none)) else (none)) else (some x5)
def impl_toml.f : Nat → Int → Int → Int → ByteArray → List (S34) → List ByteArray → ByteArray → List Int → Option (ByteArray)
 | 0, _, _, _, _, _, _, _, _ => none
 | k + 1, a0_0, a0_1, a0_2, a0_3, l0_4, l0_5, a1, l2 => impl_toml.l0 k a1 (⟨#[]⟩ : ByteArray) l0_4 (l0_4.length : Int) 0 l2 a0_0 a0_1 a0_2 a0_3 l0_4 l0_5
end
theorem impl_toml.mono_l : ∀ k, (∀ y0 y1 y2 y3 y4 y5 y6 y7, LeO (impl_toml.f k y0 y1 y2 y3 y4 y5 y6 y7) (impl_toml.f (k + 1) y0 y1 y2 y3 y4 y5 y6 y7)) ∧ (∀ y0 y1 y2 y3 y4 y5 y6 y7 y8 y9 y10 y11, LeO (impl_toml.l0 k y0 y1 y2 y3 y4 y5 y6 y7 y8 y9 y10 y11) (impl_toml.l0 (k + 1) y0 y1 y2 y3 y4 y5 y6 y7 y8 y9 y10 y11)) ∧ (∀ y0 y1 y2 y3 y4 y5 y6 y7 y8 y9 y10 y11, LeO (impl_toml.l1 k y0 y1 y2 y3 y4 y5 y6 y7 y8 y9 y10 y11) (impl_toml.l1 (k + 1) y0 y1 y2 y3 y4 y5 y6 y7 y8 y9 y10 y11))
 | 0 => ⟨fun _ _ _ _ _ _ _ _ r h => by simp [impl_toml.f] at h, fun _ _ _ _ _ _ _ _ _ _ _ _ r h => by simp [impl_toml.l0] at h, fun _ _ _ _ _ _ _ _ _ _ _ _ r h => by simp [impl_toml.l1] at h⟩
 | k + 1 => by
  obtain ⟨ih0, ih1, ih2⟩ := impl_toml.mono_l k
  refine ⟨?_, ?_, ?_⟩
  ·intro y0 y1 y2 y3 y4 y5 y6 y7
   unfold impl_toml.f
   repeat' first
   | (with_reducible exact ih0 _ _ _ _ _ _ _ _)
   | (with_reducible exact ih1 _ _ _ _ _ _ _ _ _ _ _ _)
   | (with_reducible exact ih2 _ _ _ _ _ _ _ _ _ _ _ _)
   | (with_reducible exact impl_layout.mono _ _ _ _ _ _ _ _ _ _)
   | (with_reducible exact LeO.refl _)
   | (with_reducible exact LeO.none _)
   | (with_reducible refine LeO.ite ?_ ?_)
   | (with_reducible refine LeO.bind ?_ (fun _ => ?_))
   | exact ih0 _ _ _ _ _ _ _ _
   | exact ih1 _ _ _ _ _ _ _ _ _ _ _ _
   | exact ih2 _ _ _ _ _ _ _ _ _ _ _ _
  ·intro y0 y1 y2 y3 y4 y5 y6 y7 y8 y9 y10 y11
   unfold impl_toml.l0
   repeat' first
   | (with_reducible exact ih0 _ _ _ _ _ _ _ _)
   | (with_reducible exact ih1 _ _ _ _ _ _ _ _ _ _ _ _)
   | (with_reducible exact ih2 _ _ _ _ _ _ _ _ _ _ _ _)
   | (with_reducible exact impl_layout.mono _ _ _ _ _ _ _ _ _ _)
   | (with_reducible exact LeO.refl _)
   | (with_reducible exact LeO.none _)
   | (with_reducible refine LeO.ite ?_ ?_)
   | (with_reducible refine LeO.bind ?_ (fun _ => ?_))
   | exact ih0 _ _ _ _ _ _ _ _
   | exact ih1 _ _ _ _ _ _ _ _ _ _ _ _
   | exact ih2 _ _ _ _ _ _ _ _ _ _ _ _
  ·intro y0 y1 y2 y3 y4 y5 y6 y7 y8 y9 y10 y11
   unfold impl_toml.l1
   repeat' first
   | (with_reducible exact ih0 _ _ _ _ _ _ _ _)
   | (with_reducible exact ih1 _ _ _ _ _ _ _ _ _ _ _ _)
   | (with_reducible exact ih2 _ _ _ _ _ _ _ _ _ _ _ _)
   | (with_reducible exact impl_layout.mono _ _ _ _ _ _ _ _ _ _)
   | (with_reducible exact LeO.refl _)
   | (with_reducible exact LeO.none _)
   | (with_reducible refine LeO.ite ?_ ?_)
   | (with_reducible refine LeO.bind ?_ (fun _ => ?_))
   | exact ih0 _ _ _ _ _ _ _ _
   | exact ih1 _ _ _ _ _ _ _ _ _ _ _ _
   | exact ih2 _ _ _ _ _ _ _ _ _ _ _ _
theorem impl_toml.mono : ∀ a0 a1 a2 a3 a4 a5 a6 a7 k, LeO (impl_toml.f k a0 a1 a2 a3 a4 a5 a6 a7) (impl_toml.f (k + 1) a0 a1 a2 a3 a4 a5 a6 a7) := by
 intro a0 a1 a2 a3 a4 a5 a6 a7 k
 obtain ⟨ih0, ih1, ih2⟩ := impl_toml.mono_l k
 exact ih0 a0 a1 a2 a3 a4 a5 a6 a7
def impl_toml.T6 : Bool × List (List Nat × List Nat) := (true, [([], []), ([], []), ([1], [1]), ([], []), ([2, 3], [2, 3]), ([4], [4]), ([5], [5]), ([], []), ([7], [7]), ([6, 8], [6, 8]), ([9], [9]), ([0, 10], [0, 10]), ([11, 8, 0, 1, 2, 3, 4, 5, 6, 7, 8, 9, 10, 11], [0, 11])])
def impl_toml.B6 : List Nat := [0, 0, 2, 0, 14, 30, 62, 0, 128, 510, 1022, 2047, 4095]
theorem impl_toml.tab6 : rtab .any (opsOf Tryd.f32 6) = impl_toml.T6 := by kernel_rfl
theorem impl_toml.bits6 : waitsOk impl_toml.T6.2 impl_toml.B6 = true := by kernel_rfl
def impl_toml.T12 : Bool × List (List Nat × List Nat) := (true, [([], []), ([], []), ([1], [1]), ([], []), ([3], [3]), ([], []), ([4, 5], [4, 5]), ([6], [6]), ([2, 7], [2, 7]), ([8], [8]), ([], []), ([], []), ([], []), ([12], [12]), ([], []), ([13, 14], [13, 14]), ([15], [15]), ([11, 16], [11, 16]), ([17], [17]), ([10, 18], [10, 18]), ([9, 19], [9, 19]), ([0, 20], [0, 20]), ([21, 19, 0, 1, 2, 3, 4, 5, 6, 7, 8, 9, 10, 11, 12, 13, 14, 15, 16, 17, 18, 19, 20, 21], [0, 21])])
def impl_toml.B12 : List Nat := [0, 0, 2, 0, 8, 0, 56, 120, 254, 510, 0, 0, 0, 4096, 0, 28672, 61440, 129024, 260096, 523264, 1048574, 2097151, 4194303]
theorem impl_toml.tab12 : rtab .any (opsOf Tryd.f32 12) = impl_toml.T12 := by kernel_rfl
theorem impl_toml.bits12 : waitsOk impl_toml.T12.2 impl_toml.B12 = true := by kernel_rfl
set_option maxHeartbeats 8000000 in
set_option maxRecDepth 100000 in
theorem impl_toml.calls (k : Nat) : ∀ (a0_0 : Int) (a0_1 : Int) (a0_2 : Int) (a0_3 : ByteArray) (A0_4 : Option Addr) (c0_4 : Nat) (l0_4 : List (S34)) (A0_5 : Option Addr) (c0_5 : Nat) (l0_5 : List ByteArray) (a1 : ByteArray) (A2 : Option Addr) (c2 : Nat) (l2 : List Int) (r : ByteArray) (w : World) (hr0_4 : Kd.C k34 w A0_4 l0_4.length l0_4) (hc0_4 : l0_4.length ≤ c0_4) (hr0_5 : Kd.C Kd.string w A0_5 l0_5.length l0_5) (hc0_5 : l0_5.length ≤ c0_5) (hr2 : Kd.C kPow w A2 l2.length l2) (hc2 : l2.length ≤ c2) (hg2 : A2 = some ⟨2, 0, none⟩ ∧ l2 = [1]) (h : impl_toml.f k a0_0 a0_1 a0_2 a0_3 l0_4 l0_5 a1 l2 = some r),
  Calls Tryd.prog 32 #[.agg #[.int .i64 a0_0, .int .i64 a0_1, .int .i64 a0_2, .string a0_3, .slice A0_4 l0_4.length c0_4, .slice A0_5 l0_5.length c0_5], .string a1] w fun e w' => e = .returned (.string r) ∧ Below w.heap.size w w' := by
 induction k using Nat.strongRecOn with
 | _ k ih =>
 intro a0_0 a0_1 a0_2 a0_3 A0_4 c0_4 l0_4 A0_5 c0_5 l0_5 a1 A2 c2 l2 r w hr0_4 hc0_4 hr0_5 hc0_5 hr2 hc2 hg2 h
 cases k with
 | zero => exact absurd h (by simp [impl_toml.f])
 | succ k =>
 simp only [impl_toml.f] at h
 have hu34 := Tryd.underlying34
 have HR0_4 := zA hr0_4
 have HC0_4 := zA hc0_4
 clear hr0_4 hc0_4
 have HR0_5 := zA hr0_5
 have HC0_5 := zA hc0_5
 clear hr0_5 hc0_5
 have HG2 := zA hg2
 clear hg2
 have HR2 := zA hr2
 have HC2 := zA hc2
 clear hr2 hc2
 have HB := zA (yH w.heap.size w)
 have H : (impl_toml.l0 k a1 (⟨#[]⟩ : ByteArray) l0_4 (l0_4.length : Int) 0 l2 a0_0 a0_1 a0_2 a0_3 l0_4 l0_5) = some r := h
 clear h
 have H' := zA H
 clear H
 go_enter Tryd.func32, Tryd.ntmps32
 go_wp2_with (first | ((with_reducible refine zS (N := 2) rfl ?_); refine zW ?hg (N := 2) ?hd (cs := #[.int .i64 a0_0, .int .i64 a0_1, .int .i64 a0_2, .string a0_3, .slice A0_4 l0_4.length c0_4, .slice A0_5 l0_5.length c0_5]) (t := 34) ?hr ?_; (case hd => rfl); (case hg => rfl); (case hr => first | (go_simp; done) | (go_simp; rfl)); intro gb345 hg w4 hbox hb; have BK345 := zA (hbox); have GW345 := zA ((by rw [hg]; exact (zQ apA) : w.heap.size ≤ gb345)); have GE345 := zA ((by rw [hg]; exact (zQ apA) : w.heap.size ≤ gb345)); replace HB := zA (zP apA hb); clear hb hbox hg; obtain ⟨hcz5_0, hcz5_1, hcz5_2, hcz5_3, hcz5_4, hcz5_5, hfz5_0, hfz5_1, hfz5_2, hfz5_3, hfz5_4, hfz5_5⟩ := zb6 BK345.out))
 go_loopg [5, 13] k (fun kq v5 v13 w' => ∃ (x5_1 : ByteArray) (x13_1 : Int), v5 = .string x5_1 ∧ v13 = .int .i64 x13_1 ∧ Aside0 (impl_toml.l0 kq a1 x5_1 l0_4 (l0_4.length : Int) x13_1 l2 a0_0 a0_1 a0_2 a0_3 l0_4 l0_5 = some r) ∧ Aside0 (kq ≤ k) ∧ Aside0 (w'.heap[gb345]? = some (.cells #[.int .i64 a0_0, .int .i64 a0_1, .int .i64 a0_2, .string a0_3, (.slice A0_4 l0_4.length c0_4), (.slice A0_5 l0_5.length c0_5)] 34 (0, 0))) ∧ Aside0 (Below w.heap.size w w'))
 case atStart => exact ⟨((⟨#[]⟩ : ByteArray)), (0), apC, apC, H', ⟨yJ _⟩, ⟨apO⟩, ⟨apQ⟩⟩
 case round =>
  clear H'
  try clear c2 p2 c3 hcz5_0 hcz5_1 hcz5_2 hcz5_3 hcz5_4 hcz5_5 hfz5_0 hfz5_1 hfz5_2 hfz5_3 hfz5_4 hfz5_5
  obtain ⟨x5_1, x13_1, rfl, rfl, HA, HK1, BK345, HB⟩ := hrel
  cases gk with
  | zero => exact absurd HA.out (by simp [impl_toml.l0])
  | succ k1 =>
   have H := HA.out
   clear HA
   simp only [impl_toml.l0] at H
   by_cases c6 : x13_1 < (l0_4.length : Int)
   ·rw [if_pos c6] at H
    have c6b0 : decide (x13_1 < (l0_4.length : Int)) = true := yE c6
    clear c6
    by_cases c7 : 0 ≤ x13_1
    ·rw [if_pos c7] at H
     have c7b0 : decide (0 ≤ x13_1) = true := yE c7
     clear c7
     by_cases c8 : x13_1 < (l0_4.length : Int)
     ·rw [if_pos c8] at H
      have c8b0 : decide (x13_1 < (l0_4.length : Int)) = true := yE c8
      clear c8
      by_cases c9 : ((rd_T34 l0_4 x13_1).f0) = 6
      ·rw [if_pos c9] at H
       have c9b0 : (((rd_T34 l0_4 x13_1).f0) == 6) = true := beq_iff_eq.mpr c9
       have c9b1 : (((rd_T34 l0_4 x13_1).f0) != 6) = false := bne_eq_false_iff_eq.mpr c9
       clear c9
       have H' := zA H
       clear H
       have p346 : 0 ≤ (x13_1 : Int) := yF apB
       have q346 : x13_1 < (l0_4.length : Int) := yF apB
       obtain ⟨ad346, A346_4, c346_4, A346_5, c346_5, e346, hx346_0, hx346_1, hx346_2, hx346_3, hx346_4, hx346_5, hl346_4, hi346_4, hl346_5, hi346_5⟩ := at_T34 HR0_4.out x13_1 p346 q346
       cases e346
       replace hx346_0 := (HB.out.cell (zR w _ hx346_0)).trans hx346_0
       replace hx346_1 := (HB.out.cell (zR w _ hx346_1)).trans hx346_1
       replace hx346_2 := (HB.out.cell (zR w _ hx346_2)).trans hx346_2
       replace hx346_3 := (HB.out.cell (zR w _ hx346_3)).trans hx346_3
       replace hx346_4 := (HB.out.cell (zR w _ hx346_4)).trans hx346_4
       replace hx346_5 := (HB.out.cell (zR w _ hx346_5)).trans hx346_5
       have HR346_4 := zA hi346_4
       have HC346_4 := zA hl346_4
       clear hi346_4 hl346_4
       have HR346_5 := zA hi346_5
       have HC346_5 := zA hl346_5
       clear hi346_5 hl346_5
       replace p346 := eq_true p346
       replace q346 := eq_true q346
       go_wp2_with (first | ((with_reducible refine zS (N := 7) rfl ?_); refine zW ?hg (N := 7) ?hd (cs := #[.int .i64 0, .int .i64 0, .int .i64 0, .string (⟨#[]⟩ : ByteArray), .slice none 0 0, .slice none 0 0]) (t := 34) ?hr ?_; (case hd => rfl); (case hg => rfl); (case hr => first | (go_simp; done) | (go_simp; rfl)); intro gb347 hg w10 hbox hb; have BK347 := zA (hbox); have GW347 := zA ((by rw [hg]; exact (zQ apQ) : w.heap.size ≤ gb347)); have GE347 := zA ((by rw [hg]; exact (zQ apQ) : w.heap.size ≤ gb347)); replace HB := zA (zP apQ hb); have NB345_347 := zA ((by rw [hg]; exact Nat.ne_of_lt (blk_lt (g := gb345) (o := .cells #[.int .i64 a0_0, .int .i64 a0_1, .int .i64 a0_2, .string a0_3, .slice (some ad346) l0_4.length c0_4, .slice A0_5 l0_5.length c0_5] 34 (0, 0)) apO) : gb345 ≠ gb347)); have NB347_345 := zA ((by rw [hg]; exact Nat.ne_of_gt (blk_lt (g := gb345) (o := .cells #[.int .i64 a0_0, .int .i64 a0_1, .int .i64 a0_2, .string a0_3, .slice (some ad346) l0_4.length c0_4, .slice A0_5 l0_5.length c0_5] 34 (0, 0)) apO) : gb347 ≠ gb345)); replace BK345 := zA (zN (g := gb345) (o := .cells #[.int .i64 a0_0, .int .i64 a0_1, .int .i64 a0_2, .string a0_3, .slice (some ad346) l0_4.length c0_4, .slice A0_5 l0_5.length c0_5] 34 (0, 0)) apO hb); clear hb hbox hg; have hnb11 := NB347_345.out; have hnc11 := NB345_347.out; obtain ⟨hcz12_0, hcz12_1, hcz12_2, hcz12_3, hcz12_4, hcz12_5, hfz12_0, hfz12_1, hfz12_2, hfz12_3, hfz12_4, hfz12_5⟩ := zb6 BK347.out))
       go_roundg k1
       case measure => have := HK1.out; omega
       case rel => exact ⟨(x5_1), (wrap64 (x13_1 + 1)), apC, apC, H', ⟨by have := HK1.out; omega⟩, ⟨by (with_reducible repeat (first | refine zB ?_ _ | refine zD ?_ | refine zC ?_ _)); refine blk_far ?_ NB345_347.out _; (with_reducible repeat (first | refine zB ?_ _ | refine zD ?_ | refine zC ?_ _)); refine blk_far ?_ NB345_347.out _; (with_reducible repeat (first | refine zB ?_ _ | refine zD ?_ | refine zC ?_ _)); refine blk_far ?_ NB345_347.out _; (with_reducible repeat (first | refine zB ?_ _ | refine zD ?_ | refine zC ?_ _)); refine blk_far ?_ NB345_347.out _; (with_reducible repeat (first | refine zB ?_ _ | refine zD ?_ | refine zC ?_ _)); refine blk_far ?_ NB345_347.out _; (with_reducible repeat (first | refine zB ?_ _ | refine zD ?_ | refine zC ?_ _)); refine blk_far ?_ NB345_347.out _; (with_reducible repeat (first | refine zB ?_ _ | refine zD ?_ | refine zC ?_ _)); exact BK345.out⟩, ⟨by repeat (first | (with_reducible first | exact HB.out | apply zG | apply zE | apply zF | refine zH ?_ GE345.out | refine zH ?_ GE347.out) | exact HB.out)⟩⟩
      ·rw [if_neg c9] at H
       have c9b0 : (((rd_T34 l0_4 x13_1).f0) == 6) = false := beq_eq_false_iff_ne.mpr c9
       have c9b1 : (((rd_T34 l0_4 x13_1).f0) != 6) = true := bne_iff_ne.mpr c9
       by_cases c13 : x13_1 < (l0_5.length : Int)
       ·rw [if_pos c13] at H
        have c13b0 : decide (x13_1 < (l0_5.length : Int)) = true := yE c13
        clear c13
        by_cases c14 : (rdOf ByteArray.empty l0_5 x13_1).size + 3 ≤ 9223372036854775807
        ·rw [if_pos c14] at H
         have c14b0 := eq_true c14
         have c14b1 : decide ((rdOf ByteArray.empty l0_5 x13_1).size + 3 ≤ 9223372036854775807) = true := yE c14
         try have c14b2 : (9223372036854775807 < (rdOf ByteArray.empty l0_5 x13_1).size + 3) = False := eq_false (Nat.not_lt.2 c14)
         replace H := Option.bind_eq_some_iff.mp H
         obtain ⟨t349, A150, H⟩ := H
         have A15 := zA A150
         clear A150
         by_cases c16 : ((rdOf ByteArray.empty l0_5 x13_1) ++ (⟨#[32, 61, 32]⟩ : ByteArray)).size + t349.size ≤ 9223372036854775807
         ·rw [if_pos c16] at H
          (try (have c16b9 := eq_true c16; simp only [ByteArray.size_append, Int.natCast_add, show ((⟨#[32, 61, 32]⟩ : ByteArray)).size = 3 from rfl] at c16b9))
          (try (have c16b8 := eq_false (Nat.not_lt.2 c16); simp only [ByteArray.size_append, show ((⟨#[32, 61, 32]⟩ : ByteArray)).size = 3 from rfl] at c16b8))
          have c16b0 := eq_true c16
          have c16b1 : decide (((rdOf ByteArray.empty l0_5 x13_1) ++ (⟨#[32, 61, 32]⟩ : ByteArray)).size + t349.size ≤ 9223372036854775807) = true := yE c16
          try have c16b2 : (9223372036854775807 < ((rdOf ByteArray.empty l0_5 x13_1) ++ (⟨#[32, 61, 32]⟩ : ByteArray)).size + t349.size) = False := eq_false (Nat.not_lt.2 c16)
          try simp only [ByteArray.size_append] at c16b2
          by_cases c17 : (((rdOf ByteArray.empty l0_5 x13_1) ++ (⟨#[32, 61, 32]⟩ : ByteArray)) ++ t349).size + 1 ≤ 9223372036854775807
          ·rw [if_pos c17] at H
           (try (have c17b9 := eq_true c17; simp only [ByteArray.size_append, Int.natCast_add, show ((⟨#[32, 61, 32]⟩ : ByteArray)).size = 3 from rfl] at c17b9))
           (try (have c17b8 := eq_false (Nat.not_lt.2 c17); simp only [ByteArray.size_append, show ((⟨#[32, 61, 32]⟩ : ByteArray)).size = 3 from rfl] at c17b8))
           have c17b0 := eq_true c17
           have c17b1 : decide ((((rdOf ByteArray.empty l0_5 x13_1) ++ (⟨#[32, 61, 32]⟩ : ByteArray)) ++ t349).size + 1 ≤ 9223372036854775807) = true := yE c17
           try have c17b2 : (9223372036854775807 < (((rdOf ByteArray.empty l0_5 x13_1) ++ (⟨#[32, 61, 32]⟩ : ByteArray)) ++ t349).size + 1) = False := eq_false (Nat.not_lt.2 c17)
           try simp only [ByteArray.size_append] at c17b2
           by_cases c18 : x5_1.size + ((((rdOf ByteArray.empty l0_5 x13_1) ++ (⟨#[32, 61, 32]⟩ : ByteArray)) ++ t349) ++ (⟨#[10]⟩ : ByteArray)).size ≤ 9223372036854775807
           ·rw [if_pos c18] at H
            (try (have c18b9 := eq_true c18; simp only [ByteArray.size_append, Int.natCast_add, show ((⟨#[32, 61, 32]⟩ : ByteArray)).size = 3 from rfl, show ((⟨#[10]⟩ : ByteArray)).size = 1 from rfl] at c18b9))
            (try (have c18b8 := eq_false (Nat.not_lt.2 c18); simp only [ByteArray.size_append, show ((⟨#[32, 61, 32]⟩ : ByteArray)).size = 3 from rfl, show ((⟨#[10]⟩ : ByteArray)).size = 1 from rfl] at c18b8))
            have c18b0 := eq_true c18
            have c18b1 : decide (x5_1.size + ((((rdOf ByteArray.empty l0_5 x13_1) ++ (⟨#[32, 61, 32]⟩ : ByteArray)) ++ t349) ++ (⟨#[10]⟩ : ByteArray)).size ≤ 9223372036854775807) = true := yE c18
            try have c18b2 : (9223372036854775807 < x5_1.size + ((((rdOf ByteArray.empty l0_5 x13_1) ++ (⟨#[32, 61, 32]⟩ : ByteArray)) ++ t349) ++ (⟨#[10]⟩ : ByteArray)).size) = False := eq_false (Nat.not_lt.2 c18)
            try simp only [ByteArray.size_append] at c18b2
            have H' := zA H
            clear H
            have p346 : 0 ≤ (x13_1 : Int) := yF apB
            have q346 : x13_1 < (l0_4.length : Int) := yF apB
            obtain ⟨ad346, A346_4, c346_4, A346_5, c346_5, e346, hx346_0, hx346_1, hx346_2, hx346_3, hx346_4, hx346_5, hl346_4, hi346_4, hl346_5, hi346_5⟩ := at_T34 HR0_4.out x13_1 p346 q346
            cases e346
            replace hx346_0 := (HB.out.cell (zR w _ hx346_0)).trans hx346_0
            replace hx346_1 := (HB.out.cell (zR w _ hx346_1)).trans hx346_1
            replace hx346_2 := (HB.out.cell (zR w _ hx346_2)).trans hx346_2
            replace hx346_3 := (HB.out.cell (zR w _ hx346_3)).trans hx346_3
            replace hx346_4 := (HB.out.cell (zR w _ hx346_4)).trans hx346_4
            replace hx346_5 := (HB.out.cell (zR w _ hx346_5)).trans hx346_5
            have HR346_4 := zA hi346_4
            have HC346_4 := zA hl346_4
            clear hi346_4 hl346_4
            have HR346_5 := zA hi346_5
            have HC346_5 := zA hl346_5
            clear hi346_5 hl346_5
            replace p346 := eq_true p346
            replace q346 := eq_true q346
            try go_wp2_with (first | ((with_reducible refine zS (N := 7) rfl ?_); refine zW ?hg (N := 7) ?hd (cs := #[.int .i64 0, .int .i64 0, .int .i64 0, .string (⟨#[]⟩ : ByteArray), .slice none 0 0, .slice none 0 0]) (t := 34) ?hr ?_; (case hd => rfl); (case hg => rfl); (case hr => first | (go_simp; done) | (go_simp; rfl)); intro gb347 hg w19 hbox hb; have BK347 := zA (hbox); have GW347 := zA ((by rw [hg]; exact (zQ apQ) : w.heap.size ≤ gb347)); have GE347 := zA ((by rw [hg]; exact (zQ apQ) : w.heap.size ≤ gb347)); replace HB := zA (zP apQ hb); have NB345_347 := zA ((by rw [hg]; exact Nat.ne_of_lt (blk_lt (g := gb345) (o := .cells #[.int .i64 a0_0, .int .i64 a0_1, .int .i64 a0_2, .string a0_3, .slice (some ad346) l0_4.length c0_4, .slice A0_5 l0_5.length c0_5] 34 (0, 0)) apO) : gb345 ≠ gb347)); have NB347_345 := zA ((by rw [hg]; exact Nat.ne_of_gt (blk_lt (g := gb345) (o := .cells #[.int .i64 a0_0, .int .i64 a0_1, .int .i64 a0_2, .string a0_3, .slice (some ad346) l0_4.length c0_4, .slice A0_5 l0_5.length c0_5] 34 (0, 0)) apO) : gb347 ≠ gb345)); replace BK345 := zA (zN (g := gb345) (o := .cells #[.int .i64 a0_0, .int .i64 a0_1, .int .i64 a0_2, .string a0_3, .slice (some ad346) l0_4.length c0_4, .slice A0_5 l0_5.length c0_5] 34 (0, 0)) apO hb); clear hb hbox hg; have hnb20 := NB347_345.out; have hnc20 := NB345_347.out; obtain ⟨hcz21_0, hcz21_1, hcz21_2, hcz21_3, hcz21_4, hcz21_5, hfz21_0, hfz21_1, hfz21_2, hfz21_3, hfz21_4, hfz21_5⟩ := zb6 BK347.out))
            have n0_ : Aside0 (((((((w19.setCell ⟨gb347, 0, none⟩ (.int .i64 ((rd_T34 l0_4 x13_1).f0))).setCell ⟨gb347, 1, none⟩ (.int .i64 ((rd_T34 l0_4 x13_1).f1.f0))).setCell ⟨gb347, 2, none⟩ (.int .i64 ((rd_T34 l0_4 x13_1).f1.f1))).setCell ⟨gb347, 3, none⟩ (.string ((rd_T34 l0_4 x13_1).f2))).setCell ⟨gb347, 4, none⟩ (.slice A346_4 ((rd_T34 l0_4 x13_1).f3).length c346_4)).setCell ⟨gb347, 5, none⟩ (.slice A346_5 ((rd_T34 l0_4 x13_1).f4).length c346_5)).heap[gb345]? = some (.cells #[.int .i64 a0_0, .int .i64 a0_1, .int .i64 a0_2, .string a0_3, .slice (some ad346) l0_4.length c0_4, .slice A0_5 l0_5.length c0_5] 34 (0, 0))) := ⟨by (with_reducible repeat (first | refine zB ?_ _ | refine zD ?_ | refine zC ?_ _)); refine blk_far ?_ NB345_347.out _; (with_reducible repeat (first | refine zB ?_ _ | refine zD ?_ | refine zC ?_ _)); refine blk_far ?_ NB345_347.out _; (with_reducible repeat (first | refine zB ?_ _ | refine zD ?_ | refine zC ?_ _)); refine blk_far ?_ NB345_347.out _; (with_reducible repeat (first | refine zB ?_ _ | refine zD ?_ | refine zC ?_ _)); refine blk_far ?_ NB345_347.out _; (with_reducible repeat (first | refine zB ?_ _ | refine zD ?_ | refine zC ?_ _)); refine blk_far ?_ NB345_347.out _; (with_reducible repeat (first | refine zB ?_ _ | refine zD ?_ | refine zC ?_ _)); refine blk_far ?_ NB345_347.out _; (with_reducible repeat (first | refine zB ?_ _ | refine zD ?_ | refine zC ?_ _)); exact BK345.out⟩
            have n1_ : Aside0 (((((((w19.setCell ⟨gb347, 0, none⟩ (.int .i64 ((rd_T34 l0_4 x13_1).f0))).setCell ⟨gb347, 1, none⟩ (.int .i64 ((rd_T34 l0_4 x13_1).f1.f0))).setCell ⟨gb347, 2, none⟩ (.int .i64 ((rd_T34 l0_4 x13_1).f1.f1))).setCell ⟨gb347, 3, none⟩ (.string ((rd_T34 l0_4 x13_1).f2))).setCell ⟨gb347, 4, none⟩ (.slice A346_4 ((rd_T34 l0_4 x13_1).f3).length c346_4)).setCell ⟨gb347, 5, none⟩ (.slice A346_5 ((rd_T34 l0_4 x13_1).f4).length c346_5)).heap[gb347]? = some (.cells #[.int .i64 ((rd_T34 l0_4 x13_1).f0), .int .i64 ((rd_T34 l0_4 x13_1).f1.f0), .int .i64 ((rd_T34 l0_4 x13_1).f1.f1), .string ((rd_T34 l0_4 x13_1).f2), .slice A346_4 ((rd_T34 l0_4 x13_1).f3).length c346_4, .slice A346_5 ((rd_T34 l0_4 x13_1).f4).length c346_5] 34 (0, 0))) := ⟨by (with_reducible repeat (first | refine zB ?_ _ | refine zD ?_ | refine zC ?_ _)); refine blk_put (cs := #[.int .i64 ((rd_T34 l0_4 x13_1).f0), .int .i64 ((rd_T34 l0_4 x13_1).f1.f0), .int .i64 ((rd_T34 l0_4 x13_1).f1.f1), .string ((rd_T34 l0_4 x13_1).f2), .slice A346_4 ((rd_T34 l0_4 x13_1).f3).length c346_4, .slice none 0 0]) ?_ 5 _ rfl; (with_reducible repeat (first | refine zB ?_ _ | refine zD ?_ | refine zC ?_ _)); refine blk_put (cs := #[.int .i64 ((rd_T34 l0_4 x13_1).f0), .int .i64 ((rd_T34 l0_4 x13_1).f1.f0), .int .i64 ((rd_T34 l0_4 x13_1).f1.f1), .string ((rd_T34 l0_4 x13_1).f2), .slice none 0 0, .slice none 0 0]) ?_ 4 _ rfl; (with_reducible repeat (first | refine zB ?_ _ | refine zD ?_ | refine zC ?_ _)); refine blk_put (cs := #[.int .i64 ((rd_T34 l0_4 x13_1).f0), .int .i64 ((rd_T34 l0_4 x13_1).f1.f0), .int .i64 ((rd_T34 l0_4 x13_1).f1.f1), .string (⟨#[]⟩ : ByteArray), .slice none 0 0, .slice none 0 0]) ?_ 3 _ rfl; (with_reducible repeat (first | refine zB ?_ _ | refine zD ?_ | refine zC ?_ _)); refine blk_put (cs := #[.int .i64 ((rd_T34 l0_4 x13_1).f0), .int .i64 ((rd_T34 l0_4 x13_1).f1.f0), .int .i64 0, .string (⟨#[]⟩ : ByteArray), .slice none 0 0, .slice none 0 0]) ?_ 2 _ rfl; (with_reducible repeat (first | refine zB ?_ _ | refine zD ?_ | refine zC ?_ _)); refine blk_put (cs := #[.int .i64 ((rd_T34 l0_4 x13_1).f0), .int .i64 0, .int .i64 0, .string (⟨#[]⟩ : ByteArray), .slice none 0 0, .slice none 0 0]) ?_ 1 _ rfl; (with_reducible repeat (first | refine zB ?_ _ | refine zD ?_ | refine zC ?_ _)); refine blk_put (cs := #[.int .i64 0, .int .i64 0, .int .i64 0, .string (⟨#[]⟩ : ByteArray), .slice none 0 0, .slice none 0 0]) ?_ 0 _ rfl; (with_reducible repeat (first | refine zB ?_ _ | refine zD ?_ | refine zC ?_ _)); exact BK347.out⟩
            have n2_ : Aside0 (Below w.heap.size w ((((((w19.setCell ⟨gb347, 0, none⟩ (.int .i64 ((rd_T34 l0_4 x13_1).f0))).setCell ⟨gb347, 1, none⟩ (.int .i64 ((rd_T34 l0_4 x13_1).f1.f0))).setCell ⟨gb347, 2, none⟩ (.int .i64 ((rd_T34 l0_4 x13_1).f1.f1))).setCell ⟨gb347, 3, none⟩ (.string ((rd_T34 l0_4 x13_1).f2))).setCell ⟨gb347, 4, none⟩ (.slice A346_4 ((rd_T34 l0_4 x13_1).f3).length c346_4)).setCell ⟨gb347, 5, none⟩ (.slice A346_5 ((rd_T34 l0_4 x13_1).f4).length c346_5))) := ⟨by repeat (first | (with_reducible first | exact HB.out | apply zG | apply zE | apply zF | refine zH ?_ GE345.out | refine zH ?_ GE347.out) | exact HB.out)⟩
            (try clear BK345)
            (try clear BK347)
            (try clear HB)
            generalize ((((((w19.setCell ⟨gb347, 0, none⟩ (.int .i64 ((rd_T34 l0_4 x13_1).f0))).setCell ⟨gb347, 1, none⟩ (.int .i64 ((rd_T34 l0_4 x13_1).f1.f0))).setCell ⟨gb347, 2, none⟩ (.int .i64 ((rd_T34 l0_4 x13_1).f1.f1))).setCell ⟨gb347, 3, none⟩ (.string ((rd_T34 l0_4 x13_1).f2))).setCell ⟨gb347, 4, none⟩ (.slice A346_4 ((rd_T34 l0_4 x13_1).f3).length c346_4)).setCell ⟨gb347, 5, none⟩ (.slice A346_5 ((rd_T34 l0_4 x13_1).f4).length c346_5)) = w22 at n0_ n1_ n2_ ⊢
            have BK345 := n0_
            have BK347 := n1_
            have HB := n2_
            clear n0_ n1_ n2_
            replace BK345 := zA (zD BK345.out)
            replace BK347 := zA (zD BK347.out)
            replace HB := zA (zF HB.out)
            have p348 : 0 ≤ (x13_1 : Int) := yF apB
            have q348 : x13_1 < (l0_5.length : Int) := yF apB
            obtain ⟨ad348, e348, hx348_0⟩ := Kd.at_string HR0_5.out x13_1 p348 q348
            have hw348_0 := hx348_0
            cases e348
            replace hx348_0 := (HB.out.cell (zR w _ hx348_0)).trans hx348_0
            replace p348 := eq_true p348
            replace q348 := eq_true q348
            refine start_ (n := 13) (S := fun w' => w'.cell? ⟨gb345, 0, none⟩ = some (.int .i64 a0_0) ∧ w'.cell? ⟨gb345, 1, none⟩ = some (.int .i64 a0_1) ∧ w'.cell? ⟨gb345, 2, none⟩ = some (.int .i64 a0_2) ∧ w'.cell? ⟨gb345, 3, none⟩ = some (.string a0_3) ∧ w'.cell? ⟨gb345, 4, none⟩ = some (.slice (some ad346) l0_4.length c0_4) ∧ w'.cell? ⟨gb345, 5, none⟩ = some (.slice (some ad348) l0_5.length c0_5) ∧ w'.cell? ⟨gb347, 0, none⟩ = some (.int .i64 ((rd_T34 l0_4 x13_1).f0)) ∧ w'.cell? ⟨gb347, 1, none⟩ = some (.int .i64 ((rd_T34 l0_4 x13_1).f1.f0)) ∧ w'.cell? ⟨gb347, 2, none⟩ = some (.int .i64 ((rd_T34 l0_4 x13_1).f1.f1)) ∧ w'.cell? ⟨gb347, 3, none⟩ = some (.string ((rd_T34 l0_4 x13_1).f2)) ∧ w'.cell? ⟨gb347, 4, none⟩ = some (.slice A346_4 ((rd_T34 l0_4 x13_1).f3).length c346_4) ∧ w'.cell? ⟨gb347, 5, none⟩ = some (.slice A346_5 ((rd_T34 l0_4 x13_1).f4).length c346_5) ∧ w'.cell? (ad348.add (x13_1).toNat) = some (.string (rdOf ByteArray.empty l0_5 x13_1))) (ds := []) #[false, false, false, false, false, false, false, false, false, false, false, false, false] (by kernel_rfl) rfl rfl ⟨(zJ BK345.out 0).trans rfl, (zJ BK345.out 1).trans rfl, (zJ BK345.out 2).trans rfl, (zJ BK345.out 3).trans rfl, (zJ BK345.out 4).trans rfl, (zJ BK345.out 5).trans rfl, (zJ BK347.out 0).trans rfl, (zJ BK347.out 1).trans rfl, (zJ BK347.out 2).trans rfl, (zJ BK347.out 3).trans rfl, (zJ BK347.out 4).trans rfl, (zJ BK347.out 5).trans rfl, ((HB.out.cell (zR w _ hw348_0)).trans hw348_0)⟩ (fun hHeld => ?_); refine with_tabW impl_toml.tab6 impl_toml.bits6 (fun HT_ HW_ => ?_)
            generalize w22.drew = w23 at BK345 BK347 HB hx348_0 hHeld ⊢
            refine pure_ (i := 0) (N := some 21) (v := ?_) (a' := ?_) #[true, false, false, false, false, false, false, false, false, false, false, false, false] rfl rfl (any_of HT_.out (by kernel_rfl)) (fun _ _ _ h => h) (Or.inl ⟨by rfl, ?_⟩) ?_ ?_
            rotate_left
            ·intro w'
             go_simp
             with_reducible rfl
            rotate_left
            ·simp only [Act.put, zK, zL, zM, i64_w, i32_w]
             rfl
            refine pure_ (i := 1) (N := some 22) (v := ?_) (a' := ?_) #[true, true, false, false, false, false, false, false, false, false, false, false, false] rfl rfl (any_of HT_.out (by kernel_rfl)) (fun _ _ _ h => h) (Or.inl ⟨by rfl, ?_⟩) ?_ ?_
            rotate_left
            ·intro w'
             go_simp
             with_reducible rfl
            rotate_left
            ·simp only [Act.put, zK, zL, zM, i64_w, i32_w]
             rfl
            refine pure_ (i := 3) (N := some 24) (v := ?_) (a' := ?_) #[true, true, false, true, false, false, false, false, false, false, false, false, false] rfl rfl (any_of HT_.out (by kernel_rfl)) (fun _ _ _ h => h) (Or.inl ⟨by rfl, ?_⟩) ?_ ?_
            rotate_left
            ·intro w'
             go_simp
             with_reducible rfl
            rotate_left
            ·simp only [Act.put, zK, zL, zM, i64_w, i32_w]
             rfl
            refine take_ (i := 2) (N := some 23) (v := ?_) (a' := ?_) #[true, true, true, true, false, false, false, false, false, false, false, false, false] rfl rfl (take_ofW HT_.out HW_.out (by kernel_rfl)) (fun _ _ _ h => h) (Or.inl ⟨by rfl, ?_⟩) hHeld ?_ ?_
            rotate_left
            ·rintro w' ⟨s0, s1, s2, s3, s4, s5, s6, s7, s8, s9, s10, s11, s12⟩
             go_simp
             with_reducible rfl
            rotate_left
            ·simp only [Act.put, zK, zL, zM, i64_w, i32_w]
             rfl
            refine pure_ (i := 4) (N := some 25) (v := ?_) (a' := ?_) #[true, true, true, true, true, false, false, false, false, false, false, false, false] rfl rfl (any_of HT_.out (by kernel_rfl)) (fun _ _ _ h => h) (Or.inl ⟨by rfl, ?_⟩) ?_ ?_
            rotate_left
            ·intro w'
             go_simp
             with_reducible rfl
            rotate_left
            ·simp only [Act.put, zK, zL, zM, i64_w, i32_w]
             rfl
            refine take_ (i := 5) (N := some 26) (v := ?_) (a' := ?_) #[true, true, true, true, true, true, false, false, false, false, false, false, false] rfl rfl (take_ofW HT_.out HW_.out (by kernel_rfl)) (fun _ _ _ h => h) (Or.inl ⟨by rfl, ?_⟩) hHeld ?_ ?_
            rotate_left
            ·rintro w' ⟨s0, s1, s2, s3, s4, s5, s6, s7, s8, s9, s10, s11, s12⟩
             go_simp
             with_reducible rfl
            rotate_left
            ·simp only [Act.put, zK, zL, zM, i64_w, i32_w]
             rfl
            refine pure_ (i := 6) (N := some 27) (v := ?_) (a' := ?_) #[true, true, true, true, true, true, true, false, false, false, false, false, false] rfl rfl (any_of HT_.out (by kernel_rfl)) (fun _ _ _ h => h) (Or.inl ⟨by rfl, ?_⟩) ?_ ?_
            rotate_left
            ·intro w'
             go_simp
             with_reducible rfl
            rotate_left
            ·simp only [Act.put, zK, zL, zM, i64_w, i32_w]
             rfl
            refine take_ (i := 7) (N := some 28) (v := ?_) (a' := ?_) #[true, true, true, true, true, true, true, true, false, false, false, false, false] rfl rfl (take_ofW HT_.out HW_.out (by kernel_rfl)) (fun _ _ _ h => h) (Or.inl ⟨by rfl, ?_⟩) hHeld ?_ ?_
            rotate_left
            ·rintro w' ⟨s0, s1, s2, s3, s4, s5, s6, s7, s8, s9, s10, s11, s12⟩
             go_simp
             with_reducible rfl
            rotate_left
            ·simp only [Act.put, zK, zL, zM, i64_w, i32_w]
             rfl
            refine one_ (i := 8) (N := some 29) #[true, true, true, true, true, true, true, true, true, false, false, false, false] rfl rfl (one_of HT_.out (by kernel_rfl)) (by decide) (fun K hK => ?_)
            refine goes_ Tryd.func41 (by kernel_rfl) rfl #[.agg #[.int .i64 ((rd_T34 l0_4 x13_1).f0), .int .i64 ((rd_T34 l0_4 x13_1).f1.f0), .int .i64 ((rd_T34 l0_4 x13_1).f1.f1), .string ((rd_T34 l0_4 x13_1).f2), .slice A346_4 ((rd_T34 l0_4 x13_1).f3).length c346_4, .slice A346_5 ((rd_T34 l0_4 x13_1).f4).length c346_5], .bool false, .string (⟨#[]⟩ : ByteArray)] (by rfl) rfl rfl apE ?_
            with_reducible refine (impl_layout.calls k1 ((rd_T34 l0_4 x13_1).f0) ((rd_T34 l0_4 x13_1).f1.f0) ((rd_T34 l0_4 x13_1).f1.f1) ((rd_T34 l0_4 x13_1).f2) _ _ ((rd_T34 l0_4 x13_1).f3) _ _ ((rd_T34 l0_4 x13_1).f4) false (⟨#[]⟩ : ByteArray) A2 c2 l2 t349 _ ?side1 ?side2 ?side3 ?side4 ?side5 ?side6 ?side7 A15.out).mono ?_
            (case side1 => exact vc (Kd.C_below HR346_4.out HB.out))
            (case side2 => exact HC346_4.out)
            (case side3 => exact vc (Kd.C_below HR346_5.out HB.out))
            (case side4 => exact HC346_5.out)
            (case side5 => exact vc (Kd.C_below HR2.out HB.out))
            (case side6 => exact HC2.out)
            (case side7 => exact HG2.out)
            rintro e w24 ⟨rfl, hb⟩
            refine ⟨_, rfl, ?_⟩
            replace BK345 := zA (zN (g := gb345) (o := .cells #[.int .i64 a0_0, .int .i64 a0_1, .int .i64 a0_2, .string a0_3, .slice (some ad346) l0_4.length c0_4, .slice (some ad348) l0_5.length c0_5] 34 (0, 0)) apO hb)
            replace BK347 := zA (zN (g := gb347) (o := .cells #[.int .i64 ((rd_T34 l0_4 x13_1).f0), .int .i64 ((rd_T34 l0_4 x13_1).f1.f0), .int .i64 ((rd_T34 l0_4 x13_1).f1.f1), .string ((rd_T34 l0_4 x13_1).f2), .slice A346_4 ((rd_T34 l0_4 x13_1).f3).length c346_4, .slice A346_5 ((rd_T34 l0_4 x13_1).f4).length c346_5] 34 (0, 0)) (by (with_reducible repeat (first | refine zB ?_ _ | refine zD ?_ | refine zC ?_ _)); exact BK347.out) hb)
            replace HB := zA (zP (by repeat (first | (with_reducible first | exact HB.out | apply zG | apply zE | apply zF | refine zH ?_ GE345.out | refine zH ?_ GE347.out) | exact HB.out)) hb)
            (try clear hb)
            (try clear hb2)
            (try clear hk)
            (try clear hi)
            refine hK.out _ _ ⟨(zJ BK345.out 0).trans rfl, (zJ BK345.out 1).trans rfl, (zJ BK345.out 2).trans rfl, (zJ BK345.out 3).trans rfl, (zJ BK345.out 4).trans rfl, (zJ BK345.out 5).trans rfl, (zJ BK347.out 0).trans rfl, (zJ BK347.out 1).trans rfl, (zJ BK347.out 2).trans rfl, (zJ BK347.out 3).trans rfl, (zJ BK347.out 4).trans rfl, (zJ BK347.out 5).trans rfl, ((HB.out.cell (zR w _ hw348_0)).trans hw348_0)⟩ (fun hHeld => ?_)
            clear hK K
            refine norm_ (a' := ?_) ?_ ?_
            rotate_left
            ·show Act.put _ (some 29) _ = _
             simp only [Act.put, zK, zL, zM, i64_w, i32_w]
             rfl
            refine pure_ (i := 9) (N := some 30) (v := ?_) (a' := ?_) #[true, true, true, true, true, true, true, true, true, true, false, false, false] rfl rfl (any_of HT_.out (by kernel_rfl)) (fun _ _ _ h => h) (Or.inl ⟨by rfl, ?_⟩) ?_ ?_
            rotate_left
            ·intro w'
             go_simp
             with_reducible rfl
            rotate_left
            ·simp only [Act.put, zK, zL, zM, i64_w, i32_w]
             rfl
            refine pure_ (i := 10) (N := some 31) (v := ?_) (a' := ?_) #[true, true, true, true, true, true, true, true, true, true, true, false, false] rfl rfl (any_of HT_.out (by kernel_rfl)) (fun _ _ _ h => h) (Or.inl ⟨by rfl, ?_⟩) ?_ ?_
            rotate_left
            ·intro w'
             go_simp
             with_reducible rfl
            rotate_left
            ·simp only [Act.put, zK, zL, zM, i64_w, i32_w]
             rfl
            refine pure_ (i := 11) (N := some 32) (v := ?_) (a' := ?_) #[true, true, true, true, true, true, true, true, true, true, true, true, false] rfl rfl (any_of HT_.out (by kernel_rfl)) (fun _ _ _ h => h) (Or.inl ⟨by rfl, ?_⟩) ?_ ?_
            rotate_left
            ·intro w'
             go_simp
             with_reducible rfl
            rotate_left
            ·simp only [Act.put, zK, zL, zM, i64_w, i32_w]
             rfl
            refine pure_ (i := 12) (N := some 5) (v := ?_) (a' := ?_) #[true, true, true, true, true, true, true, true, true, true, true, true, true] rfl rfl (any_of HT_.out (by kernel_rfl)) (fun _ _ _ h => h) (Or.inl ⟨by rfl, ?_⟩) ?_ ?_
            rotate_left
            ·intro w'
             go_simp
             with_reducible rfl
            rotate_left
            ·simp only [Act.put, zK, zL, zM, i64_w, i32_w]
             rfl
            refine done_ (done_of HT_.out (by kernel_rfl)) ?_
            try go_wp2
            go_roundg k1
            case measure => have := HK1.out; omega
            case rel => exact ⟨(x5_1 ++ ((((rdOf ByteArray.empty l0_5 x13_1) ++ (⟨#[32, 61, 32]⟩ : ByteArray)) ++ t349) ++ (⟨#[10]⟩ : ByteArray))), (wrap64 (x13_1 + 1)), apC, apC, H', ⟨by have := HK1.out; omega⟩, ⟨apO⟩, ⟨by repeat (first | (with_reducible first | exact HB.out | apply zG | apply zE | apply zF | refine zH ?_ GE345.out | refine zH ?_ GE347.out) | exact HB.out)⟩⟩
           ·rw [if_neg c18] at H
            exact absurd H (by simp)
          ·rw [if_neg c17] at H
           exact absurd H (by simp)
         ·rw [if_neg c16] at H
          exact absurd H (by simp)
        ·rw [if_neg c14] at H
         exact absurd H (by simp)
       ·rw [if_neg c13] at H
        exact absurd H (by simp)
     ·rw [if_neg c8] at H
      exact absurd H (by simp)
    ·rw [if_neg c7] at H
     exact absurd H (by simp)
   ·rw [if_neg c6] at H
    have c6b0 : decide (x13_1 < (l0_4.length : Int)) = false := decide_eq_false c6
    clear c6
    have H' := zA H
    clear H
    obtain ⟨hcz25_0, hcz25_1, hcz25_2, hcz25_3, hcz25_4, hcz25_5, hfz25_0, hfz25_1, hfz25_2, hfz25_3, hfz25_4, hfz25_5⟩ := zb6 BK345.out
    go_wp2
    go_loopg [5, 37] k1 (fun kq v5 v37 w' => ∃ (x5_2 : ByteArray) (x37_2 : Int), v5 = .string x5_2 ∧ v37 = .int .i64 x37_2 ∧ Aside0 (impl_toml.l1 kq a1 x5_2 l0_4 (l0_4.length : Int) x37_2 l2 a0_0 a0_1 a0_2 a0_3 l0_4 l0_5 = some r) ∧ Aside0 (kq ≤ k1) ∧ Aside0 (w'.heap[gb345]? = some (.cells #[.int .i64 a0_0, .int .i64 a0_1, .int .i64 a0_2, .string a0_3, (.slice A0_4 l0_4.length c0_4), (.slice A0_5 l0_5.length c0_5)] 34 (0, 0))) ∧ Aside0 (Below w.heap.size w w'))
    case atStart => exact ⟨(x5_1), (0), apC, apC, H', ⟨yJ _⟩, ⟨apO⟩, ⟨apQ⟩⟩
    case round =>
     clear H'
     try clear c1 c2 p2 c3 p3 q3 hx3 c4 c6 c6b0 p6 c7 c7b0 c8 c8b0 c9 c9b0 c9b1 c11 c13 c13b0 c14 c14b0 c14b1 c14b2 c16 c16b0 c16b1 c16b2 c17 c17b0 c17b1 c17b2 c18 c18b0 c18b1 c18b2 c20 hcz12_0 hcz12_1 hcz12_2 hcz12_3 hcz12_4 hcz12_5 hcz21_0 hcz21_1 hcz21_2 hcz21_3 hcz21_4 hcz21_5 hcz25_0 hcz25_1 hcz25_2 hcz25_3 hcz25_4 hcz25_5 hcz5_0 hcz5_1 hcz5_2 hcz5_3 hcz5_4 hcz5_5 hfz12_0 hfz12_1 hfz12_2 hfz12_3 hfz12_4 hfz12_5 hfz21_0 hfz21_1 hfz21_2 hfz21_3 hfz21_4 hfz21_5 hfz25_0 hfz25_1 hfz25_2 hfz25_3 hfz25_4 hfz25_5 hfz5_0 hfz5_1 hfz5_2 hfz5_3 hfz5_4 hfz5_5 hx346_0 hx346_1 hx346_2 hx346_3 hx346_4 hx346_5 hx348_0 p2 p346 p348 q346 q348
     obtain ⟨x5_2, x37_2, rfl, rfl, HA, HK2, BK345, HB⟩ := hrel
     cases gk with
     | zero => exact absurd HA.out (by simp [impl_toml.l1])
     | succ k2 =>
      have H := HA.out
      clear HA
      simp only [impl_toml.l1] at H
      by_cases c26 : x37_2 < (l0_4.length : Int)
      ·rw [if_pos c26] at H
       have c26b0 : decide (x37_2 < (l0_4.length : Int)) = true := yE c26
       clear c26
       by_cases c27 : 0 ≤ x37_2
       ·rw [if_pos c27] at H
        have c27b0 : decide (0 ≤ x37_2) = true := yE c27
        clear c27
        by_cases c28 : x37_2 < (l0_4.length : Int)
        ·rw [if_pos c28] at H
         have c28b0 : decide (x37_2 < (l0_4.length : Int)) = true := yE c28
         clear c28
         by_cases c29 : ((rd_T34 l0_4 x37_2).f0) = 6
         ·rw [if_pos c29] at H
          have c29b0 : (((rd_T34 l0_4 x37_2).f0) == 6) = true := beq_iff_eq.mpr c29
          have c29b1 : (((rd_T34 l0_4 x37_2).f0) != 6) = false := bne_eq_false_iff_eq.mpr c29
          clear c29
          by_cases c30 : 1 + a1.size ≤ 9223372036854775807
          ·rw [if_pos c30] at H
           have c30b0 := eq_true c30
           have c30b1 : decide (1 + a1.size ≤ 9223372036854775807) = true := yE c30
           try have c30b2 : (9223372036854775807 < 1 + a1.size) = False := eq_false (Nat.not_lt.2 c30)
           by_cases c31 : x37_2 < (l0_5.length : Int)
           ·rw [if_pos c31] at H
            have c31b0 : decide (x37_2 < (l0_5.length : Int)) = true := yE c31
            clear c31
            by_cases c32 : ((⟨#[91]⟩ : ByteArray) ++ a1).size + (rdOf ByteArray.empty l0_5 x37_2).size ≤ 9223372036854775807
            ·rw [if_pos c32] at H
             (try (have c32b9 := eq_true c32; simp only [ByteArray.size_append, Int.natCast_add, show ((⟨#[91]⟩ : ByteArray)).size = 1 from rfl] at c32b9))
             (try (have c32b8 := eq_false (Nat.not_lt.2 c32); simp only [ByteArray.size_append, show ((⟨#[91]⟩ : ByteArray)).size = 1 from rfl] at c32b8))
             have c32b0 := eq_true c32
             have c32b1 : decide (((⟨#[91]⟩ : ByteArray) ++ a1).size + (rdOf ByteArray.empty l0_5 x37_2).size ≤ 9223372036854775807) = true := yE c32
             try have c32b2 : (9223372036854775807 < ((⟨#[91]⟩ : ByteArray) ++ a1).size + (rdOf ByteArray.empty l0_5 x37_2).size) = False := eq_false (Nat.not_lt.2 c32)
             try simp only [ByteArray.size_append] at c32b2
             by_cases c33 : (((⟨#[91]⟩ : ByteArray) ++ a1) ++ (rdOf ByteArray.empty l0_5 x37_2)).size + 2 ≤ 9223372036854775807
             ·rw [if_pos c33] at H
              (try (have c33b9 := eq_true c33; simp only [ByteArray.size_append, Int.natCast_add, show ((⟨#[91]⟩ : ByteArray)).size = 1 from rfl] at c33b9))
              (try (have c33b8 := eq_false (Nat.not_lt.2 c33); simp only [ByteArray.size_append, show ((⟨#[91]⟩ : ByteArray)).size = 1 from rfl] at c33b8))
              have c33b0 := eq_true c33
              have c33b1 : decide ((((⟨#[91]⟩ : ByteArray) ++ a1) ++ (rdOf ByteArray.empty l0_5 x37_2)).size + 2 ≤ 9223372036854775807) = true := yE c33
              try have c33b2 : (9223372036854775807 < (((⟨#[91]⟩ : ByteArray) ++ a1) ++ (rdOf ByteArray.empty l0_5 x37_2)).size + 2) = False := eq_false (Nat.not_lt.2 c33)
              try simp only [ByteArray.size_append] at c33b2
              by_cases c34 : a1.size + (rdOf ByteArray.empty l0_5 x37_2).size ≤ 9223372036854775807
              ·rw [if_pos c34] at H
               have c34b0 := eq_true c34
               have c34b1 : decide (a1.size + (rdOf ByteArray.empty l0_5 x37_2).size ≤ 9223372036854775807) = true := yE c34
               try have c34b2 : (9223372036854775807 < a1.size + (rdOf ByteArray.empty l0_5 x37_2).size) = False := eq_false (Nat.not_lt.2 c34)
               by_cases c35 : (a1 ++ (rdOf ByteArray.empty l0_5 x37_2)).size + 1 ≤ 9223372036854775807
               ·rw [if_pos c35] at H
                have c35b0 := eq_true c35
                have c35b1 : decide ((a1 ++ (rdOf ByteArray.empty l0_5 x37_2)).size + 1 ≤ 9223372036854775807) = true := yE c35
                try have c35b2 : (9223372036854775807 < (a1 ++ (rdOf ByteArray.empty l0_5 x37_2)).size + 1) = False := eq_false (Nat.not_lt.2 c35)
                try simp only [ByteArray.size_append] at c35b2
                replace H := Option.bind_eq_some_iff.mp H
                obtain ⟨t354, A360, H⟩ := H
                have A36 := zA A360
                clear A360
                by_cases c37 : ((((⟨#[91]⟩ : ByteArray) ++ a1) ++ (rdOf ByteArray.empty l0_5 x37_2)) ++ (⟨#[93, 10]⟩ : ByteArray)).size + t354.size ≤ 9223372036854775807
                ·rw [if_pos c37] at H
                 (try (have c37b9 := eq_true c37; simp only [ByteArray.size_append, Int.natCast_add, show ((⟨#[91]⟩ : ByteArray)).size = 1 from rfl, show ((⟨#[93, 10]⟩ : ByteArray)).size = 2 from rfl] at c37b9))
                 (try (have c37b8 := eq_false (Nat.not_lt.2 c37); simp only [ByteArray.size_append, show ((⟨#[91]⟩ : ByteArray)).size = 1 from rfl, show ((⟨#[93, 10]⟩ : ByteArray)).size = 2 from rfl] at c37b8))
                 have c37b0 := eq_true c37
                 have c37b1 : decide (((((⟨#[91]⟩ : ByteArray) ++ a1) ++ (rdOf ByteArray.empty l0_5 x37_2)) ++ (⟨#[93, 10]⟩ : ByteArray)).size + t354.size ≤ 9223372036854775807) = true := yE c37
                 try have c37b2 : (9223372036854775807 < ((((⟨#[91]⟩ : ByteArray) ++ a1) ++ (rdOf ByteArray.empty l0_5 x37_2)) ++ (⟨#[93, 10]⟩ : ByteArray)).size + t354.size) = False := eq_false (Nat.not_lt.2 c37)
                 try simp only [ByteArray.size_append] at c37b2
                 by_cases c38 : x5_2.size + (((((⟨#[91]⟩ : ByteArray) ++ a1) ++ (rdOf ByteArray.empty l0_5 x37_2)) ++ (⟨#[93, 10]⟩ : ByteArray)) ++ t354).size ≤ 9223372036854775807
                 ·rw [if_pos c38] at H
                  (try (have c38b9 := eq_true c38; simp only [ByteArray.size_append, Int.natCast_add, show ((⟨#[91]⟩ : ByteArray)).size = 1 from rfl, show ((⟨#[93, 10]⟩ : ByteArray)).size = 2 from rfl] at c38b9))
                  (try (have c38b8 := eq_false (Nat.not_lt.2 c38); simp only [ByteArray.size_append, show ((⟨#[91]⟩ : ByteArray)).size = 1 from rfl, show ((⟨#[93, 10]⟩ : ByteArray)).size = 2 from rfl] at c38b8))
                  have c38b0 := eq_true c38
                  have c38b1 : decide (x5_2.size + (((((⟨#[91]⟩ : ByteArray) ++ a1) ++ (rdOf ByteArray.empty l0_5 x37_2)) ++ (⟨#[93, 10]⟩ : ByteArray)) ++ t354).size ≤ 9223372036854775807) = true := yE c38
                  try have c38b2 : (9223372036854775807 < x5_2.size + (((((⟨#[91]⟩ : ByteArray) ++ a1) ++ (rdOf ByteArray.empty l0_5 x37_2)) ++ (⟨#[93, 10]⟩ : ByteArray)) ++ t354).size) = False := eq_false (Nat.not_lt.2 c38)
                  try simp only [ByteArray.size_append] at c38b2
                  have H' := zA H
                  clear H
                  have p350 : 0 ≤ (x37_2 : Int) := yF apB
                  have q350 : x37_2 < (l0_4.length : Int) := yF apB
                  obtain ⟨ad350, A350_4, c350_4, A350_5, c350_5, e350, hx350_0, hx350_1, hx350_2, hx350_3, hx350_4, hx350_5, hl350_4, hi350_4, hl350_5, hi350_5⟩ := at_T34 HR0_4.out x37_2 p350 q350
                  cases e350
                  replace hx350_0 := (HB.out.cell (zR w _ hx350_0)).trans hx350_0
                  replace hx350_1 := (HB.out.cell (zR w _ hx350_1)).trans hx350_1
                  replace hx350_2 := (HB.out.cell (zR w _ hx350_2)).trans hx350_2
                  replace hx350_3 := (HB.out.cell (zR w _ hx350_3)).trans hx350_3
                  replace hx350_4 := (HB.out.cell (zR w _ hx350_4)).trans hx350_4
                  replace hx350_5 := (HB.out.cell (zR w _ hx350_5)).trans hx350_5
                  have HR350_4 := zA hi350_4
                  have HC350_4 := zA hl350_4
                  clear hi350_4 hl350_4
                  have HR350_5 := zA hi350_5
                  have HC350_5 := zA hl350_5
                  clear hi350_5 hl350_5
                  replace p350 := eq_true p350
                  replace q350 := eq_true q350
                  try go_wp2_with (first | ((with_reducible refine zS (N := 9) rfl ?_); refine zW ?hg (N := 9) ?hd (cs := #[.int .i64 0, .int .i64 0, .int .i64 0, .string (⟨#[]⟩ : ByteArray), .slice none 0 0, .slice none 0 0]) (t := 34) ?hr ?_; (case hd => rfl); (case hg => rfl); (case hr => first | (go_simp; done) | (go_simp; rfl)); intro gb351 hg w39 hbox hb; have BK351 := zA (hbox); have GW351 := zA ((by rw [hg]; exact (zQ apQ) : w.heap.size ≤ gb351)); have GE351 := zA ((by rw [hg]; exact (zQ apQ) : w.heap.size ≤ gb351)); replace HB := zA (zP apQ hb); have NB345_351 := zA ((by rw [hg]; exact Nat.ne_of_lt (blk_lt (g := gb345) (o := .cells #[.int .i64 a0_0, .int .i64 a0_1, .int .i64 a0_2, .string a0_3, .slice (some ad350) l0_4.length c0_4, .slice A0_5 l0_5.length c0_5] 34 (0, 0)) apO) : gb345 ≠ gb351)); have NB351_345 := zA ((by rw [hg]; exact Nat.ne_of_gt (blk_lt (g := gb345) (o := .cells #[.int .i64 a0_0, .int .i64 a0_1, .int .i64 a0_2, .string a0_3, .slice (some ad350) l0_4.length c0_4, .slice A0_5 l0_5.length c0_5] 34 (0, 0)) apO) : gb351 ≠ gb345)); replace BK345 := zA (zN (g := gb345) (o := .cells #[.int .i64 a0_0, .int .i64 a0_1, .int .i64 a0_2, .string a0_3, .slice (some ad350) l0_4.length c0_4, .slice A0_5 l0_5.length c0_5] 34 (0, 0)) apO hb); clear hb hbox hg; have hnb40 := NB351_345.out; have hnc40 := NB345_351.out; obtain ⟨hcz41_0, hcz41_1, hcz41_2, hcz41_3, hcz41_4, hcz41_5, hfz41_0, hfz41_1, hfz41_2, hfz41_3, hfz41_4, hfz41_5⟩ := zb6 BK351.out))
                  have n0_ : Aside0 (((((((w39.setCell ⟨gb351, 0, none⟩ (.int .i64 ((rd_T34 l0_4 x37_2).f0))).setCell ⟨gb351, 1, none⟩ (.int .i64 ((rd_T34 l0_4 x37_2).f1.f0))).setCell ⟨gb351, 2, none⟩ (.int .i64 ((rd_T34 l0_4 x37_2).f1.f1))).setCell ⟨gb351, 3, none⟩ (.string ((rd_T34 l0_4 x37_2).f2))).setCell ⟨gb351, 4, none⟩ (.slice A350_4 ((rd_T34 l0_4 x37_2).f3).length c350_4)).setCell ⟨gb351, 5, none⟩ (.slice A350_5 ((rd_T34 l0_4 x37_2).f4).length c350_5)).heap[gb345]? = some (.cells #[.int .i64 a0_0, .int .i64 a0_1, .int .i64 a0_2, .string a0_3, .slice (some ad350) l0_4.length c0_4, .slice A0_5 l0_5.length c0_5] 34 (0, 0))) := ⟨by (with_reducible repeat (first | refine zB ?_ _ | refine zD ?_ | refine zC ?_ _)); refine blk_far ?_ NB345_351.out _; (with_reducible repeat (first | refine zB ?_ _ | refine zD ?_ | refine zC ?_ _)); refine blk_far ?_ NB345_351.out _; (with_reducible repeat (first | refine zB ?_ _ | refine zD ?_ | refine zC ?_ _)); refine blk_far ?_ NB345_351.out _; (with_reducible repeat (first | refine zB ?_ _ | refine zD ?_ | refine zC ?_ _)); refine blk_far ?_ NB345_351.out _; (with_reducible repeat (first | refine zB ?_ _ | refine zD ?_ | refine zC ?_ _)); refine blk_far ?_ NB345_351.out _; (with_reducible repeat (first | refine zB ?_ _ | refine zD ?_ | refine zC ?_ _)); refine blk_far ?_ NB345_351.out _; (with_reducible repeat (first | refine zB ?_ _ | refine zD ?_ | refine zC ?_ _)); exact BK345.out⟩
                  have n1_ : Aside0 (((((((w39.setCell ⟨gb351, 0, none⟩ (.int .i64 ((rd_T34 l0_4 x37_2).f0))).setCell ⟨gb351, 1, none⟩ (.int .i64 ((rd_T34 l0_4 x37_2).f1.f0))).setCell ⟨gb351, 2, none⟩ (.int .i64 ((rd_T34 l0_4 x37_2).f1.f1))).setCell ⟨gb351, 3, none⟩ (.string ((rd_T34 l0_4 x37_2).f2))).setCell ⟨gb351, 4, none⟩ (.slice A350_4 ((rd_T34 l0_4 x37_2).f3).length c350_4)).setCell ⟨gb351, 5, none⟩ (.slice A350_5 ((rd_T34 l0_4 x37_2).f4).length c350_5)).heap[gb351]? = some (.cells #[.int .i64 ((rd_T34 l0_4 x37_2).f0), .int .i64 ((rd_T34 l0_4 x37_2).f1.f0), .int .i64 ((rd_T34 l0_4 x37_2).f1.f1), .string ((rd_T34 l0_4 x37_2).f2), .slice A350_4 ((rd_T34 l0_4 x37_2).f3).length c350_4, .slice A350_5 ((rd_T34 l0_4 x37_2).f4).length c350_5] 34 (0, 0))) := ⟨by (with_reducible repeat (first | refine zB ?_ _ | refine zD ?_ | refine zC ?_ _)); refine blk_put (cs := #[.int .i64 ((rd_T34 l0_4 x37_2).f0), .int .i64 ((rd_T34 l0_4 x37_2).f1.f0), .int .i64 ((rd_T34 l0_4 x37_2).f1.f1), .string ((rd_T34 l0_4 x37_2).f2), .slice A350_4 ((rd_T34 l0_4 x37_2).f3).length c350_4, .slice none 0 0]) ?_ 5 _ rfl; (with_reducible repeat (first | refine zB ?_ _ | refine zD ?_ | refine zC ?_ _)); refine blk_put (cs := #[.int .i64 ((rd_T34 l0_4 x37_2).f0), .int .i64 ((rd_T34 l0_4 x37_2).f1.f0), .int .i64 ((rd_T34 l0_4 x37_2).f1.f1), .string ((rd_T34 l0_4 x37_2).f2), .slice none 0 0, .slice none 0 0]) ?_ 4 _ rfl; (with_reducible repeat (first | refine zB ?_ _ | refine zD ?_ | refine zC ?_ _)); refine blk_put (cs := #[.int .i64 ((rd_T34 l0_4 x37_2).f0), .int .i64 ((rd_T34 l0_4 x37_2).f1.f0), .int .i64 ((rd_T34 l0_4 x37_2).f1.f1), .string (⟨#[]⟩ : ByteArray), .slice none 0 0, .slice none 0 0]) ?_ 3 _ rfl; (with_reducible repeat (first | refine zB ?_ _ | refine zD ?_ | refine zC ?_ _)); refine blk_put (cs := #[.int .i64 ((rd_T34 l0_4 x37_2).f0), .int .i64 ((rd_T34 l0_4 x37_2).f1.f0), .int .i64 0, .string (⟨#[]⟩ : ByteArray), .slice none 0 0, .slice none 0 0]) ?_ 2 _ rfl; (with_reducible repeat (first | refine zB ?_ _ | refine zD ?_ | refine zC ?_ _)); refine blk_put (cs := #[.int .i64 ((rd_T34 l0_4 x37_2).f0), .int .i64 0, .int .i64 0, .string (⟨#[]⟩ : ByteArray), .slice none 0 0, .slice none 0 0]) ?_ 1 _ rfl; (with_reducible repeat (first | refine zB ?_ _ | refine zD ?_ | refine zC ?_ _)); refine blk_put (cs := #[.int .i64 0, .int .i64 0, .int .i64 0, .string (⟨#[]⟩ : ByteArray), .slice none 0 0, .slice none 0 0]) ?_ 0 _ rfl; (with_reducible repeat (first | refine zB ?_ _ | refine zD ?_ | refine zC ?_ _)); exact BK351.out⟩
                  have n2_ : Aside0 (Below w.heap.size w ((((((w39.setCell ⟨gb351, 0, none⟩ (.int .i64 ((rd_T34 l0_4 x37_2).f0))).setCell ⟨gb351, 1, none⟩ (.int .i64 ((rd_T34 l0_4 x37_2).f1.f0))).setCell ⟨gb351, 2, none⟩ (.int .i64 ((rd_T34 l0_4 x37_2).f1.f1))).setCell ⟨gb351, 3, none⟩ (.string ((rd_T34 l0_4 x37_2).f2))).setCell ⟨gb351, 4, none⟩ (.slice A350_4 ((rd_T34 l0_4 x37_2).f3).length c350_4)).setCell ⟨gb351, 5, none⟩ (.slice A350_5 ((rd_T34 l0_4 x37_2).f4).length c350_5))) := ⟨by repeat (first | (with_reducible first | exact HB.out | apply zG | apply zE | apply zF | refine zH ?_ GE345.out | refine zH ?_ GE351.out) | exact HB.out)⟩
                  (try clear BK345)
                  (try clear BK351)
                  (try clear HB)
                  generalize ((((((w39.setCell ⟨gb351, 0, none⟩ (.int .i64 ((rd_T34 l0_4 x37_2).f0))).setCell ⟨gb351, 1, none⟩ (.int .i64 ((rd_T34 l0_4 x37_2).f1.f0))).setCell ⟨gb351, 2, none⟩ (.int .i64 ((rd_T34 l0_4 x37_2).f1.f1))).setCell ⟨gb351, 3, none⟩ (.string ((rd_T34 l0_4 x37_2).f2))).setCell ⟨gb351, 4, none⟩ (.slice A350_4 ((rd_T34 l0_4 x37_2).f3).length c350_4)).setCell ⟨gb351, 5, none⟩ (.slice A350_5 ((rd_T34 l0_4 x37_2).f4).length c350_5)) = w42 at n0_ n1_ n2_ ⊢
                  have BK345 := n0_
                  have BK351 := n1_
                  have HB := n2_
                  clear n0_ n1_ n2_
                  replace BK345 := zA (zD BK345.out)
                  replace BK351 := zA (zD BK351.out)
                  replace HB := zA (zF HB.out)
                  have p352 : 0 ≤ (x37_2 : Int) := yF apB
                  have q352 : x37_2 < (l0_5.length : Int) := yF apB
                  obtain ⟨ad352, e352, hx352_0⟩ := Kd.at_string HR0_5.out x37_2 p352 q352
                  have hw352_0 := hx352_0
                  cases e352
                  replace hx352_0 := (HB.out.cell (zR w _ hx352_0)).trans hx352_0
                  replace p352 := eq_true p352
                  replace q352 := eq_true q352
                  have p353 : 0 ≤ (x37_2 : Int) := yF apB
                  have q353 : x37_2 < (l0_5.length : Int) := yF apB
                  obtain ⟨ad353, e353, hx353_0⟩ := Kd.at_string HR0_5.out x37_2 p353 q353
                  have hw353_0 := hx353_0
                  obtain rfl : ad352 = ad353 := (by injection e353)
                  replace hx353_0 := (HB.out.cell (zR w _ hx353_0)).trans hx353_0
                  replace p353 := eq_true p353
                  replace q353 := eq_true q353
                  refine start_ (n := 23) (S := fun w' => w'.cell? ⟨gb345, 0, none⟩ = some (.int .i64 a0_0) ∧ w'.cell? ⟨gb345, 1, none⟩ = some (.int .i64 a0_1) ∧ w'.cell? ⟨gb345, 2, none⟩ = some (.int .i64 a0_2) ∧ w'.cell? ⟨gb345, 3, none⟩ = some (.string a0_3) ∧ w'.cell? ⟨gb345, 4, none⟩ = some (.slice (some ad350) l0_4.length c0_4) ∧ w'.cell? ⟨gb345, 5, none⟩ = some (.slice (some ad352) l0_5.length c0_5) ∧ w'.cell? ⟨gb351, 0, none⟩ = some (.int .i64 ((rd_T34 l0_4 x37_2).f0)) ∧ w'.cell? ⟨gb351, 1, none⟩ = some (.int .i64 ((rd_T34 l0_4 x37_2).f1.f0)) ∧ w'.cell? ⟨gb351, 2, none⟩ = some (.int .i64 ((rd_T34 l0_4 x37_2).f1.f1)) ∧ w'.cell? ⟨gb351, 3, none⟩ = some (.string ((rd_T34 l0_4 x37_2).f2)) ∧ w'.cell? ⟨gb351, 4, none⟩ = some (.slice A350_4 ((rd_T34 l0_4 x37_2).f3).length c350_4) ∧ w'.cell? ⟨gb351, 5, none⟩ = some (.slice A350_5 ((rd_T34 l0_4 x37_2).f4).length c350_5) ∧ w'.cell? (ad352.add (x37_2).toNat) = some (.string (rdOf ByteArray.empty l0_5 x37_2)) ∧ w'.cell? (ad352.add (x37_2).toNat) = some (.string (rdOf ByteArray.empty l0_5 x37_2))) (ds := []) #[false, false, false, false, false, false, false, false, false, false, false, false, false, false, false, false, false, false, false, false, false, false, false] (by kernel_rfl) rfl rfl ⟨(zJ BK345.out 0).trans rfl, (zJ BK345.out 1).trans rfl, (zJ BK345.out 2).trans rfl, (zJ BK345.out 3).trans rfl, (zJ BK345.out 4).trans rfl, (zJ BK345.out 5).trans rfl, (zJ BK351.out 0).trans rfl, (zJ BK351.out 1).trans rfl, (zJ BK351.out 2).trans rfl, (zJ BK351.out 3).trans rfl, (zJ BK351.out 4).trans rfl, (zJ BK351.out 5).trans rfl, ((HB.out.cell (zR w _ hw352_0)).trans hw352_0), ((HB.out.cell (zR w _ hw353_0)).trans hw353_0)⟩ (fun hHeld => ?_); refine with_tabW impl_toml.tab12 impl_toml.bits12 (fun HT_ HW_ => ?_)
                  generalize w42.drew = w43 at BK345 BK351 HB hx352_0 hx353_0 hHeld ⊢
                  refine pure_ (i := 0) (N := some 45) (v := ?_) (a' := ?_) #[true, false, false, false, false, false, false, false, false, false, false, false, false, false, false, false, false, false, false, false, false, false, false] rfl rfl (any_of HT_.out (by kernel_rfl)) (fun _ _ _ h => h) (Or.inl ⟨by rfl, ?_⟩) ?_ ?_
                  rotate_left
                  ·intro w'
                   go_simp
                   with_reducible rfl
                  rotate_left
                  ·simp only [Act.put, zK, zL, zM, i64_w, i32_w]
                   rfl
                  refine pure_ (i := 1) (N := some 46) (v := ?_) (a' := ?_) #[true, true, false, false, false, false, false, false, false, false, false, false, false, false, false, false, false, false, false, false, false, false, false] rfl rfl (any_of HT_.out (by kernel_rfl)) (fun _ _ _ h => h) (Or.inl ⟨by rfl, ?_⟩) ?_ ?_
                  rotate_left
                  ·intro w'
                   go_simp
                   with_reducible rfl
                  rotate_left
                  ·simp only [Act.put, zK, zL, zM, i64_w, i32_w]
                   rfl
                  refine pure_ (i := 2) (N := some 47) (v := ?_) (a' := ?_) #[true, true, true, false, false, false, false, false, false, false, false, false, false, false, false, false, false, false, false, false, false, false, false] rfl rfl (any_of HT_.out (by kernel_rfl)) (fun _ _ _ h => h) (Or.inl ⟨by rfl, ?_⟩) ?_ ?_
                  rotate_left
                  ·intro w'
                   go_simp
                   with_reducible rfl
                  rotate_left
                  ·simp only [Act.put, zK, zL, zM, i64_w, i32_w]
                   rfl
                  refine pure_ (i := 3) (N := some 48) (v := ?_) (a' := ?_) #[true, true, true, true, false, false, false, false, false, false, false, false, false, false, false, false, false, false, false, false, false, false, false] rfl rfl (any_of HT_.out (by kernel_rfl)) (fun _ _ _ h => h) (Or.inl ⟨by rfl, ?_⟩) ?_ ?_
                  rotate_left
                  ·intro w'
                   go_simp
                   with_reducible rfl
                  rotate_left
                  ·simp only [Act.put, zK, zL, zM, i64_w, i32_w]
                   rfl
                  refine pure_ (i := 5) (N := some 50) (v := ?_) (a' := ?_) #[true, true, true, true, false, true, false, false, false, false, false, false, false, false, false, false, false, false, false, false, false, false, false] rfl rfl (any_of HT_.out (by kernel_rfl)) (fun _ _ _ h => h) (Or.inl ⟨by rfl, ?_⟩) ?_ ?_
                  rotate_left
                  ·intro w'
                   go_simp
                   with_reducible rfl
                  rotate_left
                  ·simp only [Act.put, zK, zL, zM, i64_w, i32_w]
                   rfl
                  refine pure_ (i := 11) (N := some 56) (v := ?_) (a' := ?_) #[true, true, true, true, false, true, false, false, false, false, false, true, false, false, false, false, false, false, false, false, false, false, false] rfl rfl (any_of HT_.out (by kernel_rfl)) (fun _ _ _ h => h) (Or.inl ⟨by rfl, ?_⟩) ?_ ?_
                  rotate_left
                  ·intro w'
                   go_simp
                   with_reducible rfl
                  rotate_left
                  ·simp only [Act.put, zK, zL, zM, i64_w, i32_w]
                   rfl
                  refine pure_ (i := 12) (N := some 57) (v := ?_) (a' := ?_) #[true, true, true, true, false, true, false, false, false, false, false, true, true, false, false, false, false, false, false, false, false, false, false] rfl rfl (any_of HT_.out (by kernel_rfl)) (fun _ _ _ h => h) (Or.inl ⟨by rfl, ?_⟩) ?_ ?_
                  rotate_left
                  ·intro w'
                   go_simp
                   with_reducible rfl
                  rotate_left
                  ·simp only [Act.put, zK, zL, zM, i64_w, i32_w]
                   rfl
                  refine pure_ (i := 14) (N := some 59) (v := ?_) (a' := ?_) #[true, true, true, true, false, true, false, false, false, false, false, true, true, false, true, false, false, false, false, false, false, false, false] rfl rfl (any_of HT_.out (by kernel_rfl)) (fun _ _ _ h => h) (Or.inl ⟨by rfl, ?_⟩) ?_ ?_
                  rotate_left
                  ·intro w'
                   go_simp
                   with_reducible rfl
                  rotate_left
                  ·simp only [Act.put, zK, zL, zM, i64_w, i32_w]
                   rfl
                  refine take_ (i := 4) (N := some 49) (v := ?_) (a' := ?_) #[true, true, true, true, true, true, false, false, false, false, false, true, true, false, true, false, false, false, false, false, false, false, false] rfl rfl (take_ofW HT_.out HW_.out (by kernel_rfl)) (fun _ _ _ h => h) (Or.inl ⟨by rfl, ?_⟩) hHeld ?_ ?_
                  rotate_left
                  ·rintro w' ⟨s0, s1, s2, s3, s4, s5, s6, s7, s8, s9, s10, s11, s12, s13⟩
                   go_simp
                   with_reducible rfl
                  rotate_left
                  ·simp only [Act.put, zK, zL, zM, i64_w, i32_w]
                   rfl
                  refine pure_ (i := 6) (N := some 51) (v := ?_) (a' := ?_) #[true, true, true, true, true, true, true, false, false, false, false, true, true, false, true, false, false, false, false, false, false, false, false] rfl rfl (any_of HT_.out (by kernel_rfl)) (fun _ _ _ h => h) (Or.inl ⟨by rfl, ?_⟩) ?_ ?_
                  rotate_left
                  ·intro w'
                   go_simp
                   with_reducible rfl
                  rotate_left
                  ·simp only [Act.put, zK, zL, zM, i64_w, i32_w]
                   rfl
                  refine take_ (i := 7) (N := some 52) (v := ?_) (a' := ?_) #[true, true, true, true, true, true, true, true, false, false, false, true, true, false, true, false, false, false, false, false, false, false, false] rfl rfl (take_ofW HT_.out HW_.out (by kernel_rfl)) (fun _ _ _ h => h) (Or.inl ⟨by rfl, ?_⟩) hHeld ?_ ?_
                  rotate_left
                  ·rintro w' ⟨s0, s1, s2, s3, s4, s5, s6, s7, s8, s9, s10, s11, s12, s13⟩
                   go_simp
                   with_reducible rfl
                  rotate_left
                  ·simp only [Act.put, zK, zL, zM, i64_w, i32_w]
                   rfl
                  refine pure_ (i := 8) (N := some 53) (v := ?_) (a' := ?_) #[true, true, true, true, true, true, true, true, true, false, false, true, true, false, true, false, false, false, false, false, false, false, false] rfl rfl (any_of HT_.out (by kernel_rfl)) (fun _ _ _ h => h) (Or.inl ⟨by rfl, ?_⟩) ?_ ?_
                  rotate_left
                  ·intro w'
                   go_simp
                   with_reducible rfl
                  rotate_left
                  ·simp only [Act.put, zK, zL, zM, i64_w, i32_w]
                   rfl
                  refine pure_ (i := 9) (N := some 54) (v := ?_) (a' := ?_) #[true, true, true, true, true, true, true, true, true, true, false, true, true, false, true, false, false, false, false, false, false, false, false] rfl rfl (any_of HT_.out (by kernel_rfl)) (fun _ _ _ h => h) (Or.inl ⟨by rfl, ?_⟩) ?_ ?_
                  rotate_left
                  ·intro w'
                   go_simp
                   with_reducible rfl
                  rotate_left
                  ·simp only [Act.put, zK, zL, zM, i64_w, i32_w]
                   rfl
                  refine take_ (i := 10) (N := some 55) (v := ?_) (a' := ?_) #[true, true, true, true, true, true, true, true, true, true, true, true, true, false, true, false, false, false, false, false, false, false, false] rfl rfl (take_ofW HT_.out HW_.out (by kernel_rfl)) (fun _ _ _ h => h) (Or.inl ⟨by rfl, ?_⟩) hHeld ?_ ?_
                  rotate_left
                  ·rintro w' ⟨s0, s1, s2, s3, s4, s5, s6, s7, s8, s9, s10, s11, s12, s13⟩
                   go_simp
                   with_reducible rfl
                  rotate_left
                  ·simp only [Act.put, zK, zL, zM, i64_w, i32_w]
                   rfl
                  refine take_ (i := 13) (N := some 58) (v := ?_) (a' := ?_) #[true, true, true, true, true, true, true, true, true, true, true, true, true, true, true, false, false, false, false, false, false, false, false] rfl rfl (take_ofW HT_.out HW_.out (by kernel_rfl)) (fun _ _ _ h => h) (Or.inl ⟨by rfl, ?_⟩) hHeld ?_ ?_
                  rotate_left
                  ·rintro w' ⟨s0, s1, s2, s3, s4, s5, s6, s7, s8, s9, s10, s11, s12, s13⟩
                   go_simp
                   with_reducible rfl
                  rotate_left
                  ·simp only [Act.put, zK, zL, zM, i64_w, i32_w]
                   rfl
                  refine pure_ (i := 15) (N := some 60) (v := ?_) (a' := ?_) #[true, true, true, true, true, true, true, true, true, true, true, true, true, true, true, true, false, false, false, false, false, false, false] rfl rfl (any_of HT_.out (by kernel_rfl)) (fun _ _ _ h => h) (Or.inl ⟨by rfl, ?_⟩) ?_ ?_
                  rotate_left
                  ·intro w'
                   go_simp
                   with_reducible rfl
                  rotate_left
                  ·simp only [Act.put, zK, zL, zM, i64_w, i32_w]
                   rfl
                  refine take_ (i := 16) (N := some 61) (v := ?_) (a' := ?_) #[true, true, true, true, true, true, true, true, true, true, true, true, true, true, true, true, true, false, false, false, false, false, false] rfl rfl (take_ofW HT_.out HW_.out (by kernel_rfl)) (fun _ _ _ h => h) (Or.inl ⟨by rfl, ?_⟩) hHeld ?_ ?_
                  rotate_left
                  ·rintro w' ⟨s0, s1, s2, s3, s4, s5, s6, s7, s8, s9, s10, s11, s12, s13⟩
                   go_simp
                   with_reducible rfl
                  rotate_left
                  ·simp only [Act.put, zK, zL, zM, i64_w, i32_w]
                   rfl
                  refine pure_ (i := 17) (N := some 62) (v := ?_) (a' := ?_) #[true, true, true, true, true, true, true, true, true, true, true, true, true, true, true, true, true, true, false, false, false, false, false] rfl rfl (any_of HT_.out (by kernel_rfl)) (fun _ _ _ h => h) (Or.inl ⟨by rfl, ?_⟩) ?_ ?_
                  rotate_left
                  ·intro w'
                   go_simp
                   with_reducible rfl
                  rotate_left
                  ·simp only [Act.put, zK, zL, zM, i64_w, i32_w]
                   rfl
                  refine pure_ (i := 18) (N := some 63) (v := ?_) (a' := ?_) #[true, true, true, true, true, true, true, true, true, true, true, true, true, true, true, true, true, true, true, false, false, false, false] rfl rfl (any_of HT_.out (by kernel_rfl)) (fun _ _ _ h => h) (Or.inl ⟨by rfl, ?_⟩) ?_ ?_
                  rotate_left
                  ·intro w'
                   go_simp
                   with_reducible rfl
                  rotate_left
                  ·simp only [Act.put, zK, zL, zM, i64_w, i32_w]
                   rfl
                  refine one_ (i := 19) (N := some 64) #[true, true, true, true, true, true, true, true, true, true, true, true, true, true, true, true, true, true, true, true, false, false, false] rfl rfl (one_of HT_.out (by kernel_rfl)) (by decide) (fun K hK => ?_)
                  refine goes_ Tryd.func32 (by kernel_rfl) rfl #[.agg #[.int .i64 ((rd_T34 l0_4 x37_2).f0), .int .i64 ((rd_T34 l0_4 x37_2).f1.f0), .int .i64 ((rd_T34 l0_4 x37_2).f1.f1), .string ((rd_T34 l0_4 x37_2).f2), .slice A350_4 ((rd_T34 l0_4 x37_2).f3).length c350_4, .slice A350_5 ((rd_T34 l0_4 x37_2).f4).length c350_5], .string ((a1 ++ (rdOf ByteArray.empty l0_5 x37_2)) ++ (⟨#[46]⟩ : ByteArray))] (by rfl) rfl rfl apE ?_
                  with_reducible refine (ih k2 (by have := HK1.out; have := HK2.out; omega) ((rd_T34 l0_4 x37_2).f0) ((rd_T34 l0_4 x37_2).f1.f0) ((rd_T34 l0_4 x37_2).f1.f1) ((rd_T34 l0_4 x37_2).f2) _ _ ((rd_T34 l0_4 x37_2).f3) _ _ ((rd_T34 l0_4 x37_2).f4) ((a1 ++ (rdOf ByteArray.empty l0_5 x37_2)) ++ (⟨#[46]⟩ : ByteArray)) A2 c2 l2 t354 _ ?side1 ?side2 ?side3 ?side4 ?side5 ?side6 ?side7 A36.out).mono ?_
                  (case side1 => exact vc (Kd.C_below HR350_4.out HB.out))
                  (case side2 => exact HC350_4.out)
                  (case side3 => exact vc (Kd.C_below HR350_5.out HB.out))
                  (case side4 => exact HC350_5.out)
                  (case side5 => exact vc (Kd.C_below HR2.out HB.out))
                  (case side6 => exact HC2.out)
                  (case side7 => exact HG2.out)
                  rintro e w44 ⟨rfl, hb⟩
                  refine ⟨_, rfl, ?_⟩
                  replace BK345 := zA (zN (g := gb345) (o := .cells #[.int .i64 a0_0, .int .i64 a0_1, .int .i64 a0_2, .string a0_3, .slice (some ad350) l0_4.length c0_4, .slice (some ad352) l0_5.length c0_5] 34 (0, 0)) apO hb)
                  replace BK351 := zA (zN (g := gb351) (o := .cells #[.int .i64 ((rd_T34 l0_4 x37_2).f0), .int .i64 ((rd_T34 l0_4 x37_2).f1.f0), .int .i64 ((rd_T34 l0_4 x37_2).f1.f1), .string ((rd_T34 l0_4 x37_2).f2), .slice A350_4 ((rd_T34 l0_4 x37_2).f3).length c350_4, .slice A350_5 ((rd_T34 l0_4 x37_2).f4).length c350_5] 34 (0, 0)) (by (with_reducible repeat (first | refine zB ?_ _ | refine zD ?_ | refine zC ?_ _)); exact BK351.out) hb)
                  replace HB := zA (zP (by repeat (first | (with_reducible first | exact HB.out | apply zG | apply zE | apply zF | refine zH ?_ GE345.out | refine zH ?_ GE351.out) | exact HB.out)) hb)
                  (try clear hb)
                  (try clear hb2)
                  (try clear hk)
                  (try clear hi)
                  refine hK.out _ _ ⟨(zJ BK345.out 0).trans rfl, (zJ BK345.out 1).trans rfl, (zJ BK345.out 2).trans rfl, (zJ BK345.out 3).trans rfl, (zJ BK345.out 4).trans rfl, (zJ BK345.out 5).trans rfl, (zJ BK351.out 0).trans rfl, (zJ BK351.out 1).trans rfl, (zJ BK351.out 2).trans rfl, (zJ BK351.out 3).trans rfl, (zJ BK351.out 4).trans rfl, (zJ BK351.out 5).trans rfl, ((HB.out.cell (zR w _ hw352_0)).trans hw352_0), ((HB.out.cell (zR w _ hw353_0)).trans hw353_0)⟩ (fun hHeld => ?_)
                  clear hK K
                  refine norm_ (a' := ?_) ?_ ?_
                  rotate_left
                  ·show Act.put _ (some 64) _ = _
                   simp only [Act.put, zK, zL, zM, i64_w, i32_w]
                   rfl
                  refine pure_ (i := 20) (N := some 65) (v := ?_) (a' := ?_) #[true, true, true, true, true, true, true, true, true, true, true, true, true, true, true, true, true, true, true, true, true, false, false] rfl rfl (any_of HT_.out (by kernel_rfl)) (fun _ _ _ h => h) (Or.inl ⟨by rfl, ?_⟩) ?_ ?_
                  rotate_left
                  ·intro w'
                   go_simp
                   with_reducible rfl
                  rotate_left
                  ·simp only [Act.put, zK, zL, zM, i64_w, i32_w]
                   rfl
                  refine pure_ (i := 21) (N := some 66) (v := ?_) (a' := ?_) #[true, true, true, true, true, true, true, true, true, true, true, true, true, true, true, true, true, true, true, true, true, true, false] rfl rfl (any_of HT_.out (by kernel_rfl)) (fun _ _ _ h => h) (Or.inl ⟨by rfl, ?_⟩) ?_ ?_
                  rotate_left
                  ·intro w'
                   go_simp
                   with_reducible rfl
                  rotate_left
                  ·simp only [Act.put, zK, zL, zM, i64_w, i32_w]
                   rfl
                  refine pure_ (i := 22) (N := some 5) (v := ?_) (a' := ?_) #[true, true, true, true, true, true, true, true, true, true, true, true, true, true, true, true, true, true, true, true, true, true, true] rfl rfl (any_of HT_.out (by kernel_rfl)) (fun _ _ _ h => h) (Or.inl ⟨by rfl, ?_⟩) ?_ ?_
                  rotate_left
                  ·intro w'
                   go_simp
                   with_reducible rfl
                  rotate_left
                  ·simp only [Act.put, zK, zL, zM, i64_w, i32_w]
                   rfl
                  refine done_ (done_of HT_.out (by kernel_rfl)) ?_
                  try go_wp2
                  go_roundg k2
                  case measure => have := HK1.out; have := HK2.out; omega
                  case rel => exact ⟨(x5_2 ++ (((((⟨#[91]⟩ : ByteArray) ++ a1) ++ (rdOf ByteArray.empty l0_5 x37_2)) ++ (⟨#[93, 10]⟩ : ByteArray)) ++ t354)), (wrap64 (x37_2 + 1)), apC, apC, H', ⟨by have := HK1.out; have := HK2.out; omega⟩, ⟨apO⟩, ⟨by repeat (first | (with_reducible first | exact HB.out | apply zG | apply zE | apply zF | refine zH ?_ GE345.out | refine zH ?_ GE351.out) | exact HB.out)⟩⟩
                 ·rw [if_neg c38] at H
                  exact absurd H (by simp)
                ·rw [if_neg c37] at H
                 exact absurd H (by simp)
               ·rw [if_neg c35] at H
                exact absurd H (by simp)
              ·rw [if_neg c34] at H
               exact absurd H (by simp)
             ·rw [if_neg c33] at H
              exact absurd H (by simp)
            ·rw [if_neg c32] at H
             exact absurd H (by simp)
           ·rw [if_neg c31] at H
            exact absurd H (by simp)
          ·rw [if_neg c30] at H
           exact absurd H (by simp)
         ·rw [if_neg c29] at H
          have c29b0 : (((rd_T34 l0_4 x37_2).f0) == 6) = false := beq_eq_false_iff_ne.mpr c29
          have c29b1 : (((rd_T34 l0_4 x37_2).f0) != 6) = true := bne_iff_ne.mpr c29
          have H' := zA H
          clear H
          have p350 : 0 ≤ (x37_2 : Int) := yF apB
          have q350 : x37_2 < (l0_4.length : Int) := yF apB
          obtain ⟨ad350, A350_4, c350_4, A350_5, c350_5, e350, hx350_0, hx350_1, hx350_2, hx350_3, hx350_4, hx350_5, hl350_4, hi350_4, hl350_5, hi350_5⟩ := at_T34 HR0_4.out x37_2 p350 q350
          cases e350
          replace hx350_0 := (HB.out.cell (zR w _ hx350_0)).trans hx350_0
          replace hx350_1 := (HB.out.cell (zR w _ hx350_1)).trans hx350_1
          replace hx350_2 := (HB.out.cell (zR w _ hx350_2)).trans hx350_2
          replace hx350_3 := (HB.out.cell (zR w _ hx350_3)).trans hx350_3
          replace hx350_4 := (HB.out.cell (zR w _ hx350_4)).trans hx350_4
          replace hx350_5 := (HB.out.cell (zR w _ hx350_5)).trans hx350_5
          have HR350_4 := zA hi350_4
          have HC350_4 := zA hl350_4
          clear hi350_4 hl350_4
          have HR350_5 := zA hi350_5
          have HC350_5 := zA hl350_5
          clear hi350_5 hl350_5
          replace p350 := eq_true p350
          replace q350 := eq_true q350
          go_wp2_with (first | ((with_reducible refine zS (N := 9) rfl ?_); refine zW ?hg (N := 9) ?hd (cs := #[.int .i64 0, .int .i64 0, .int .i64 0, .string (⟨#[]⟩ : ByteArray), .slice none 0 0, .slice none 0 0]) (t := 34) ?hr ?_; (case hd => rfl); (case hg => rfl); (case hr => first | (go_simp; done) | (go_simp; rfl)); intro gb351 hg w45 hbox hb; have BK351 := zA (hbox); have GW351 := zA ((by rw [hg]; exact (zQ apQ) : w.heap.size ≤ gb351)); have GE351 := zA ((by rw [hg]; exact (zQ apQ) : w.heap.size ≤ gb351)); replace HB := zA (zP apQ hb); have NB345_351 := zA ((by rw [hg]; exact Nat.ne_of_lt (blk_lt (g := gb345) (o := .cells #[.int .i64 a0_0, .int .i64 a0_1, .int .i64 a0_2, .string a0_3, .slice (some ad350) l0_4.length c0_4, .slice A0_5 l0_5.length c0_5] 34 (0, 0)) apO) : gb345 ≠ gb351)); have NB351_345 := zA ((by rw [hg]; exact Nat.ne_of_gt (blk_lt (g := gb345) (o := .cells #[.int .i64 a0_0, .int .i64 a0_1, .int .i64 a0_2, .string a0_3, .slice (some ad350) l0_4.length c0_4, .slice A0_5 l0_5.length c0_5] 34 (0, 0)) apO) : gb351 ≠ gb345)); replace BK345 := zA (zN (g := gb345) (o := .cells #[.int .i64 a0_0, .int .i64 a0_1, .int .i64 a0_2, .string a0_3, .slice (some ad350) l0_4.length c0_4, .slice A0_5 l0_5.length c0_5] 34 (0, 0)) apO hb); clear hb hbox hg; have hnb46 := NB351_345.out; have hnc46 := NB345_351.out; obtain ⟨hcz47_0, hcz47_1, hcz47_2, hcz47_3, hcz47_4, hcz47_5, hfz47_0, hfz47_1, hfz47_2, hfz47_3, hfz47_4, hfz47_5⟩ := zb6 BK351.out))
          go_roundg k2
          case measure => have := HK1.out; have := HK2.out; omega
          case rel => exact ⟨(x5_2), (wrap64 (x37_2 + 1)), apC, apC, H', ⟨by have := HK1.out; have := HK2.out; omega⟩, ⟨by (with_reducible repeat (first | refine zB ?_ _ | refine zD ?_ | refine zC ?_ _)); refine blk_far ?_ NB345_351.out _; (with_reducible repeat (first | refine zB ?_ _ | refine zD ?_ | refine zC ?_ _)); refine blk_far ?_ NB345_351.out _; (with_reducible repeat (first | refine zB ?_ _ | refine zD ?_ | refine zC ?_ _)); refine blk_far ?_ NB345_351.out _; (with_reducible repeat (first | refine zB ?_ _ | refine zD ?_ | refine zC ?_ _)); refine blk_far ?_ NB345_351.out _; (with_reducible repeat (first | refine zB ?_ _ | refine zD ?_ | refine zC ?_ _)); refine blk_far ?_ NB345_351.out _; (with_reducible repeat (first | refine zB ?_ _ | refine zD ?_ | refine zC ?_ _)); refine blk_far ?_ NB345_351.out _; (with_reducible repeat (first | refine zB ?_ _ | refine zD ?_ | refine zC ?_ _)); exact BK345.out⟩, ⟨by repeat (first | (with_reducible first | exact HB.out | apply zG | apply zE | apply zF | refine zH ?_ GE345.out | refine zH ?_ GE351.out) | exact HB.out)⟩⟩
        ·rw [if_neg c28] at H
         exact absurd H (by simp)
       ·rw [if_neg c27] at H
        exact absurd H (by simp)
      ·rw [if_neg c26] at H
       have c26b0 : decide (x37_2 < (l0_4.length : Int)) = false := decide_eq_false c26
       clear c26
       obtain rfl := yG H
       go_wp2
       go_ret
       exact ⟨apD, apQ⟩


mutual
def spec_l12Plain.l0 : Nat → Int → Int → Int → Int → ByteArray → List (S34) → List ByteArray → Option (Bool)
 | 0, _, _, _, _, _, _, _ => none
 | k + 1, x3, x178000, x178001, x178002, x178003, x178004, x178005 => if x3 < (x178004.length : Int) then (if 0 ≤ x3 then (if ((rd_T34 x178004 x3).f0) = 6 then (spec_l12Plain.l1 k x3 0 x178000 x178001 x178002 x178003 x178004 x178005) else (some false)) else (none)) else (some true)
def spec_l12Plain.l1 : Nat → Int → Int → Int → Int → Int → ByteArray → List (S34) → List ByteArray → Option (Bool)
 | 0, _, _, _, _, _, _, _, _ => none
 | k + 1, x3, x4, x178000, x178001, x178002, x178003, x178004, x178005 => if 0 ≤ x3 then (if x3 < (x178004.length : Int) then (if x4 < (((rd_T34 x178004 x3).f3).length : Int) then (if 0 ≤ x4 then (if ((rd_T34 ((rd_T34 x178004 x3).f3) x4).f0) = 0 then (some false) else (if ((rd_T34 ((rd_T34 x178004 x3).f3) x4).f0) = 5 then (some false) else (if ((rd_T34 ((rd_T34 x178004 x3).f3) x4).f0) = 6 then (some false) else (spec_l12Plain.l1 k x3 (wrap64 (x4 + 1)) x178000 x178001 x178002 x178003 x178004 x178005)))) else (none)) else (spec_l12Plain.l0 k (wrap64 (x3 + 1)) x178000 x178001 x178002 x178003 x178004 x178005)) else (none)) else (none)
end
def spec_l12Plain.f (k : Nat) (a0_0 : Int) (a0_1 : Int) (a0_2 : Int) (a0_3 : ByteArray) (l0_4 : List (S34)) (l0_5 : List ByteArray) : Option (Bool) := if a0_0 = 6 then (spec_l12Plain.l0 k 0 a0_0 a0_1 a0_2 a0_3 l0_4 l0_5) else (some false)
theorem spec_l12Plain.mono_l : ∀ k, (∀ y0 y1 y2 y3 y4 y5 y6, LeO (spec_l12Plain.l0 k y0 y1 y2 y3 y4 y5 y6) (spec_l12Plain.l0 (k + 1) y0 y1 y2 y3 y4 y5 y6)) ∧ (∀ y0 y1 y2 y3 y4 y5 y6 y7, LeO (spec_l12Plain.l1 k y0 y1 y2 y3 y4 y5 y6 y7) (spec_l12Plain.l1 (k + 1) y0 y1 y2 y3 y4 y5 y6 y7))
 | 0 => ⟨fun _ _ _ _ _ _ _ r h => by simp [spec_l12Plain.l0] at h, fun _ _ _ _ _ _ _ _ r h => by simp [spec_l12Plain.l1] at h⟩
 | k + 1 => by
  obtain ⟨ih0, ih1⟩ := spec_l12Plain.mono_l k
  refine ⟨?_, ?_⟩
  ·intro y0 y1 y2 y3 y4 y5 y6
   unfold spec_l12Plain.l0
   repeat' first
   | (with_reducible exact ih0 _ _ _ _ _ _ _)
   | (with_reducible exact ih1 _ _ _ _ _ _ _ _)
   | (with_reducible exact LeO.refl _)
   | (with_reducible exact LeO.none _)
   | (with_reducible refine LeO.ite ?_ ?_)
   | (with_reducible refine LeO.bind ?_ (fun _ => ?_))
   | exact ih0 _ _ _ _ _ _ _
   | exact ih1 _ _ _ _ _ _ _ _
  ·intro y0 y1 y2 y3 y4 y5 y6 y7
   unfold spec_l12Plain.l1
   repeat' first
   | (with_reducible exact ih0 _ _ _ _ _ _ _)
   | (with_reducible exact ih1 _ _ _ _ _ _ _ _)
   | (with_reducible exact LeO.refl _)
   | (with_reducible exact LeO.none _)
   | (with_reducible refine LeO.ite ?_ ?_)
   | (with_reducible refine LeO.bind ?_ (fun _ => ?_))
   | exact ih0 _ _ _ _ _ _ _
   | exact ih1 _ _ _ _ _ _ _ _
theorem spec_l12Plain.mono : ∀ a0 a1 a2 a3 a4 a5 k, LeO (spec_l12Plain.f k a0 a1 a2 a3 a4 a5) (spec_l12Plain.f (k + 1) a0 a1 a2 a3 a4 a5) := by
 intro a0 a1 a2 a3 a4 a5 k
 obtain ⟨ih0, ih1⟩ := spec_l12Plain.mono_l k
 unfold spec_l12Plain.f
 repeat' first
   | (with_reducible exact ih0 _ _ _ _ _ _ _)
   | (with_reducible exact ih1 _ _ _ _ _ _ _ _)
   | (with_reducible exact LeO.refl _)
   | (with_reducible exact LeO.none _)
   | (with_reducible refine LeO.ite ?_ ?_)
   | (with_reducible refine LeO.bind ?_ (fun _ => ?_))
   | exact ih0 _ _ _ _ _ _ _
   | exact ih1 _ _ _ _ _ _ _ _
set_option maxHeartbeats 8000000 in
set_option maxRecDepth 100000 in
theorem spec_l12Plain.calls (k : Nat) (a0_0 : Int) (a0_1 : Int) (a0_2 : Int) (a0_3 : ByteArray) (A0_4 : Option Addr) (c0_4 : Nat) (l0_4 : List (S34)) (A0_5 : Option Addr) (c0_5 : Nat) (l0_5 : List ByteArray) (r : Bool) (w : World) (hr0_4 : Kd.C k34 w A0_4 l0_4.length l0_4) (hc0_4 : l0_4.length ≤ c0_4) (hr0_5 : Kd.C Kd.string w A0_5 l0_5.length l0_5) (hc0_5 : l0_5.length ≤ c0_5) (h : spec_l12Plain.f k a0_0 a0_1 a0_2 a0_3 l0_4 l0_5 = some r) :
  Calls Tryd.prog 12 #[.agg #[.int .i64 a0_0, .int .i64 a0_1, .int .i64 a0_2, .string a0_3, .slice A0_4 l0_4.length c0_4, .slice A0_5 l0_5.length c0_5]] w fun e w' => e = .returned (.bool r) ∧ Below w.heap.size w w' := by
 have hu34 := Tryd.underlying34
 have HR0_4 := zA hr0_4
 have HC0_4 := zA hc0_4
 clear hr0_4 hc0_4
 have HR0_5 := zA hr0_5
 have HC0_5 := zA hc0_5
 clear hr0_5 hc0_5
 have HB := zA (yH w.heap.size w)
 have H : (if a0_0 = 6 then (spec_l12Plain.l0 k 0 a0_0 a0_1 a0_2 a0_3 l0_4 l0_5) else (some false)) = some r := h
 clear h
 by_cases c2 : a0_0 = 6
 ·rw [if_pos c2] at H
  have c2b0 : (a0_0 == 6) = true := beq_iff_eq.mpr c2
  have c2b1 : (a0_0 != 6) = false := bne_eq_false_iff_eq.mpr c2
  clear c2
  have H' := zA H
  clear H
  go_enter Tryd.func12, Tryd.ntmps12
  go_wp2_with (first | ((with_reducible refine zS (N := 1) rfl ?_); refine zW ?hg (N := 1) ?hd (cs := #[.int .i64 a0_0, .int .i64 a0_1, .int .i64 a0_2, .string a0_3, .slice A0_4 l0_4.length c0_4, .slice A0_5 l0_5.length c0_5]) (t := 34) ?hr ?_; (case hd => rfl); (case hg => rfl); (case hr => first | (go_simp; done) | (go_simp; rfl)); intro gb177 hg w3 hbox hb; have BK177 := zA (hbox); have GW177 := zA ((by rw [hg]; exact (zQ apA) : w.heap.size ≤ gb177)); have GE177 := zA ((by rw [hg]; exact (zQ apA) : w.heap.size ≤ gb177)); replace HB := zA (zP apA hb); clear hb hbox hg; obtain ⟨hcz4_0, hcz4_1, hcz4_2, hcz4_3, hcz4_4, hcz4_5, hfz4_0, hfz4_1, hfz4_2, hfz4_3, hfz4_4, hfz4_5⟩ := zb6 BK177.out))
  go_loopg [3] k (fun kq v3 w' => ∃ (x3_1 : Int), v3 = .int .i64 x3_1 ∧ Aside0 (spec_l12Plain.l0 kq x3_1 a0_0 a0_1 a0_2 a0_3 l0_4 l0_5 = some r) ∧ Aside0 (kq ≤ k) ∧ Aside0 (w'.heap[gb177]? = some (.cells #[.int .i64 a0_0, .int .i64 a0_1, .int .i64 a0_2, .string a0_3, (.slice A0_4 l0_4.length c0_4), (.slice A0_5 l0_5.length c0_5)] 34 (0, 0))) ∧ Aside0 (Below w.heap.size w w'))
  case atStart => exact ⟨(0), apC, H', ⟨yJ _⟩, ⟨by (with_reducible repeat (first | refine zB ?_ _ | refine zD ?_ | refine zC ?_ _)); exact BK177.out⟩, ⟨apV⟩⟩
  case round =>
   clear H'
   try clear c1 c2 c2b0 c2b1 p2 hcz4_0 hcz4_1 hcz4_2 hcz4_3 hcz4_4 hcz4_5 hfz4_0 hfz4_1 hfz4_2 hfz4_3 hfz4_4 hfz4_5
   obtain ⟨x3_1, rfl, HA, HK1, BK177, HB⟩ := hrel
   cases gk with
   | zero => exact absurd HA.out (by simp [spec_l12Plain.l0])
   | succ k1 =>
    have H := HA.out
    clear HA
    simp only [spec_l12Plain.l0] at H
    by_cases c5 : x3_1 < (l0_4.length : Int)
    ·rw [if_pos c5] at H
     have c5b0 : decide (x3_1 < (l0_4.length : Int)) = true := yE c5
     clear c5
     by_cases c6 : 0 ≤ x3_1
     ·rw [if_pos c6] at H
      have c6b0 : decide (0 ≤ x3_1) = true := yE c6
      clear c6
      by_cases c7 : ((rd_T34 l0_4 x3_1).f0) = 6
      ·rw [if_pos c7] at H
       have c7b0 : (((rd_T34 l0_4 x3_1).f0) == 6) = true := beq_iff_eq.mpr c7
       have c7b1 : (((rd_T34 l0_4 x3_1).f0) != 6) = false := bne_eq_false_iff_eq.mpr c7
       clear c7
       have H' := zA H
       clear H
       obtain ⟨hcz8_0, hcz8_1, hcz8_2, hcz8_3, hcz8_4, hcz8_5, hfz8_0, hfz8_1, hfz8_2, hfz8_3, hfz8_4, hfz8_5⟩ := zb6 BK177.out
       have p178 : 0 ≤ (x3_1 : Int) := yF apB
       have q178 : x3_1 < (l0_4.length : Int) := yF apB
       obtain ⟨ad178, A178_4, c178_4, A178_5, c178_5, e178, hx178_0, hx178_1, hx178_2, hx178_3, hx178_4, hx178_5, hl178_4, hi178_4, hl178_5, hi178_5⟩ := at_T34 HR0_4.out x3_1 p178 q178
       cases e178
       replace hx178_0 := (HB.out.cell (zR w _ hx178_0)).trans hx178_0
       replace hx178_1 := (HB.out.cell (zR w _ hx178_1)).trans hx178_1
       replace hx178_2 := (HB.out.cell (zR w _ hx178_2)).trans hx178_2
       replace hx178_3 := (HB.out.cell (zR w _ hx178_3)).trans hx178_3
       replace hx178_4 := (HB.out.cell (zR w _ hx178_4)).trans hx178_4
       replace hx178_5 := (HB.out.cell (zR w _ hx178_5)).trans hx178_5
       have HR178_4 := zA hi178_4
       have HC178_4 := zA hl178_4
       clear hi178_4 hl178_4
       have HR178_5 := zA hi178_5
       have HC178_5 := zA hl178_5
       clear hi178_5 hl178_5
       replace p178 := eq_true p178
       replace q178 := eq_true q178
       go_wp2
       go_loopg [4] k1 (fun kq v4 w' => ∃ (x4_2 : Int), v4 = .int .i64 x4_2 ∧ Aside0 (spec_l12Plain.l1 kq x3_1 x4_2 a0_0 a0_1 a0_2 a0_3 l0_4 l0_5 = some r) ∧ Aside0 (kq ≤ k1) ∧ Aside0 (w'.heap[gb177]? = some (.cells #[.int .i64 a0_0, .int .i64 a0_1, .int .i64 a0_2, .string a0_3, (.slice (some ad178) l0_4.length c0_4), (.slice A0_5 l0_5.length c0_5)] 34 (0, 0))) ∧ Aside0 (Below w.heap.size w w'))
       case atStart => exact ⟨(0), apC, H', ⟨yJ _⟩, ⟨by (with_reducible repeat (first | refine zB ?_ _ | refine zD ?_ | refine zC ?_ _)); exact BK177.out⟩, ⟨apV⟩⟩
       case round =>
        clear H'
        try clear c1 p1 q1 hx1 c2 c2b0 c2b1 p2 c5 c5b0 c6 c6b0 c7 c7b0 c7b1 hcz4_0 hcz4_1 hcz4_2 hcz4_3 hcz4_4 hcz4_5 hcz8_0 hcz8_1 hcz8_2 hcz8_3 hcz8_4 hcz8_5 hfz4_0 hfz4_1 hfz4_2 hfz4_3 hfz4_4 hfz4_5 hfz8_0 hfz8_1 hfz8_2 hfz8_3 hfz8_4 hfz8_5 hx178_0 hx178_1 hx178_2 hx178_3 hx178_4 hx178_5 p178 p2 q178
        obtain ⟨x4_2, rfl, HA, HK2, BK177, HB⟩ := hrel
        cases gk with
        | zero => exact absurd HA.out (by simp [spec_l12Plain.l1])
        | succ k2 =>
         have H := HA.out
         clear HA
         simp only [spec_l12Plain.l1] at H
         by_cases c9 : 0 ≤ x3_1
         ·rw [if_pos c9] at H
          have c9b0 : decide (0 ≤ x3_1) = true := yE c9
          clear c9
          by_cases c10 : x3_1 < (l0_4.length : Int)
          ·rw [if_pos c10] at H
           have c10b0 : decide (x3_1 < (l0_4.length : Int)) = true := yE c10
           clear c10
           by_cases c11 : x4_2 < (((rd_T34 l0_4 x3_1).f3).length : Int)
           ·rw [if_pos c11] at H
            have c11b0 : decide (x4_2 < (((rd_T34 l0_4 x3_1).f3).length : Int)) = true := yE c11
            clear c11
            by_cases c12 : 0 ≤ x4_2
            ·rw [if_pos c12] at H
             have c12b0 : decide (0 ≤ x4_2) = true := yE c12
             clear c12
             by_cases c13 : ((rd_T34 ((rd_T34 l0_4 x3_1).f3) x4_2).f0) = 0
             ·rw [if_pos c13] at H
              have c13b0 : (((rd_T34 ((rd_T34 l0_4 x3_1).f3) x4_2).f0) == 0) = true := beq_iff_eq.mpr c13
              have c13b1 : (((rd_T34 ((rd_T34 l0_4 x3_1).f3) x4_2).f0) != 0) = false := bne_eq_false_iff_eq.mpr c13
              clear c13
              obtain rfl := yG H
              obtain ⟨hcz14_0, hcz14_1, hcz14_2, hcz14_3, hcz14_4, hcz14_5, hfz14_0, hfz14_1, hfz14_2, hfz14_3, hfz14_4, hfz14_5⟩ := zb6 BK177.out
              have p179 : 0 ≤ (x3_1 : Int) := yF apB
              have q179 : x3_1 < (l0_4.length : Int) := yF apB
              obtain ⟨ad179, A179_4, c179_4, A179_5, c179_5, e179, hx179_0, hx179_1, hx179_2, hx179_3, hx179_4, hx179_5, hl179_4, hi179_4, hl179_5, hi179_5⟩ := at_T34 HR0_4.out x3_1 p179 q179
              obtain rfl : ad178 = ad179 := (by injection e179)
              replace hx179_0 := (HB.out.cell (zR w _ hx179_0)).trans hx179_0
              replace hx179_1 := (HB.out.cell (zR w _ hx179_1)).trans hx179_1
              replace hx179_2 := (HB.out.cell (zR w _ hx179_2)).trans hx179_2
              replace hx179_3 := (HB.out.cell (zR w _ hx179_3)).trans hx179_3
              replace hx179_4 := (HB.out.cell (zR w _ hx179_4)).trans hx179_4
              replace hx179_5 := (HB.out.cell (zR w _ hx179_5)).trans hx179_5
              have HR179_4 := zA hi179_4
              have HC179_4 := zA hl179_4
              clear hi179_4 hl179_4
              have HR179_5 := zA hi179_5
              have HC179_5 := zA hl179_5
              clear hi179_5 hl179_5
              replace p179 := eq_true p179
              replace q179 := eq_true q179
              have p180 : 0 ≤ (x3_1 : Int) := yF apB
              have q180 : x3_1 < (l0_4.length : Int) := yF apB
              obtain ⟨ad180, A180_4, c180_4, A180_5, c180_5, e180, hx180_0, hx180_1, hx180_2, hx180_3, hx180_4, hx180_5, hl180_4, hi180_4, hl180_5, hi180_5⟩ := at_T34 HR0_4.out x3_1 p180 q180
              obtain rfl : ad178 = ad180 := (by injection e180)
              replace hx180_0 := (HB.out.cell (zR w _ hx180_0)).trans hx180_0
              replace hx180_1 := (HB.out.cell (zR w _ hx180_1)).trans hx180_1
              replace hx180_2 := (HB.out.cell (zR w _ hx180_2)).trans hx180_2
              replace hx180_3 := (HB.out.cell (zR w _ hx180_3)).trans hx180_3
              replace hx180_4 := (HB.out.cell (zR w _ hx180_4)).trans hx180_4
              replace hx180_5 := (HB.out.cell (zR w _ hx180_5)).trans hx180_5
              have HR180_4 := zA hi180_4
              have HC180_4 := zA hl180_4
              clear hi180_4 hl180_4
              have HR180_5 := zA hi180_5
              have HC180_5 := zA hl180_5
              clear hi180_5 hl180_5
              replace p180 := eq_true p180
              replace q180 := eq_true q180
              have ea_ := yG (hx179_4.symm.trans hx180_4)
              injection ea_ with ea_ en_ ec_
              subst ea_
              subst ec_
              clear en_
              have ea_ := yG (hx179_5.symm.trans hx180_5)
              injection ea_ with ea_ en_ ec_
              subst ea_
              subst ec_
              clear en_
              have p181 : 0 ≤ (x4_2 : Int) := yF apB
              have q181 : x4_2 < (((rd_T34 l0_4 x3_1).f3).length : Int) := yF apB
              obtain ⟨ad181, A181_4, c181_4, A181_5, c181_5, e181, hx181_0, hx181_1, hx181_2, hx181_3, hx181_4, hx181_5, hl181_4, hi181_4, hl181_5, hi181_5⟩ := at_T34 HR180_4.out x4_2 p181 q181
              cases e181
              replace hx181_0 := (HB.out.cell (zR w _ hx181_0)).trans hx181_0
              replace hx181_1 := (HB.out.cell (zR w _ hx181_1)).trans hx181_1
              replace hx181_2 := (HB.out.cell (zR w _ hx181_2)).trans hx181_2
              replace hx181_3 := (HB.out.cell (zR w _ hx181_3)).trans hx181_3
              replace hx181_4 := (HB.out.cell (zR w _ hx181_4)).trans hx181_4
              replace hx181_5 := (HB.out.cell (zR w _ hx181_5)).trans hx181_5
              have HR181_4 := zA hi181_4
              have HC181_4 := zA hl181_4
              clear hi181_4 hl181_4
              have HR181_5 := zA hi181_5
              have HC181_5 := zA hl181_5
              clear hi181_5 hl181_5
              replace p181 := eq_true p181
              replace q181 := eq_true q181
              go_wp2
              go_ret
              exact ⟨apD, apV⟩
             ·rw [if_neg c13] at H
              have c13b0 : (((rd_T34 ((rd_T34 l0_4 x3_1).f3) x4_2).f0) == 0) = false := beq_eq_false_iff_ne.mpr c13
              have c13b1 : (((rd_T34 ((rd_T34 l0_4 x3_1).f3) x4_2).f0) != 0) = true := bne_iff_ne.mpr c13
              by_cases c15 : ((rd_T34 ((rd_T34 l0_4 x3_1).f3) x4_2).f0) = 5
              ·rw [if_pos c15] at H
               have c15b0 : (((rd_T34 ((rd_T34 l0_4 x3_1).f3) x4_2).f0) == 5) = true := beq_iff_eq.mpr c15
               have c15b1 : (((rd_T34 ((rd_T34 l0_4 x3_1).f3) x4_2).f0) != 5) = false := bne_eq_false_iff_eq.mpr c15
               clear c15
               obtain rfl := yG H
               obtain ⟨hcz16_0, hcz16_1, hcz16_2, hcz16_3, hcz16_4, hcz16_5, hfz16_0, hfz16_1, hfz16_2, hfz16_3, hfz16_4, hfz16_5⟩ := zb6 BK177.out
               have p179 : 0 ≤ (x3_1 : Int) := yF apB
               have q179 : x3_1 < (l0_4.length : Int) := yF apB
               obtain ⟨ad179, A179_4, c179_4, A179_5, c179_5, e179, hx179_0, hx179_1, hx179_2, hx179_3, hx179_4, hx179_5, hl179_4, hi179_4, hl179_5, hi179_5⟩ := at_T34 HR0_4.out x3_1 p179 q179
               obtain rfl : ad178 = ad179 := (by injection e179)
               replace hx179_0 := (HB.out.cell (zR w _ hx179_0)).trans hx179_0
               replace hx179_1 := (HB.out.cell (zR w _ hx179_1)).trans hx179_1
               replace hx179_2 := (HB.out.cell (zR w _ hx179_2)).trans hx179_2
               replace hx179_3 := (HB.out.cell (zR w _ hx179_3)).trans hx179_3
               replace hx179_4 := (HB.out.cell (zR w _ hx179_4)).trans hx179_4
               replace hx179_5 := (HB.out.cell (zR w _ hx179_5)).trans hx179_5
               have HR179_4 := zA hi179_4
               have HC179_4 := zA hl179_4
               clear hi179_4 hl179_4
               have HR179_5 := zA hi179_5
               have HC179_5 := zA hl179_5
               clear hi179_5 hl179_5
               replace p179 := eq_true p179
               replace q179 := eq_true q179
               have p180 : 0 ≤ (x3_1 : Int) := yF apB
               have q180 : x3_1 < (l0_4.length : Int) := yF apB
               obtain ⟨ad180, A180_4, c180_4, A180_5, c180_5, e180, hx180_0, hx180_1, hx180_2, hx180_3, hx180_4, hx180_5, hl180_4, hi180_4, hl180_5, hi180_5⟩ := at_T34 HR0_4.out x3_1 p180 q180
               obtain rfl : ad178 = ad180 := (by injection e180)
               replace hx180_0 := (HB.out.cell (zR w _ hx180_0)).trans hx180_0
               replace hx180_1 := (HB.out.cell (zR w _ hx180_1)).trans hx180_1
               replace hx180_2 := (HB.out.cell (zR w _ hx180_2)).trans hx180_2
               replace hx180_3 := (HB.out.cell (zR w _ hx180_3)).trans hx180_3
               replace hx180_4 := (HB.out.cell (zR w _ hx180_4)).trans hx180_4
               replace hx180_5 := (HB.out.cell (zR w _ hx180_5)).trans hx180_5
               have HR180_4 := zA hi180_4
               have HC180_4 := zA hl180_4
               clear hi180_4 hl180_4
               have HR180_5 := zA hi180_5
               have HC180_5 := zA hl180_5
               clear hi180_5 hl180_5
               replace p180 := eq_true p180
               replace q180 := eq_true q180
               have ea_ := yG (hx179_4.symm.trans hx180_4)
               injection ea_ with ea_ en_ ec_
               subst ea_
               subst ec_
               clear en_
               have ea_ := yG (hx179_5.symm.trans hx180_5)
               injection ea_ with ea_ en_ ec_
               subst ea_
               subst ec_
               clear en_
               have p181 : 0 ≤ (x4_2 : Int) := yF apB
               have q181 : x4_2 < (((rd_T34 l0_4 x3_1).f3).length : Int) := yF apB
               obtain ⟨ad181, A181_4, c181_4, A181_5, c181_5, e181, hx181_0, hx181_1, hx181_2, hx181_3, hx181_4, hx181_5, hl181_4, hi181_4, hl181_5, hi181_5⟩ := at_T34 HR180_4.out x4_2 p181 q181
               cases e181
               replace hx181_0 := (HB.out.cell (zR w _ hx181_0)).trans hx181_0
               replace hx181_1 := (HB.out.cell (zR w _ hx181_1)).trans hx181_1
               replace hx181_2 := (HB.out.cell (zR w _ hx181_2)).trans hx181_2
               replace hx181_3 := (HB.out.cell (zR w _ hx181_3)).trans hx181_3
               replace hx181_4 := (HB.out.cell (zR w _ hx181_4)).trans hx181_4
               replace hx181_5 := (HB.out.cell (zR w _ hx181_5)).trans hx181_5
               have HR181_4 := zA hi181_4
               have HC181_4 := zA hl181_4
               clear hi181_4 hl181_4
               have HR181_5 := zA hi181_5
               have HC181_5 := zA hl181_5
               clear hi181_5 hl181_5
               replace p181 := eq_true p181
               replace q181 := eq_true q181
               go_wp2
               go_ret
               exact ⟨apD, apV⟩
              ·rw [if_neg c15] at H
               have c15b0 : (((rd_T34 ((rd_T34 l0_4 x3_1).f3) x4_2).f0) == 5) = false := beq_eq_false_iff_ne.mpr c15
               have c15b1 : (((rd_T34 ((rd_T34 l0_4 x3_1).f3) x4_2).f0) != 5) = true := bne_iff_ne.mpr c15
               by_cases c17 : ((rd_T34 ((rd_T34 l0_4 x3_1).f3) x4_2).f0) = 6
               ·rw [if_pos c17] at H
                have c17b0 : (((rd_T34 ((rd_T34 l0_4 x3_1).f3) x4_2).f0) == 6) = true := beq_iff_eq.mpr c17
                have c17b1 : (((rd_T34 ((rd_T34 l0_4 x3_1).f3) x4_2).f0) != 6) = false := bne_eq_false_iff_eq.mpr c17
                clear c17
                obtain rfl := yG H
                obtain ⟨hcz18_0, hcz18_1, hcz18_2, hcz18_3, hcz18_4, hcz18_5, hfz18_0, hfz18_1, hfz18_2, hfz18_3, hfz18_4, hfz18_5⟩ := zb6 BK177.out
                have p179 : 0 ≤ (x3_1 : Int) := yF apB
                have q179 : x3_1 < (l0_4.length : Int) := yF apB
                obtain ⟨ad179, A179_4, c179_4, A179_5, c179_5, e179, hx179_0, hx179_1, hx179_2, hx179_3, hx179_4, hx179_5, hl179_4, hi179_4, hl179_5, hi179_5⟩ := at_T34 HR0_4.out x3_1 p179 q179
                obtain rfl : ad178 = ad179 := (by injection e179)
                replace hx179_0 := (HB.out.cell (zR w _ hx179_0)).trans hx179_0
                replace hx179_1 := (HB.out.cell (zR w _ hx179_1)).trans hx179_1
                replace hx179_2 := (HB.out.cell (zR w _ hx179_2)).trans hx179_2
                replace hx179_3 := (HB.out.cell (zR w _ hx179_3)).trans hx179_3
                replace hx179_4 := (HB.out.cell (zR w _ hx179_4)).trans hx179_4
                replace hx179_5 := (HB.out.cell (zR w _ hx179_5)).trans hx179_5
                have HR179_4 := zA hi179_4
                have HC179_4 := zA hl179_4
                clear hi179_4 hl179_4
                have HR179_5 := zA hi179_5
                have HC179_5 := zA hl179_5
                clear hi179_5 hl179_5
                replace p179 := eq_true p179
                replace q179 := eq_true q179
                have p180 : 0 ≤ (x3_1 : Int) := yF apB
                have q180 : x3_1 < (l0_4.length : Int) := yF apB
                obtain ⟨ad180, A180_4, c180_4, A180_5, c180_5, e180, hx180_0, hx180_1, hx180_2, hx180_3, hx180_4, hx180_5, hl180_4, hi180_4, hl180_5, hi180_5⟩ := at_T34 HR0_4.out x3_1 p180 q180
                obtain rfl : ad178 = ad180 := (by injection e180)
                replace hx180_0 := (HB.out.cell (zR w _ hx180_0)).trans hx180_0
                replace hx180_1 := (HB.out.cell (zR w _ hx180_1)).trans hx180_1
                replace hx180_2 := (HB.out.cell (zR w _ hx180_2)).trans hx180_2
                replace hx180_3 := (HB.out.cell (zR w _ hx180_3)).trans hx180_3
                replace hx180_4 := (HB.out.cell (zR w _ hx180_4)).trans hx180_4
                replace hx180_5 := (HB.out.cell (zR w _ hx180_5)).trans hx180_5
                have HR180_4 := zA hi180_4
                have HC180_4 := zA hl180_4
                clear hi180_4 hl180_4
                have HR180_5 := zA hi180_5
                have HC180_5 := zA hl180_5
                clear hi180_5 hl180_5
                replace p180 := eq_true p180
                replace q180 := eq_true q180
                have ea_ := yG (hx179_4.symm.trans hx180_4)
                injection ea_ with ea_ en_ ec_
                subst ea_
                subst ec_
                clear en_
                have ea_ := yG (hx179_5.symm.trans hx180_5)
                injection ea_ with ea_ en_ ec_
                subst ea_
                subst ec_
                clear en_
                have p181 : 0 ≤ (x4_2 : Int) := yF apB
                have q181 : x4_2 < (((rd_T34 l0_4 x3_1).f3).length : Int) := yF apB
                obtain ⟨ad181, A181_4, c181_4, A181_5, c181_5, e181, hx181_0, hx181_1, hx181_2, hx181_3, hx181_4, hx181_5, hl181_4, hi181_4, hl181_5, hi181_5⟩ := at_T34 HR180_4.out x4_2 p181 q181
                cases e181
                replace hx181_0 := (HB.out.cell (zR w _ hx181_0)).trans hx181_0
                replace hx181_1 := (HB.out.cell (zR w _ hx181_1)).trans hx181_1
                replace hx181_2 := (HB.out.cell (zR w _ hx181_2)).trans hx181_2
                replace hx181_3 := (HB.out.cell (zR w _ hx181_3)).trans hx181_3
                replace hx181_4 := (HB.out.cell (zR w _ hx181_4)).trans hx181_4
                replace hx181_5 := (HB.out.cell (zR w _ hx181_5)).trans hx181_5
                have HR181_4 := zA hi181_4
                have HC181_4 := zA hl181_4
                clear hi181_4 hl181_4
                have HR181_5 := zA hi181_5
                have HC181_5 := zA hl181_5
                clear hi181_5 hl181_5
                replace p181 := eq_true p181
                replace q181 := eq_true q181
                go_wp2
                go_ret
                exact ⟨apD, apV⟩
               ·rw [if_neg c17] at H
                have c17b0 : (((rd_T34 ((rd_T34 l0_4 x3_1).f3) x4_2).f0) == 6) = false := beq_eq_false_iff_ne.mpr c17
                have c17b1 : (((rd_T34 ((rd_T34 l0_4 x3_1).f3) x4_2).f0) != 6) = true := bne_iff_ne.mpr c17
                have H' := zA H
                clear H
                obtain ⟨hcz19_0, hcz19_1, hcz19_2, hcz19_3, hcz19_4, hcz19_5, hfz19_0, hfz19_1, hfz19_2, hfz19_3, hfz19_4, hfz19_5⟩ := zb6 BK177.out
                have p179 : 0 ≤ (x3_1 : Int) := yF apB
                have q179 : x3_1 < (l0_4.length : Int) := yF apB
                obtain ⟨ad179, A179_4, c179_4, A179_5, c179_5, e179, hx179_0, hx179_1, hx179_2, hx179_3, hx179_4, hx179_5, hl179_4, hi179_4, hl179_5, hi179_5⟩ := at_T34 HR0_4.out x3_1 p179 q179
                obtain rfl : ad178 = ad179 := (by injection e179)
                replace hx179_0 := (HB.out.cell (zR w _ hx179_0)).trans hx179_0
                replace hx179_1 := (HB.out.cell (zR w _ hx179_1)).trans hx179_1
                replace hx179_2 := (HB.out.cell (zR w _ hx179_2)).trans hx179_2
                replace hx179_3 := (HB.out.cell (zR w _ hx179_3)).trans hx179_3
                replace hx179_4 := (HB.out.cell (zR w _ hx179_4)).trans hx179_4
                replace hx179_5 := (HB.out.cell (zR w _ hx179_5)).trans hx179_5
                have HR179_4 := zA hi179_4
                have HC179_4 := zA hl179_4
                clear hi179_4 hl179_4
                have HR179_5 := zA hi179_5
                have HC179_5 := zA hl179_5
                clear hi179_5 hl179_5
                replace p179 := eq_true p179
                replace q179 := eq_true q179
                have p180 : 0 ≤ (x3_1 : Int) := yF apB
                have q180 : x3_1 < (l0_4.length : Int) := yF apB
                obtain ⟨ad180, A180_4, c180_4, A180_5, c180_5, e180, hx180_0, hx180_1, hx180_2, hx180_3, hx180_4, hx180_5, hl180_4, hi180_4, hl180_5, hi180_5⟩ := at_T34 HR0_4.out x3_1 p180 q180
                obtain rfl : ad178 = ad180 := (by injection e180)
                replace hx180_0 := (HB.out.cell (zR w _ hx180_0)).trans hx180_0
                replace hx180_1 := (HB.out.cell (zR w _ hx180_1)).trans hx180_1
                replace hx180_2 := (HB.out.cell (zR w _ hx180_2)).trans hx180_2
                replace hx180_3 := (HB.out.cell (zR w _ hx180_3)).trans hx180_3
                replace hx180_4 := (HB.out.cell (zR w _ hx180_4)).trans hx180_4
                replace hx180_5 := (HB.out.cell (zR w _ hx180_5)).trans hx180_5
                have HR180_4 := zA hi180_4
                have HC180_4 := zA hl180_4
                clear hi180_4 hl180_4
                have HR180_5 := zA hi180_5
                have HC180_5 := zA hl180_5
                clear hi180_5 hl180_5
                replace p180 := eq_true p180
                replace q180 := eq_true q180
                have ea_ := yG (hx179_4.symm.trans hx180_4)
                injection ea_ with ea_ en_ ec_
                subst ea_
                subst ec_
                clear en_
                have ea_ := yG (hx179_5.symm.trans hx180_5)
                injection ea_ with ea_ en_ ec_
                subst ea_
                subst ec_
                clear en_
                have p181 : 0 ≤ (x4_2 : Int) := yF apB
                have q181 : x4_2 < (((rd_T34 l0_4 x3_1).f3).length : Int) := yF apB
                obtain ⟨ad181, A181_4, c181_4, A181_5, c181_5, e181, hx181_0, hx181_1, hx181_2, hx181_3, hx181_4, hx181_5, hl181_4, hi181_4, hl181_5, hi181_5⟩ := at_T34 HR180_4.out x4_2 p181 q181
                cases e181
                replace hx181_0 := (HB.out.cell (zR w _ hx181_0)).trans hx181_0
                replace hx181_1 := (HB.out.cell (zR w _ hx181_1)).trans hx181_1
                replace hx181_2 := (HB.out.cell (zR w _ hx181_2)).trans hx181_2
                replace hx181_3 := (HB.out.cell (zR w _ hx181_3)).trans hx181_3
                replace hx181_4 := (HB.out.cell (zR w _ hx181_4)).trans hx181_4
                replace hx181_5 := (HB.out.cell (zR w _ hx181_5)).trans hx181_5
                have HR181_4 := zA hi181_4
                have HC181_4 := zA hl181_4
                clear hi181_4 hl181_4
                have HR181_5 := zA hi181_5
                have HC181_5 := zA hl181_5
                clear hi181_5 hl181_5
                replace p181 := eq_true p181
                replace q181 := eq_true q181
                go_wp2
                go_roundg k2
                case measure => have := HK1.out; have := HK2.out; omega
                case rel => exact ⟨(wrap64 (x4_2 + 1)), apC, H', ⟨by have := HK1.out; have := HK2.out; omega⟩, ⟨by (with_reducible repeat (first | refine zB ?_ _ | refine zD ?_ | refine zC ?_ _)); exact BK177.out⟩, ⟨apV⟩⟩
            ·rw [if_neg c12] at H
             exact absurd H (by simp)
           ·rw [if_neg c11] at H
            have c11b0 : decide (x4_2 < (((rd_T34 l0_4 x3_1).f3).length : Int)) = false := decide_eq_false c11
            clear c11
            have H' := zA H
            clear H
            obtain ⟨hcz20_0, hcz20_1, hcz20_2, hcz20_3, hcz20_4, hcz20_5, hfz20_0, hfz20_1, hfz20_2, hfz20_3, hfz20_4, hfz20_5⟩ := zb6 BK177.out
            have p179 : 0 ≤ (x3_1 : Int) := yF apB
            have q179 : x3_1 < (l0_4.length : Int) := yF apB
            obtain ⟨ad179, A179_4, c179_4, A179_5, c179_5, e179, hx179_0, hx179_1, hx179_2, hx179_3, hx179_4, hx179_5, hl179_4, hi179_4, hl179_5, hi179_5⟩ := at_T34 HR0_4.out x3_1 p179 q179
            obtain rfl : ad178 = ad179 := (by injection e179)
            replace hx179_0 := (HB.out.cell (zR w _ hx179_0)).trans hx179_0
            replace hx179_1 := (HB.out.cell (zR w _ hx179_1)).trans hx179_1
            replace hx179_2 := (HB.out.cell (zR w _ hx179_2)).trans hx179_2
            replace hx179_3 := (HB.out.cell (zR w _ hx179_3)).trans hx179_3
            replace hx179_4 := (HB.out.cell (zR w _ hx179_4)).trans hx179_4
            replace hx179_5 := (HB.out.cell (zR w _ hx179_5)).trans hx179_5
            have HR179_4 := zA hi179_4
            have HC179_4 := zA hl179_4
            clear hi179_4 hl179_4
            have HR179_5 := zA hi179_5
            have HC179_5 := zA hl179_5
            clear hi179_5 hl179_5
            replace p179 := eq_true p179
            replace q179 := eq_true q179
            go_wp2
            go_roundg k2
            case measure => have := HK1.out; have := HK2.out; omega
            case rel => exact ⟨(wrap64 (x3_1 + 1)), apC, H', ⟨by have := HK1.out; have := HK2.out; omega⟩, ⟨by (with_reducible repeat (first | refine zB ?_ _ | refine zD ?_ | refine zC ?_ _)); exact BK177.out⟩, ⟨apV⟩⟩
          ·rw [if_neg c10] at H
           exact absurd H (by simp)
         ·rw [if_neg c9] at H
          exact absurd H (by simp)
      ·rw [if_neg c7] at H
       have c7b0 : (((rd_T34 l0_4 x3_1).f0) == 6) = false := beq_eq_false_iff_ne.mpr c7
       have c7b1 : (((rd_T34 l0_4 x3_1).f0) != 6) = true := bne_iff_ne.mpr c7
       obtain rfl := yG H
       obtain ⟨hcz21_0, hcz21_1, hcz21_2, hcz21_3, hcz21_4, hcz21_5, hfz21_0, hfz21_1, hfz21_2, hfz21_3, hfz21_4, hfz21_5⟩ := zb6 BK177.out
       have p178 : 0 ≤ (x3_1 : Int) := yF apB
       have q178 : x3_1 < (l0_4.length : Int) := yF apB
       obtain ⟨ad178, A178_4, c178_4, A178_5, c178_5, e178, hx178_0, hx178_1, hx178_2, hx178_3, hx178_4, hx178_5, hl178_4, hi178_4, hl178_5, hi178_5⟩ := at_T34 HR0_4.out x3_1 p178 q178
       cases e178
       replace hx178_0 := (HB.out.cell (zR w _ hx178_0)).trans hx178_0
       replace hx178_1 := (HB.out.cell (zR w _ hx178_1)).trans hx178_1
       replace hx178_2 := (HB.out.cell (zR w _ hx178_2)).trans hx178_2
       replace hx178_3 := (HB.out.cell (zR w _ hx178_3)).trans hx178_3
       replace hx178_4 := (HB.out.cell (zR w _ hx178_4)).trans hx178_4
       replace hx178_5 := (HB.out.cell (zR w _ hx178_5)).trans hx178_5
       have HR178_4 := zA hi178_4
       have HC178_4 := zA hl178_4
       clear hi178_4 hl178_4
       have HR178_5 := zA hi178_5
       have HC178_5 := zA hl178_5
       clear hi178_5 hl178_5
       replace p178 := eq_true p178
       replace q178 := eq_true q178
       go_wp2
       go_ret
       exact ⟨apD, apV⟩
     ·rw [if_neg c6] at H
      exact absurd H (by simp)
    ·rw [if_neg c5] at H
     have c5b0 : decide (x3_1 < (l0_4.length : Int)) = false := decide_eq_false c5
     clear c5
     obtain rfl := yG H
     obtain ⟨hcz22_0, hcz22_1, hcz22_2, hcz22_3, hcz22_4, hcz22_5, hfz22_0, hfz22_1, hfz22_2, hfz22_3, hfz22_4, hfz22_5⟩ := zb6 BK177.out
     go_wp2
     go_ret
     exact ⟨apD, apV⟩
 ·rw [if_neg c2] at H
  have c2b0 : (a0_0 == 6) = false := beq_eq_false_iff_ne.mpr c2
  have c2b1 : (a0_0 != 6) = true := bne_iff_ne.mpr c2
  obtain rfl := yG H
  go_enter Tryd.func12, Tryd.ntmps12
  go_wp2_with (first | ((with_reducible refine zS (N := 1) rfl ?_); refine zW ?hg (N := 1) ?hd (cs := #[.int .i64 a0_0, .int .i64 a0_1, .int .i64 a0_2, .string a0_3, .slice A0_4 l0_4.length c0_4, .slice A0_5 l0_5.length c0_5]) (t := 34) ?hr ?_; (case hd => rfl); (case hg => rfl); (case hr => first | (go_simp; done) | (go_simp; rfl)); intro gb177 hg w23 hbox hb; have BK177 := zA (hbox); have GW177 := zA ((by rw [hg]; exact (zQ apA) : w.heap.size ≤ gb177)); have GE177 := zA ((by rw [hg]; exact (zQ apA) : w.heap.size ≤ gb177)); replace HB := zA (zP apA hb); clear hb hbox hg; obtain ⟨hcz24_0, hcz24_1, hcz24_2, hcz24_3, hcz24_4, hcz24_5, hfz24_0, hfz24_1, hfz24_2, hfz24_3, hfz24_4, hfz24_5⟩ := zb6 BK177.out))
  go_ret
  exact ⟨apD, apV⟩


def spec_IniPut.f (k : Nat) (a0_0 : Int) (a0_1 : Int) (a0_2 : Int) (a0_3 : ByteArray) (l0_4 : List (S34)) (l0_5 : List ByteArray) : Option (ByteArray × Bool) := (spec_ValueOk.f k a0_0 a0_1 a0_2 a0_3 l0_4 l0_5).bind fun t230 => (if t230 = true then ((spec_l12Plain.f k a0_0 a0_1 a0_2 a0_3 l0_4 l0_5).bind fun t231 => (if t231 = true then ((spec_l12Toml.f k a0_0 a0_1 a0_2 a0_3 l0_4 l0_5 (⟨#[]⟩ : ByteArray)).bind fun t232 => (some (t232, true))) else (some ((⟨#[]⟩ : ByteArray), false)))) else (some ((⟨#[]⟩ : ByteArray), false)))
theorem spec_IniPut.mono : ∀ a0 a1 a2 a3 a4 a5 k, LeO (spec_IniPut.f k a0 a1 a2 a3 a4 a5) (spec_IniPut.f (k + 1) a0 a1 a2 a3 a4 a5) := by
 intro a0 a1 a2 a3 a4 a5 k
 unfold spec_IniPut.f
 repeat' first
   | (with_reducible exact spec_ValueOk.mono _ _ _ _ _ _ _)
   | (with_reducible exact spec_l12Plain.mono _ _ _ _ _ _ _)
   | (with_reducible exact spec_l12Toml.mono _ _ _ _ _ _ _ _)
   | (with_reducible exact LeO.refl _)
   | (with_reducible exact LeO.none _)
   | (with_reducible refine LeO.ite ?_ ?_)
   | (with_reducible refine LeO.bind ?_ (fun _ => ?_))
set_option maxHeartbeats 8000000 in
set_option maxRecDepth 100000 in
theorem spec_IniPut.calls (k : Nat) (a0_0 : Int) (a0_1 : Int) (a0_2 : Int) (a0_3 : ByteArray) (A0_4 : Option Addr) (c0_4 : Nat) (l0_4 : List (S34)) (A0_5 : Option Addr) (c0_5 : Nat) (l0_5 : List ByteArray) (r1 : ByteArray) (r2 : Bool) (w : World) (hr0_4 : Kd.C k34 w A0_4 l0_4.length l0_4) (hc0_4 : l0_4.length ≤ c0_4) (hr0_5 : Kd.C Kd.string w A0_5 l0_5.length l0_5) (hc0_5 : l0_5.length ≤ c0_5) (h : spec_IniPut.f k a0_0 a0_1 a0_2 a0_3 l0_4 l0_5 = some (r1, r2)) :
  Calls Tryd.prog 5 #[.agg #[.int .i64 a0_0, .int .i64 a0_1, .int .i64 a0_2, .string a0_3, .slice A0_4 l0_4.length c0_4, .slice A0_5 l0_5.length c0_5]] w fun e w' => e = .returned (.tuple #[.string r1, .bool r2]) ∧ Below w.heap.size w w' := by
 have hu34 := Tryd.underlying34
 have HR0_4 := zA hr0_4
 have HC0_4 := zA hc0_4
 clear hr0_4 hc0_4
 have HR0_5 := zA hr0_5
 have HC0_5 := zA hc0_5
 clear hr0_5 hc0_5
 have HB := zA (yH w.heap.size w)
 have H : ((spec_ValueOk.f k a0_0 a0_1 a0_2 a0_3 l0_4 l0_5).bind fun t230 => (if t230 = true then ((spec_l12Plain.f k a0_0 a0_1 a0_2 a0_3 l0_4 l0_5).bind fun t231 => (if t231 = true then ((spec_l12Toml.f k a0_0 a0_1 a0_2 a0_3 l0_4 l0_5 (⟨#[]⟩ : ByteArray)).bind fun t232 => (some (t232, true))) else (some ((⟨#[]⟩ : ByteArray), false)))) else (some ((⟨#[]⟩ : ByteArray), false)))) = some (r1, r2) := h
 clear h
 replace H := Option.bind_eq_some_iff.mp H
 obtain ⟨t230, A20, H⟩ := H
 replace H : (if t230 = true then ((spec_l12Plain.f k a0_0 a0_1 a0_2 a0_3 l0_4 l0_5).bind fun t231 => (if t231 = true then ((spec_l12Toml.f k a0_0 a0_1 a0_2 a0_3 l0_4 l0_5 (⟨#[]⟩ : ByteArray)).bind fun t232 => (some (t232, true))) else (some ((⟨#[]⟩ : ByteArray), false)))) else (some ((⟨#[]⟩ : ByteArray), false))) = some (r1, r2) := H
 have A2 := zA A20
 clear A20
 by_cases c3 : t230 = true
 ·subst c3
  have H1 : ((spec_l12Plain.f k a0_0 a0_1 a0_2 a0_3 l0_4 l0_5).bind fun t231 => (if t231 = true then ((spec_l12Toml.f k a0_0 a0_1 a0_2 a0_3 l0_4 l0_5 (⟨#[]⟩ : ByteArray)).bind fun t232 => (some (t232, true))) else (some ((⟨#[]⟩ : ByteArray), false)))) = some (r1, r2) := by rw [if_pos rfl] at H; exact H
  clear H
  have H := H1
  clear H1
  replace H := Option.bind_eq_some_iff.mp H
  obtain ⟨t231, A40, H⟩ := H
  replace H : (if t231 = true then ((spec_l12Toml.f k a0_0 a0_1 a0_2 a0_3 l0_4 l0_5 (⟨#[]⟩ : ByteArray)).bind fun t232 => (some (t232, true))) else (some ((⟨#[]⟩ : ByteArray), false))) = some (r1, r2) := H
  have A4 := zA A40
  clear A40
  by_cases c5 : t231 = true
  ·subst c5
   have H1 : ((spec_l12Toml.f k a0_0 a0_1 a0_2 a0_3 l0_4 l0_5 (⟨#[]⟩ : ByteArray)).bind fun t232 => (some (t232, true))) = some (r1, r2) := by rw [if_pos rfl] at H; exact H
   clear H
   have H := H1
   clear H1
   replace H := Option.bind_eq_some_iff.mp H
   obtain ⟨t232, A60, H⟩ := H
   replace H : (some (t232, true)) = some (r1, r2) := H
   have A6 := zA A60
   clear A60
   simp only [Option.some.injEq, Prod.mk.injEq] at H
   obtain ⟨rfl, rfl⟩ := H
   go_enter Tryd.func5, Tryd.ntmps5
   go_wp2_with (first | ((with_reducible refine zS (N := 1) rfl ?_); refine zW ?hg (N := 1) ?hd (cs := #[.int .i64 a0_0, .int .i64 a0_1, .int .i64 a0_2, .string a0_3, .slice A0_4 l0_4.length c0_4, .slice A0_5 l0_5.length c0_5]) (t := 34) ?hr ?_; (case hd => rfl); (case hg => rfl); (case hr => first | (go_simp; done) | (go_simp; rfl)); intro gb229 hg w7 hbox hb; have BK229 := zA (hbox); have GW229 := zA ((by rw [hg]; exact (zQ apA) : w.heap.size ≤ gb229)); have GE229 := zA ((by rw [hg]; exact (zQ apA) : w.heap.size ≤ gb229)); replace HB := zA (zP apA hb); clear hb hbox hg; obtain ⟨hcz8_0, hcz8_1, hcz8_2, hcz8_3, hcz8_4, hcz8_5, hfz8_0, hfz8_1, hfz8_2, hfz8_3, hfz8_4, hfz8_5⟩ := zb6 BK229.out) | ((with_reducible refine zT (f := 11) rfl ?_); refine goesL_ (some 5) rfl rfl Tryd.func11 (by kernel_rfl) rfl #[.agg #[.int .i64 a0_0, .int .i64 a0_1, .int .i64 a0_2, .string a0_3, .slice A0_4 l0_4.length c0_4, .slice A0_5 l0_5.length c0_5]] rfl apE ?_; (with_reducible refine (spec_ValueOk.calls k a0_0 a0_1 a0_2 a0_3 _ _ l0_4 _ _ l0_5 true _ ?side1 ?side2 ?side3 ?side4 A2.out).mono ?_); (case side1 => exact vc (Kd.C_below HR0_4.out HB.out)); (case side2 => exact HC0_4.out); (case side3 => exact vc (Kd.C_below HR0_5.out HB.out)); (case side4 => exact HC0_5.out); rintro e w9 ⟨rfl, hb⟩; refine ⟨_, rfl, ?_⟩; replace BK229 := zA (zN (g := gb229) (o := .cells #[.int .i64 a0_0, .int .i64 a0_1, .int .i64 a0_2, .string a0_3, .slice A0_4 l0_4.length c0_4, .slice A0_5 l0_5.length c0_5] 34 (0, 0)) (by (with_reducible repeat (first | refine zB ?_ _ | refine zD ?_ | refine zC ?_ _)); exact BK229.out) hb); replace HB := zA (zP (by repeat (first | (with_reducible first | exact HB.out | apply zG | apply zE | apply zF | refine zH ?_ GE229.out) | exact HB.out)) hb); (try clear hb); (try clear hb2); (try clear hk); (try clear hi); obtain ⟨hcz10_0, hcz10_1, hcz10_2, hcz10_3, hcz10_4, hcz10_5, hfz10_0, hfz10_1, hfz10_2, hfz10_3, hfz10_4, hfz10_5⟩ := zb6 BK229.out) | (go_at_call 12; (with_reducible refine (spec_l12Plain.calls k a0_0 a0_1 a0_2 a0_3 _ _ l0_4 _ _ l0_5 true _ ?side1 ?side2 ?side3 ?side4 A4.out).mono ?_); (case side1 => exact vc (Kd.C_below HR0_4.out HB.out)); (case side2 => exact HC0_4.out); (case side3 => exact vc (Kd.C_below HR0_5.out HB.out)); (case side4 => exact HC0_5.out); rintro e w11 ⟨rfl, hb⟩; replace BK229 := zA (zN (g := gb229) (o := .cells #[.int .i64 a0_0, .int .i64 a0_1, .int .i64 a0_2, .string a0_3, .slice A0_4 l0_4.length c0_4, .slice A0_5 l0_5.length c0_5] 34 (0, 0)) (by (with_reducible repeat (first | refine zB ?_ _ | refine zD ?_ | refine zC ?_ _)); exact BK229.out) hb); replace HB := zA (zP (by repeat (first | (with_reducible first | exact HB.out | apply zG | apply zE | apply zF | refine zH ?_ GE229.out) | exact HB.out)) hb); (try clear hb); (try clear hb2); (try clear hk); (try clear hi); obtain ⟨hcz12_0, hcz12_1, hcz12_2, hcz12_3, hcz12_4, hcz12_5, hfz12_0, hfz12_1, hfz12_2, hfz12_3, hfz12_4, hfz12_5⟩ := zb6 BK229.out) | ((with_reducible refine zT (f := 13) rfl ?_); refine goesL_ (some 13) rfl rfl Tryd.func13 (by kernel_rfl) rfl #[.agg #[.int .i64 a0_0, .int .i64 a0_1, .int .i64 a0_2, .string a0_3, .slice A0_4 l0_4.length c0_4, .slice A0_5 l0_5.length c0_5], .string (⟨#[]⟩ : ByteArray)] rfl apE ?_; (with_reducible refine (spec_l12Toml.calls k a0_0 a0_1 a0_2 a0_3 _ _ l0_4 _ _ l0_5 (⟨#[]⟩ : ByteArray) t232 _ ?side1 ?side2 ?side3 ?side4 A6.out).mono ?_); (case side1 => exact vc (Kd.C_below HR0_4.out HB.out)); (case side2 => exact HC0_4.out); (case side3 => exact vc (Kd.C_below HR0_5.out HB.out)); (case side4 => exact HC0_5.out); rintro e w13 ⟨rfl, hb⟩; refine ⟨_, rfl, ?_⟩; replace HB := zA (zP apA hb); (try clear hb); (try clear hb2); (try clear hk); (try clear hi)))
   go_ret2
   exact ⟨apD, apA⟩
  ·replace c5 := Bool.eq_false_iff.mpr c5
   subst c5
   have H1 : (some ((⟨#[]⟩ : ByteArray), false)) = some (r1, r2) := by rw [if_neg (show ¬ (false = true) by decide)] at H; exact H
   clear H
   have H := H1
   clear H1
   simp only [Option.some.injEq, Prod.mk.injEq] at H
   obtain ⟨rfl, rfl⟩ := H
   go_enter Tryd.func5, Tryd.ntmps5
   go_wp2_with (first | ((with_reducible refine zS (N := 1) rfl ?_); refine zW ?hg (N := 1) ?hd (cs := #[.int .i64 a0_0, .int .i64 a0_1, .int .i64 a0_2, .string a0_3, .slice A0_4 l0_4.length c0_4, .slice A0_5 l0_5.length c0_5]) (t := 34) ?hr ?_; (case hd => rfl); (case hg => rfl); (case hr => first | (go_simp; done) | (go_simp; rfl)); intro gb229 hg w14 hbox hb; have BK229 := zA (hbox); have GW229 := zA ((by rw [hg]; exact (zQ apA) : w.heap.size ≤ gb229)); have GE229 := zA ((by rw [hg]; exact (zQ apA) : w.heap.size ≤ gb229)); replace HB := zA (zP apA hb); clear hb hbox hg; obtain ⟨hcz15_0, hcz15_1, hcz15_2, hcz15_3, hcz15_4, hcz15_5, hfz15_0, hfz15_1, hfz15_2, hfz15_3, hfz15_4, hfz15_5⟩ := zb6 BK229.out) | ((with_reducible refine zT (f := 11) rfl ?_); refine goesL_ (some 5) rfl rfl Tryd.func11 (by kernel_rfl) rfl #[.agg #[.int .i64 a0_0, .int .i64 a0_1, .int .i64 a0_2, .string a0_3, .slice A0_4 l0_4.length c0_4, .slice A0_5 l0_5.length c0_5]] rfl apE ?_; (with_reducible refine (spec_ValueOk.calls k a0_0 a0_1 a0_2 a0_3 _ _ l0_4 _ _ l0_5 true _ ?side1 ?side2 ?side3 ?side4 A2.out).mono ?_); (case side1 => exact vc (Kd.C_below HR0_4.out HB.out)); (case side2 => exact HC0_4.out); (case side3 => exact vc (Kd.C_below HR0_5.out HB.out)); (case side4 => exact HC0_5.out); rintro e w16 ⟨rfl, hb⟩; refine ⟨_, rfl, ?_⟩; replace BK229 := zA (zN (g := gb229) (o := .cells #[.int .i64 a0_0, .int .i64 a0_1, .int .i64 a0_2, .string a0_3, .slice A0_4 l0_4.length c0_4, .slice A0_5 l0_5.length c0_5] 34 (0, 0)) (by (with_reducible repeat (first | refine zB ?_ _ | refine zD ?_ | refine zC ?_ _)); exact BK229.out) hb); replace HB := zA (zP (by repeat (first | (with_reducible first | exact HB.out | apply zG | apply zE | apply zF | refine zH ?_ GE229.out) | exact HB.out)) hb); (try clear hb); (try clear hb2); (try clear hk); (try clear hi); obtain ⟨hcz17_0, hcz17_1, hcz17_2, hcz17_3, hcz17_4, hcz17_5, hfz17_0, hfz17_1, hfz17_2, hfz17_3, hfz17_4, hfz17_5⟩ := zb6 BK229.out) | (go_at_call 12; (with_reducible refine (spec_l12Plain.calls k a0_0 a0_1 a0_2 a0_3 _ _ l0_4 _ _ l0_5 false _ ?side1 ?side2 ?side3 ?side4 A4.out).mono ?_); (case side1 => exact vc (Kd.C_below HR0_4.out HB.out)); (case side2 => exact HC0_4.out); (case side3 => exact vc (Kd.C_below HR0_5.out HB.out)); (case side4 => exact HC0_5.out); rintro e w18 ⟨rfl, hb⟩; replace HB := zA (zP apA hb); (try clear hb); (try clear hb2); (try clear hk); (try clear hi)))
   go_ret2
   exact ⟨apD, apA⟩
 ·replace c3 := Bool.eq_false_iff.mpr c3
  subst c3
  have H1 : (some ((⟨#[]⟩ : ByteArray), false)) = some (r1, r2) := by rw [if_neg (show ¬ (false = true) by decide)] at H; exact H
  clear H
  have H := H1
  clear H1
  simp only [Option.some.injEq, Prod.mk.injEq] at H
  obtain ⟨rfl, rfl⟩ := H
  go_enter Tryd.func5, Tryd.ntmps5
  go_wp2_with (first | ((with_reducible refine zS (N := 1) rfl ?_); refine zW ?hg (N := 1) ?hd (cs := #[.int .i64 a0_0, .int .i64 a0_1, .int .i64 a0_2, .string a0_3, .slice A0_4 l0_4.length c0_4, .slice A0_5 l0_5.length c0_5]) (t := 34) ?hr ?_; (case hd => rfl); (case hg => rfl); (case hr => first | (go_simp; done) | (go_simp; rfl)); intro gb229 hg w19 hbox hb; have BK229 := zA (hbox); have GW229 := zA ((by rw [hg]; exact (zQ apA) : w.heap.size ≤ gb229)); have GE229 := zA ((by rw [hg]; exact (zQ apA) : w.heap.size ≤ gb229)); replace HB := zA (zP apA hb); clear hb hbox hg; obtain ⟨hcz20_0, hcz20_1, hcz20_2, hcz20_3, hcz20_4, hcz20_5, hfz20_0, hfz20_1, hfz20_2, hfz20_3, hfz20_4, hfz20_5⟩ := zb6 BK229.out) | ((with_reducible refine zT (f := 11) rfl ?_); refine goesL_ (some 5) rfl rfl Tryd.func11 (by kernel_rfl) rfl #[.agg #[.int .i64 a0_0, .int .i64 a0_1, .int .i64 a0_2, .string a0_3, .slice A0_4 l0_4.length c0_4, .slice A0_5 l0_5.length c0_5]] rfl apE ?_; (with_reducible refine (spec_ValueOk.calls k a0_0 a0_1 a0_2 a0_3 _ _ l0_4 _ _ l0_5 false _ ?side1 ?side2 ?side3 ?side4 A2.out).mono ?_); (case side1 => exact vc (Kd.C_below HR0_4.out HB.out)); (case side2 => exact HC0_4.out); (case side3 => exact vc (Kd.C_below HR0_5.out HB.out)); (case side4 => exact HC0_5.out); rintro e w21 ⟨rfl, hb⟩; refine ⟨_, rfl, ?_⟩; replace HB := zA (zP apA hb); (try clear hb); (try clear hb2); (try clear hk); (try clear hi)))
  go_ret2
  exact ⟨apD, apA⟩


def impl_isIni_1.f (a0_0 : Int) (a0_1 : Int) (a0_2 : Int) (a0_3 : ByteArray) (l0_4 : List (S34)) (l0_5 : List ByteArray) : Option (Bool) := if a0_0 ≥ 1 then (some (decide (a0_0 ≤ 4))) else (some false)
set_option maxHeartbeats 8000000 in
set_option maxRecDepth 100000 in
theorem impl_isIni_1.calls (a0_0 : Int) (a0_1 : Int) (a0_2 : Int) (a0_3 : ByteArray) (A0_4 : Option Addr) (c0_4 : Nat) (l0_4 : List (S34)) (A0_5 : Option Addr) (c0_5 : Nat) (l0_5 : List ByteArray) (r : Bool) (w : World) (hr0_4 : Kd.C k34 w A0_4 l0_4.length l0_4) (hc0_4 : l0_4.length ≤ c0_4) (hr0_5 : Kd.C Kd.string w A0_5 l0_5.length l0_5) (hc0_5 : l0_5.length ≤ c0_5) (h : impl_isIni_1.f a0_0 a0_1 a0_2 a0_3 l0_4 l0_5 = some r) :
  Calls Tryd.prog 26 #[.agg #[.int .i64 a0_0, .int .i64 a0_1, .int .i64 a0_2, .string a0_3, .slice A0_4 l0_4.length c0_4, .slice A0_5 l0_5.length c0_5]] w fun e w' => e = .returned (.bool r) ∧ Below w.heap.size w w' := by
 have hu34 := Tryd.underlying34
 have HR0_4 := zA hr0_4
 have HC0_4 := zA hc0_4
 clear hr0_4 hc0_4
 have HR0_5 := zA hr0_5
 have HC0_5 := zA hc0_5
 clear hr0_5 hc0_5
 have HB := zA (yH w.heap.size w)
 have H : (if a0_0 ≥ 1 then (some (decide (a0_0 ≤ 4))) else (some false)) = some r := h
 clear h
 by_cases c2 : a0_0 ≥ 1
 ·rw [if_pos c2] at H
  have c2b0 : decide (1 ≤ a0_0) = true := yE c2
  clear c2
  obtain rfl := yG H
  go_enter Tryd.func26, Tryd.ntmps26
  go_wp2_with (first | ((with_reducible refine zS (N := 1) rfl ?_); refine zW ?hg (N := 1) ?hd (cs := #[.int .i64 a0_0, .int .i64 a0_1, .int .i64 a0_2, .string a0_3, .slice A0_4 l0_4.length c0_4, .slice A0_5 l0_5.length c0_5]) (t := 34) ?hr ?_; (case hd => rfl); (case hg => rfl); (case hr => first | (go_simp; done) | (go_simp; rfl)); intro gb233 hg w3 hbox hb; have BK233 := zA (hbox); have GW233 := zA ((by rw [hg]; exact (zQ apA) : w.heap.size ≤ gb233)); have GE233 := zA ((by rw [hg]; exact (zQ apA) : w.heap.size ≤ gb233)); replace HB := zA (zP apA hb); clear hb hbox hg; obtain ⟨hcz4_0, hcz4_1, hcz4_2, hcz4_3, hcz4_4, hcz4_5, hfz4_0, hfz4_1, hfz4_2, hfz4_3, hfz4_4, hfz4_5⟩ := zb6 BK233.out))
  go_ret
  exact ⟨apD, by repeat (first | (with_reducible first | exact HB.out | apply zG | apply zE | apply zF | refine zH ?_ GE233.out) | exact HB.out)⟩
 ·rw [if_neg c2] at H
  have c2b0 : decide (1 ≤ a0_0) = false := decide_eq_false c2
  clear c2
  obtain rfl := yG H
  go_enter Tryd.func26, Tryd.ntmps26
  go_wp2_with (first | ((with_reducible refine zS (N := 1) rfl ?_); refine zW ?hg (N := 1) ?hd (cs := #[.int .i64 a0_0, .int .i64 a0_1, .int .i64 a0_2, .string a0_3, .slice A0_4 l0_4.length c0_4, .slice A0_5 l0_5.length c0_5]) (t := 34) ?hr ?_; (case hd => rfl); (case hg => rfl); (case hr => first | (go_simp; done) | (go_simp; rfl)); intro gb233 hg w5 hbox hb; have BK233 := zA (hbox); have GW233 := zA ((by rw [hg]; exact (zQ apA) : w.heap.size ≤ gb233)); have GE233 := zA ((by rw [hg]; exact (zQ apA) : w.heap.size ≤ gb233)); replace HB := zA (zP apA hb); clear hb hbox hg; obtain ⟨hcz6_0, hcz6_1, hcz6_2, hcz6_3, hcz6_4, hcz6_5, hfz6_0, hfz6_1, hfz6_2, hfz6_3, hfz6_4, hfz6_5⟩ := zb6 BK233.out))
  go_ret
  exact ⟨apD, by repeat (first | (with_reducible first | exact HB.out | apply zG | apply zE | apply zF | refine zH ?_ GE233.out) | exact HB.out)⟩


def impl_isIni_2_1.f (a0_0 : Int) (a0_1 : Int) (a0_2 : Int) (a0_3 : ByteArray) (l0_4 : List (S34)) (l0_5 : List ByteArray) (l1 : List Int) : Option (Bool) := if 0 < (l1.length : Int) then ((impl_isIni_1.f a0_0 a0_1 a0_2 a0_3 l0_4 l0_5).bind fun t236 => (some (!t236))) else (none)
set_option maxHeartbeats 8000000 in
set_option maxRecDepth 100000 in
theorem impl_isIni_2_1.calls (a0_0 : Int) (a0_1 : Int) (a0_2 : Int) (a0_3 : ByteArray) (A0_4 : Option Addr) (c0_4 : Nat) (l0_4 : List (S34)) (A0_5 : Option Addr) (c0_5 : Nat) (l0_5 : List ByteArray) (A1 : Option Addr) (c1 : Nat) (l1 : List Int) (r : Bool) (w : World) (hr0_4 : Kd.C k34 w A0_4 l0_4.length l0_4) (hc0_4 : l0_4.length ≤ c0_4) (hr0_5 : Kd.C Kd.string w A0_5 l0_5.length l0_5) (hc0_5 : l0_5.length ≤ c0_5) (hr1 : Kd.C (kFn 26) w A1 l1.length l1) (hc1 : l1.length ≤ c1) (h : impl_isIni_2_1.f a0_0 a0_1 a0_2 a0_3 l0_4 l0_5 l1 = some r) :
  Calls Tryd.prog 29 #[.agg #[.int .i64 a0_0, .int .i64 a0_1, .int .i64 a0_2, .string a0_3, .slice A0_4 l0_4.length c0_4, .slice A0_5 l0_5.length c0_5], .pointer A1] w fun e w' => e = .returned (.bool r) ∧ Below w.heap.size w w' := by
 have hu34 := Tryd.underlying34
 have HR0_4 := zA hr0_4
 have HC0_4 := zA hc0_4
 clear hr0_4 hc0_4
 have HR0_5 := zA hr0_5
 have HC0_5 := zA hc0_5
 clear hr0_5 hc0_5
 have HR1 := zA hr1
 have HC1 := zA hc1
 clear hr1 hc1
 have HB := zA (yH w.heap.size w)
 have H : (if 0 < (l1.length : Int) then ((impl_isIni_1.f a0_0 a0_1 a0_2 a0_3 l0_4 l0_5).bind fun t236 => (some (!t236))) else (none)) = some r := h
 clear h
 by_cases c3 : 0 < (l1.length : Int)
 ·rw [if_pos c3] at H
  have c3b0 : decide (0 < (l1.length : Int)) = true := yE c3
  have c3b1 : decide (0 < l1.length) = true := yE (by omega)
  clear c3
  replace H := Option.bind_eq_some_iff.mp H
  obtain ⟨t236, A40, H⟩ := H
  have A4 := zA A40
  clear A40
  obtain rfl := yG H
  go_enter Tryd.func29, Tryd.ntmps29
  go_wp2_with (first | ((with_reducible refine zS (N := 2) rfl ?_); refine zW ?hg (N := 2) ?hd (cs := #[.int .i64 a0_0, .int .i64 a0_1, .int .i64 a0_2, .string a0_3, .slice A0_4 l0_4.length c0_4, .slice A0_5 l0_5.length c0_5]) (t := 34) ?hr ?_; (case hd => rfl); (case hg => rfl); (case hr => first | (go_simp; done) | (go_simp; rfl)); intro gb234 hg w5 hbox hb; have BK234 := zA (hbox); have GW234 := zA ((by rw [hg]; exact (zQ apA) : w.heap.size ≤ gb234)); have GE234 := zA ((by rw [hg]; exact (zQ apA) : w.heap.size ≤ gb234)); replace HB := zA (zP apA hb); clear hb hbox hg; have p235 : 0 ≤ (0 : Int) := (by omega); have q235 : 0 < (l1.length : Int) := yF apB; obtain ⟨ad235, e235, hx235_0⟩ := at_fn HR1.out 0 p235 q235; cases e235; have qi235 : (0 < l1.length) = True := eq_true (by omega); (try rw [show ((0 : Int)).toNat = 0 from rfl] at hx235_0); (try rw [Addr.add_zero'] at hx235_0); replace hx235_0 := (HB.out.cell (zR w _ hx235_0)).trans hx235_0; replace p235 := eq_true p235; replace q235 := eq_true q235; obtain ⟨hcz6_0, hcz6_1, hcz6_2, hcz6_3, hcz6_4, hcz6_5, hfz6_0, hfz6_1, hfz6_2, hfz6_3, hfz6_4, hfz6_5⟩ := zb6 BK234.out) | ((refine gate_calleev (f := 26) rfl rfl ?_); refine goesvL_ (some 6) rfl rfl Tryd.func26 (by kernel_rfl) rfl #[.agg #[.int .i64 a0_0, .int .i64 a0_1, .int .i64 a0_2, .string a0_3, .slice A0_4 l0_4.length c0_4, .slice A0_5 l0_5.length c0_5]] rfl rfl apE ?_; (with_reducible refine (impl_isIni_1.calls a0_0 a0_1 a0_2 a0_3 _ _ l0_4 _ _ l0_5 t236 _ ?side1 ?side2 ?side3 ?side4 A4.out).mono ?_); (case side1 => exact vc (Kd.C_below HR0_4.out HB.out)); (case side2 => exact HC0_4.out); (case side3 => exact vc (Kd.C_below HR0_5.out HB.out)); (case side4 => exact HC0_5.out); rintro e w7 ⟨rfl, hb⟩; refine ⟨_, rfl, ?_⟩; replace HB := zA (zP apA hb); (try clear hb); (try clear hb2); (try clear hk); (try clear hi)))
  go_ret
  exact ⟨apD, apA⟩
 ·rw [if_neg c3] at H
  exact absurd H (by simp)


def impl_Value_36_at_isIni_2_1.l0 : Nat → List (S34) → Int → Int → List Int → Option (Int)
 | 0, _, _, _, _ => none
 | k + 1, x0, x7, x8, x900 => if x8 < x7 then (if 0 ≤ x8 then (if x8 < (x0.length : Int) then ((impl_isIni_2_1.f ((rd_T34 x0 x8).f0) ((rd_T34 x0 x8).f1.f0) ((rd_T34 x0 x8).f1.f1) ((rd_T34 x0 x8).f2) ((rd_T34 x0 x8).f3) ((rd_T34 x0 x8).f4) x900).bind fun t238 => (if t238 = true then (some x8) else (impl_Value_36_at_isIni_2_1.l0 k x0 x7 (wrap64 (x8 + 1)) x900))) else (none)) else (none)) else (some (-1))
def impl_Value_36_at_isIni_2_1.f (k : Nat) (l0 : List (S34))  (l2 : List Int) : Option (Int) := impl_Value_36_at_isIni_2_1.l0 k l0 (l0.length : Int) 0 l2
theorem impl_Value_36_at_isIni_2_1.mono_l : ∀ k, (∀ y0 y1 y2 y3, LeO (impl_Value_36_at_isIni_2_1.l0 k y0 y1 y2 y3) (impl_Value_36_at_isIni_2_1.l0 (k + 1) y0 y1 y2 y3))
 | 0 => fun _ _ _ _ r h => by simp [impl_Value_36_at_isIni_2_1.l0] at h
 | k + 1 => by
  have ih0 := impl_Value_36_at_isIni_2_1.mono_l k
  ·intro y0 y1 y2 y3
   unfold impl_Value_36_at_isIni_2_1.l0
   repeat' first
   | (with_reducible exact ih0 _ _ _ _)
   | (with_reducible exact LeO.refl _)
   | (with_reducible exact LeO.none _)
   | (with_reducible refine LeO.ite ?_ ?_)
   | (with_reducible refine LeO.bind ?_ (fun _ => ?_))
   | exact ih0 _ _ _ _
theorem impl_Value_36_at_isIni_2_1.mono : ∀ a0 a1 k, LeO (impl_Value_36_at_isIni_2_1.f k a0 a1) (impl_Value_36_at_isIni_2_1.f (k + 1) a0 a1) := by
 intro a0 a1 k
 have ih0 := impl_Value_36_at_isIni_2_1.mono_l k
 unfold impl_Value_36_at_isIni_2_1.f
 repeat' first
   | (with_reducible exact ih0 _ _ _ _)
   | (with_reducible exact LeO.refl _)
   | (with_reducible exact LeO.none _)
   | (with_reducible refine LeO.ite ?_ ?_)
   | (with_reducible refine LeO.bind ?_ (fun _ => ?_))
   | exact ih0 _ _ _ _
set_option maxHeartbeats 8000000 in
set_option maxRecDepth 100000 in
theorem impl_Value_36_at_isIni_2_1.calls (k : Nat) (A0 : Option Addr) (c0 : Nat) (l0 : List (S34))  (A2 : Option Addr) (c2 : Nat) (l2 : List Int) (r : Int) (w : World) (hr0 : Kd.C k34 w A0 l0.length l0) (hc0 : l0.length ≤ c0) (hr2 : Kd.C (kFn 26) w A2 l2.length l2) (hc2 : l2.length ≤ c2) (h : impl_Value_36_at_isIni_2_1.f k l0 l2 = some r) :
  Calls Tryd.prog 36 #[.slice A0 l0.length c0, .func (.func 29) #[] #[.pointer A2]] w fun e w' => e = .returned (.int .i64 r) ∧ Below w.heap.size w w' := by
 have hu34 := Tryd.underlying34
 have HR0 := zA hr0
 have HC0 := zA hc0
 clear hr0 hc0
 have HR2 := zA hr2
 have HC2 := zA hc2
 clear hr2 hc2
 have HB := zA (yH w.heap.size w)
 have H : (impl_Value_36_at_isIni_2_1.l0 k l0 (l0.length : Int) 0 l2) = some r := h
 clear h
 have H' := zA H
 clear H
 go_enter Tryd.func36, Tryd.ntmps36
 go_wp2
 go_loopg [8] k (fun kq v8 w' => ∃ (x8_1 : Int), v8 = .int .i64 x8_1 ∧ Aside0 (impl_Value_36_at_isIni_2_1.l0 kq l0 (l0.length : Int) x8_1 l2 = some r) ∧ Aside0 (kq ≤ k) ∧ Aside0 (Below w.heap.size w w'))
 case atStart => exact ⟨(0), apC, H', ⟨yJ _⟩, ⟨apA⟩⟩
 case round =>
  clear H'
  try clear c2 p2 c3
  obtain ⟨x8_1, rfl, HA, HK1, HB⟩ := hrel
  cases gk with
  | zero => exact absurd HA.out (by simp [impl_Value_36_at_isIni_2_1.l0])
  | succ k1 =>
   have H := HA.out
   clear HA
   simp only [impl_Value_36_at_isIni_2_1.l0] at H
   by_cases c4 : x8_1 < (l0.length : Int)
   ·rw [if_pos c4] at H
    have c4b0 : decide (x8_1 < (l0.length : Int)) = true := yE c4
    clear c4
    by_cases c5 : 0 ≤ x8_1
    ·rw [if_pos c5] at H
     have c5b0 : decide (0 ≤ x8_1) = true := yE c5
     clear c5
     by_cases c6 : x8_1 < (l0.length : Int)
     ·rw [if_pos c6] at H
      have c6b0 : decide (x8_1 < (l0.length : Int)) = true := yE c6
      clear c6
      replace H := Option.bind_eq_some_iff.mp H
      obtain ⟨t238, A70, H⟩ := H
      have A7 := zA A70
      clear A70
      by_cases c8 : t238 = true
      ·subst c8
       have H1 := H; rw [if_pos rfl] at H1
       clear H
       have H := H1
       clear H1
       obtain rfl := yG H
       have p237 : 0 ≤ (x8_1 : Int) := yF apB
       have q237 : x8_1 < (l0.length : Int) := yF apB
       obtain ⟨ad237, A237_4, c237_4, A237_5, c237_5, e237, hx237_0, hx237_1, hx237_2, hx237_3, hx237_4, hx237_5, hl237_4, hi237_4, hl237_5, hi237_5⟩ := at_T34 HR0.out x8_1 p237 q237
       cases e237
       replace hx237_0 := (HB.out.cell (zR w _ hx237_0)).trans hx237_0
       replace hx237_1 := (HB.out.cell (zR w _ hx237_1)).trans hx237_1
       replace hx237_2 := (HB.out.cell (zR w _ hx237_2)).trans hx237_2
       replace hx237_3 := (HB.out.cell (zR w _ hx237_3)).trans hx237_3
       replace hx237_4 := (HB.out.cell (zR w _ hx237_4)).trans hx237_4
       replace hx237_5 := (HB.out.cell (zR w _ hx237_5)).trans hx237_5
       have HR237_4 := zA hi237_4
       have HC237_4 := zA hl237_4
       clear hi237_4 hl237_4
       have HR237_5 := zA hi237_5
       have HC237_5 := zA hl237_5
       clear hi237_5 hl237_5
       replace p237 := eq_true p237
       replace q237 := eq_true q237
       go_wp2_with (first | ((refine gate_calleevc (f := 29) rfl rfl ?_); refine goesvcL_ (some 16) rfl rfl Tryd.func29 (by kernel_rfl) rfl #[.agg #[.int .i64 ((rd_T34 l0 x8_1).f0), .int .i64 ((rd_T34 l0 x8_1).f1.f0), .int .i64 ((rd_T34 l0 x8_1).f1.f1), .string ((rd_T34 l0 x8_1).f2), .slice A237_4 ((rd_T34 l0 x8_1).f3).length c237_4, .slice A237_5 ((rd_T34 l0 x8_1).f4).length c237_5], .pointer A2] rfl rfl apE ?_; (with_reducible refine (impl_isIni_2_1.calls ((rd_T34 l0 x8_1).f0) ((rd_T34 l0 x8_1).f1.f0) ((rd_T34 l0 x8_1).f1.f1) ((rd_T34 l0 x8_1).f2) _ _ ((rd_T34 l0 x8_1).f3) _ _ ((rd_T34 l0 x8_1).f4) A2 c2 l2 true _ ?side1 ?side2 ?side3 ?side4 ?side5 ?side6 A7.out).mono ?_); (case side1 => exact vc (Kd.C_below HR237_4.out HB.out)); (case side2 => exact HC237_4.out); (case side3 => exact vc (Kd.C_below HR237_5.out HB.out)); (case side4 => exact HC237_5.out); (case side5 => exact vc (Kd.C_below HR2.out HB.out)); (case side6 => exact HC2.out); rintro e w9 ⟨rfl, hb⟩; refine ⟨_, rfl, ?_⟩; replace HB := zA (zP apA hb); (try clear hb); (try clear hb2); (try clear hk); (try clear hi)))
       go_ret
       exact ⟨apD, apA⟩
      ·replace c8 := Bool.eq_false_iff.mpr c8
       subst c8
       have H1 := H; rw [if_neg (show ¬ (false = true) by decide)] at H1
       clear H
       have H := H1
       clear H1
       have H' := zA H
       clear H
       have p237 : 0 ≤ (x8_1 : Int) := yF apB
       have q237 : x8_1 < (l0.length : Int) := yF apB
       obtain ⟨ad237, A237_4, c237_4, A237_5, c237_5, e237, hx237_0, hx237_1, hx237_2, hx237_3, hx237_4, hx237_5, hl237_4, hi237_4, hl237_5, hi237_5⟩ := at_T34 HR0.out x8_1 p237 q237
       cases e237
       replace hx237_0 := (HB.out.cell (zR w _ hx237_0)).trans hx237_0
       replace hx237_1 := (HB.out.cell (zR w _ hx237_1)).trans hx237_1
       replace hx237_2 := (HB.out.cell (zR w _ hx237_2)).trans hx237_2
       replace hx237_3 := (HB.out.cell (zR w _ hx237_3)).trans hx237_3
       replace hx237_4 := (HB.out.cell (zR w _ hx237_4)).trans hx237_4
       replace hx237_5 := (HB.out.cell (zR w _ hx237_5)).trans hx237_5
       have HR237_4 := zA hi237_4
       have HC237_4 := zA hl237_4
       clear hi237_4 hl237_4
       have HR237_5 := zA hi237_5
       have HC237_5 := zA hl237_5
       clear hi237_5 hl237_5
       replace p237 := eq_true p237
       replace q237 := eq_true q237
       go_wp2_with (first | ((refine gate_calleevc (f := 29) rfl rfl ?_); refine goesvcL_ (some 16) rfl rfl Tryd.func29 (by kernel_rfl) rfl #[.agg #[.int .i64 ((rd_T34 l0 x8_1).f0), .int .i64 ((rd_T34 l0 x8_1).f1.f0), .int .i64 ((rd_T34 l0 x8_1).f1.f1), .string ((rd_T34 l0 x8_1).f2), .slice A237_4 ((rd_T34 l0 x8_1).f3).length c237_4, .slice A237_5 ((rd_T34 l0 x8_1).f4).length c237_5], .pointer A2] rfl rfl apE ?_; (with_reducible refine (impl_isIni_2_1.calls ((rd_T34 l0 x8_1).f0) ((rd_T34 l0 x8_1).f1.f0) ((rd_T34 l0 x8_1).f1.f1) ((rd_T34 l0 x8_1).f2) _ _ ((rd_T34 l0 x8_1).f3) _ _ ((rd_T34 l0 x8_1).f4) A2 c2 l2 false _ ?side1 ?side2 ?side3 ?side4 ?side5 ?side6 A7.out).mono ?_); (case side1 => exact vc (Kd.C_below HR237_4.out HB.out)); (case side2 => exact HC237_4.out); (case side3 => exact vc (Kd.C_below HR237_5.out HB.out)); (case side4 => exact HC237_5.out); (case side5 => exact vc (Kd.C_below HR2.out HB.out)); (case side6 => exact HC2.out); rintro e w10 ⟨rfl, hb⟩; refine ⟨_, rfl, ?_⟩; replace HB := zA (zP apA hb); (try clear hb); (try clear hb2); (try clear hk); (try clear hi)))
       go_roundg k1
       case measure => have := HK1.out; omega
       case rel => exact ⟨(wrap64 (x8_1 + 1)), apC, H', ⟨by have := HK1.out; omega⟩, ⟨apA⟩⟩
     ·rw [if_neg c6] at H
      exact absurd H (by simp)
    ·rw [if_neg c5] at H
     exact absurd H (by simp)
   ·rw [if_neg c4] at H
    have c4b0 : decide (x8_1 < (l0.length : Int)) = false := decide_eq_false c4
    clear c4
    obtain rfl := yG H
    go_wp2
    go_ret
    exact ⟨apD, apA⟩


def impl_Value_27_at_isIni_2_1.f (k : Nat) (l0 : List (S34))  (l2 : List Int) : Option (Bool) := (impl_Value_36_at_isIni_2_1.f k l0 l2).bind fun t239 => (some (decide (t239 ≥ 0)))
theorem impl_Value_27_at_isIni_2_1.mono : ∀ a0 a1 k, LeO (impl_Value_27_at_isIni_2_1.f k a0 a1) (impl_Value_27_at_isIni_2_1.f (k + 1) a0 a1) := by
 intro a0 a1 k
 unfold impl_Value_27_at_isIni_2_1.f
 repeat' first
   | (with_reducible exact impl_Value_36_at_isIni_2_1.mono _ _ _)
   | (with_reducible exact LeO.refl _)
   | (with_reducible exact LeO.none _)
   | (with_reducible refine LeO.ite ?_ ?_)
   | (with_reducible refine LeO.bind ?_ (fun _ => ?_))
set_option maxHeartbeats 8000000 in
set_option maxRecDepth 100000 in
theorem impl_Value_27_at_isIni_2_1.calls (k : Nat) (A0 : Option Addr) (c0 : Nat) (l0 : List (S34))  (A2 : Option Addr) (c2 : Nat) (l2 : List Int) (r : Bool) (w : World) (hr0 : Kd.C k34 w A0 l0.length l0) (hc0 : l0.length ≤ c0) (hr2 : Kd.C (kFn 26) w A2 l2.length l2) (hc2 : l2.length ≤ c2) (h : impl_Value_27_at_isIni_2_1.f k l0 l2 = some r) :
  Calls Tryd.prog 27 #[.slice A0 l0.length c0, .func (.func 29) #[] #[.pointer A2]] w fun e w' => e = .returned (.bool r) ∧ Below w.heap.size w w' := by
 have HR0 := zA hr0
 have HC0 := zA hc0
 clear hr0 hc0
 have HR2 := zA hr2
 have HC2 := zA hc2
 clear hr2 hc2
 have HB := zA (yH w.heap.size w)
 have H : ((impl_Value_36_at_isIni_2_1.f k l0 l2).bind fun t239 => (some (decide (t239 ≥ 0)))) = some r := h
 clear h
 replace H := Option.bind_eq_some_iff.mp H
 obtain ⟨t239, A40, H⟩ := H
 have A4 := zA A40
 clear A40
 obtain rfl := yG H
 go_enter Tryd.func27, Tryd.ntmps27
 go_wp2_with (first | ((with_reducible refine zT (f := 36) rfl ?_); refine goesL_ (some 7) rfl rfl Tryd.func36 (by kernel_rfl) rfl #[.slice A0 l0.length c0, .func (.func 29) #[] #[.pointer A2]] rfl apE ?_; (with_reducible refine (impl_Value_36_at_isIni_2_1.calls k _ _ l0 A2 c2 l2 t239 _ ?side1 ?side2 ?side3 ?side4 A4.out).mono ?_); (case side1 => repeat (first | exact HR0.out | (with_reducible refine Kd.C_alloc ?_ _) | (with_reducible refine Kd.C_drewN ?_ _) | (with_reducible refine Kd.C_drew ?_))); (case side2 => exact HC0.out); (case side3 => repeat (first | exact HR2.out | (with_reducible refine Kd.C_alloc ?_ _) | (with_reducible refine Kd.C_drewN ?_ _) | (with_reducible refine Kd.C_drew ?_))); (case side4 => exact HC2.out); rintro e w5 ⟨rfl, hb⟩; refine ⟨_, rfl, ?_⟩; replace HB := zA (zP apA hb); (try clear hb); (try clear hb2); (try clear hk); (try clear hi)))
 go_ret
 exact ⟨apD, apA⟩


def impl_isIni_2.f (k : Nat) (a0_0 : Int) (a0_1 : Int) (a0_2 : Int) (a0_3 : ByteArray) (l0_4 : List (S34)) (l0_5 : List ByteArray) (l1 : List Int) : Option (Bool) := if a0_0 = 6 then ((impl_Value_27_at_isIni_2_1.f k l0_4 l1).bind fun t241 => (some t241)) else (some true)
theorem impl_isIni_2.mono : ∀ a0 a1 a2 a3 a4 a5 a6 k, LeO (impl_isIni_2.f k a0 a1 a2 a3 a4 a5 a6) (impl_isIni_2.f (k + 1) a0 a1 a2 a3 a4 a5 a6) := by
 intro a0 a1 a2 a3 a4 a5 a6 k
 unfold impl_isIni_2.f
 repeat' first
   | (with_reducible exact impl_Value_27_at_isIni_2_1.mono _ _ _)
   | (with_reducible exact LeO.refl _)
   | (with_reducible exact LeO.none _)
   | (with_reducible refine LeO.ite ?_ ?_)
   | (with_reducible refine LeO.bind ?_ (fun _ => ?_))
set_option maxHeartbeats 8000000 in
set_option maxRecDepth 100000 in
theorem impl_isIni_2.calls (k : Nat) (a0_0 : Int) (a0_1 : Int) (a0_2 : Int) (a0_3 : ByteArray) (A0_4 : Option Addr) (c0_4 : Nat) (l0_4 : List (S34)) (A0_5 : Option Addr) (c0_5 : Nat) (l0_5 : List ByteArray) (A1 : Option Addr) (c1 : Nat) (l1 : List Int) (r : Bool) (w : World) (hr0_4 : Kd.C k34 w A0_4 l0_4.length l0_4) (hc0_4 : l0_4.length ≤ c0_4) (hr0_5 : Kd.C Kd.string w A0_5 l0_5.length l0_5) (hc0_5 : l0_5.length ≤ c0_5) (hr1 : Kd.C (kFn 26) w A1 l1.length l1) (hc1 : l1.length ≤ c1) (h : impl_isIni_2.f k a0_0 a0_1 a0_2 a0_3 l0_4 l0_5 l1 = some r) :
  Calls Tryd.prog 28 #[.agg #[.int .i64 a0_0, .int .i64 a0_1, .int .i64 a0_2, .string a0_3, .slice A0_4 l0_4.length c0_4, .slice A0_5 l0_5.length c0_5], .pointer A1] w fun e w' => e = .returned (.bool r) ∧ Below w.heap.size w w' := by
 have hu34 := Tryd.underlying34
 have HR0_4 := zA hr0_4
 have HC0_4 := zA hc0_4
 clear hr0_4 hc0_4
 have HR0_5 := zA hr0_5
 have HC0_5 := zA hc0_5
 clear hr0_5 hc0_5
 have HR1 := zA hr1
 have HC1 := zA hc1
 clear hr1 hc1
 have HB := zA (yH w.heap.size w)
 have H : (if a0_0 = 6 then ((impl_Value_27_at_isIni_2_1.f k l0_4 l1).bind fun t241 => (some t241)) else (some true)) = some r := h
 clear h
 by_cases c3 : a0_0 = 6
 ·rw [if_pos c3] at H
  have c3b0 : (a0_0 == 6) = true := beq_iff_eq.mpr c3
  have c3b1 : (a0_0 != 6) = false := bne_eq_false_iff_eq.mpr c3
  clear c3
  replace H := Option.bind_eq_some_iff.mp H
  obtain ⟨t241, A40, H⟩ := H
  have A4 := zA A40
  clear A40
  obtain rfl := yG H
  go_enter Tryd.func28, Tryd.ntmps28
  go_wp2_with (first | ((with_reducible refine zS (N := 2) rfl ?_); refine zW ?hg (N := 2) ?hd (cs := #[.int .i64 a0_0, .int .i64 a0_1, .int .i64 a0_2, .string a0_3, .slice A0_4 l0_4.length c0_4, .slice A0_5 l0_5.length c0_5]) (t := 34) ?hr ?_; (case hd => rfl); (case hg => rfl); (case hr => first | (go_simp; done) | (go_simp; rfl)); intro gb240 hg w5 hbox hb; have BK240 := zA (hbox); have GW240 := zA ((by rw [hg]; exact (zQ apA) : w.heap.size ≤ gb240)); have GE240 := zA ((by rw [hg]; exact (zQ apA) : w.heap.size ≤ gb240)); replace HB := zA (zP apA hb); clear hb hbox hg; obtain ⟨hcz6_0, hcz6_1, hcz6_2, hcz6_3, hcz6_4, hcz6_5, hfz6_0, hfz6_1, hfz6_2, hfz6_3, hfz6_4, hfz6_5⟩ := zb6 BK240.out) | (go_at_call 27; (with_reducible refine (impl_Value_27_at_isIni_2_1.calls k _ _ l0_4 A1 c1 l1 t241 _ ?side1 ?side2 ?side3 ?side4 A4.out).mono ?_); (case side1 => exact vc (Kd.C_below HR0_4.out HB.out)); (case side2 => exact HC0_4.out); (case side3 => exact vc (Kd.C_below HR1.out HB.out)); (case side4 => exact HC1.out); rintro e w7 ⟨rfl, hb⟩; replace HB := zA (zP apA hb); (try clear hb); (try clear hb2); (try clear hk); (try clear hi)))
  go_ret
  exact ⟨apD, apA⟩
 ·rw [if_neg c3] at H
  have c3b0 : (a0_0 == 6) = false := beq_eq_false_iff_ne.mpr c3
  have c3b1 : (a0_0 != 6) = true := bne_iff_ne.mpr c3
  obtain rfl := yG H
  go_enter Tryd.func28, Tryd.ntmps28
  go_wp2_with (first | ((with_reducible refine zS (N := 2) rfl ?_); refine zW ?hg (N := 2) ?hd (cs := #[.int .i64 a0_0, .int .i64 a0_1, .int .i64 a0_2, .string a0_3, .slice A0_4 l0_4.length c0_4, .slice A0_5 l0_5.length c0_5]) (t := 34) ?hr ?_; (case hd => rfl); (case hg => rfl); (case hr => first | (go_simp; done) | (go_simp; rfl)); intro gb240 hg w8 hbox hb; have BK240 := zA (hbox); have GW240 := zA ((by rw [hg]; exact (zQ apA) : w.heap.size ≤ gb240)); have GE240 := zA ((by rw [hg]; exact (zQ apA) : w.heap.size ≤ gb240)); replace HB := zA (zP apA hb); clear hb hbox hg; obtain ⟨hcz9_0, hcz9_1, hcz9_2, hcz9_3, hcz9_4, hcz9_5, hfz9_0, hfz9_1, hfz9_2, hfz9_3, hfz9_4, hfz9_5⟩ := zb6 BK240.out))
  go_ret
  exact ⟨apD, by repeat (first | (with_reducible first | exact HB.out | apply zG | apply zE | apply zF | refine zH ?_ GE240.out) | exact HB.out)⟩


def impl_Value_36_at_isIni_2.l0 : Nat → List (S34) → Int → Int → List Int → Option (Int)
 | 0, _, _, _, _ => none
 | k + 1, x0, x7, x8, x904 => if x8 < x7 then (if 0 ≤ x8 then (if x8 < (x0.length : Int) then ((impl_isIni_2.f k ((rd_T34 x0 x8).f0) ((rd_T34 x0 x8).f1.f0) ((rd_T34 x0 x8).f1.f1) ((rd_T34 x0 x8).f2) ((rd_T34 x0 x8).f3) ((rd_T34 x0 x8).f4) x904).bind fun t243 => (if t243 = true then (some x8) else (impl_Value_36_at_isIni_2.l0 k x0 x7 (wrap64 (x8 + 1)) x904))) else (none)) else (none)) else (some (-1))
def impl_Value_36_at_isIni_2.f (k : Nat) (l0 : List (S34))  (l2 : List Int) : Option (Int) := impl_Value_36_at_isIni_2.l0 k l0 (l0.length : Int) 0 l2
theorem impl_Value_36_at_isIni_2.mono_l : ∀ k, (∀ y0 y1 y2 y3, LeO (impl_Value_36_at_isIni_2.l0 k y0 y1 y2 y3) (impl_Value_36_at_isIni_2.l0 (k + 1) y0 y1 y2 y3))
 | 0 => fun _ _ _ _ r h => by simp [impl_Value_36_at_isIni_2.l0] at h
 | k + 1 => by
  have ih0 := impl_Value_36_at_isIni_2.mono_l k
  ·intro y0 y1 y2 y3
   unfold impl_Value_36_at_isIni_2.l0
   repeat' first
   | (with_reducible exact ih0 _ _ _ _)
   | (with_reducible exact impl_isIni_2.mono _ _ _ _ _ _ _ _)
   | (with_reducible exact LeO.refl _)
   | (with_reducible exact LeO.none _)
   | (with_reducible refine LeO.ite ?_ ?_)
   | (with_reducible refine LeO.bind ?_ (fun _ => ?_))
   | exact ih0 _ _ _ _
theorem impl_Value_36_at_isIni_2.mono : ∀ a0 a1 k, LeO (impl_Value_36_at_isIni_2.f k a0 a1) (impl_Value_36_at_isIni_2.f (k + 1) a0 a1) := by
 intro a0 a1 k
 have ih0 := impl_Value_36_at_isIni_2.mono_l k
 unfold impl_Value_36_at_isIni_2.f
 repeat' first
   | (with_reducible exact ih0 _ _ _ _)
   | (with_reducible exact impl_isIni_2.mono _ _ _ _ _ _ _ _)
   | (with_reducible exact LeO.refl _)
   | (with_reducible exact LeO.none _)
   | (with_reducible refine LeO.ite ?_ ?_)
   | (with_reducible refine LeO.bind ?_ (fun _ => ?_))
   | exact ih0 _ _ _ _
set_option maxHeartbeats 8000000 in
set_option maxRecDepth 100000 in
theorem impl_Value_36_at_isIni_2.calls (k : Nat) (A0 : Option Addr) (c0 : Nat) (l0 : List (S34))  (A2 : Option Addr) (c2 : Nat) (l2 : List Int) (r : Int) (w : World) (hr0 : Kd.C k34 w A0 l0.length l0) (hc0 : l0.length ≤ c0) (hr2 : Kd.C (kFn 26) w A2 l2.length l2) (hc2 : l2.length ≤ c2) (h : impl_Value_36_at_isIni_2.f k l0 l2 = some r) :
  Calls Tryd.prog 36 #[.slice A0 l0.length c0, .func (.func 28) #[] #[.pointer A2]] w fun e w' => e = .returned (.int .i64 r) ∧ Below w.heap.size w w' := by
 have hu34 := Tryd.underlying34
 have HR0 := zA hr0
 have HC0 := zA hc0
 clear hr0 hc0
 have HR2 := zA hr2
 have HC2 := zA hc2
 clear hr2 hc2
 have HB := zA (yH w.heap.size w)
 have H : (impl_Value_36_at_isIni_2.l0 k l0 (l0.length : Int) 0 l2) = some r := h
 clear h
 have H' := zA H
 clear H
 go_enter Tryd.func36, Tryd.ntmps36
 go_wp2
 go_loopg [8] k (fun kq v8 w' => ∃ (x8_1 : Int), v8 = .int .i64 x8_1 ∧ Aside0 (impl_Value_36_at_isIni_2.l0 kq l0 (l0.length : Int) x8_1 l2 = some r) ∧ Aside0 (kq ≤ k) ∧ Aside0 (Below w.heap.size w w'))
 case atStart => exact ⟨(0), apC, H', ⟨yJ _⟩, ⟨apA⟩⟩
 case round =>
  clear H'
  try clear c2 p2 c3
  obtain ⟨x8_1, rfl, HA, HK1, HB⟩ := hrel
  cases gk with
  | zero => exact absurd HA.out (by simp [impl_Value_36_at_isIni_2.l0])
  | succ k1 =>
   have H := HA.out
   clear HA
   simp only [impl_Value_36_at_isIni_2.l0] at H
   by_cases c4 : x8_1 < (l0.length : Int)
   ·rw [if_pos c4] at H
    have c4b0 : decide (x8_1 < (l0.length : Int)) = true := yE c4
    clear c4
    by_cases c5 : 0 ≤ x8_1
    ·rw [if_pos c5] at H
     have c5b0 : decide (0 ≤ x8_1) = true := yE c5
     clear c5
     by_cases c6 : x8_1 < (l0.length : Int)
     ·rw [if_pos c6] at H
      have c6b0 : decide (x8_1 < (l0.length : Int)) = true := yE c6
      clear c6
      replace H := Option.bind_eq_some_iff.mp H
      obtain ⟨t243, A70, H⟩ := H
      have A7 := zA A70
      clear A70
      by_cases c8 : t243 = true
      ·subst c8
       have H1 := H; rw [if_pos rfl] at H1
       clear H
       have H := H1
       clear H1
       obtain rfl := yG H
       have p242 : 0 ≤ (x8_1 : Int) := yF apB
       have q242 : x8_1 < (l0.length : Int) := yF apB
       obtain ⟨ad242, A242_4, c242_4, A242_5, c242_5, e242, hx242_0, hx242_1, hx242_2, hx242_3, hx242_4, hx242_5, hl242_4, hi242_4, hl242_5, hi242_5⟩ := at_T34 HR0.out x8_1 p242 q242
       cases e242
       replace hx242_0 := (HB.out.cell (zR w _ hx242_0)).trans hx242_0
       replace hx242_1 := (HB.out.cell (zR w _ hx242_1)).trans hx242_1
       replace hx242_2 := (HB.out.cell (zR w _ hx242_2)).trans hx242_2
       replace hx242_3 := (HB.out.cell (zR w _ hx242_3)).trans hx242_3
       replace hx242_4 := (HB.out.cell (zR w _ hx242_4)).trans hx242_4
       replace hx242_5 := (HB.out.cell (zR w _ hx242_5)).trans hx242_5
       have HR242_4 := zA hi242_4
       have HC242_4 := zA hl242_4
       clear hi242_4 hl242_4
       have HR242_5 := zA hi242_5
       have HC242_5 := zA hl242_5
       clear hi242_5 hl242_5
       replace p242 := eq_true p242
       replace q242 := eq_true q242
       go_wp2_with (first | ((refine gate_calleevc (f := 28) rfl rfl ?_); refine goesvcL_ (some 16) rfl rfl Tryd.func28 (by kernel_rfl) rfl #[.agg #[.int .i64 ((rd_T34 l0 x8_1).f0), .int .i64 ((rd_T34 l0 x8_1).f1.f0), .int .i64 ((rd_T34 l0 x8_1).f1.f1), .string ((rd_T34 l0 x8_1).f2), .slice A242_4 ((rd_T34 l0 x8_1).f3).length c242_4, .slice A242_5 ((rd_T34 l0 x8_1).f4).length c242_5], .pointer A2] rfl rfl apE ?_; (with_reducible refine (impl_isIni_2.calls k1 ((rd_T34 l0 x8_1).f0) ((rd_T34 l0 x8_1).f1.f0) ((rd_T34 l0 x8_1).f1.f1) ((rd_T34 l0 x8_1).f2) _ _ ((rd_T34 l0 x8_1).f3) _ _ ((rd_T34 l0 x8_1).f4) A2 c2 l2 true _ ?side1 ?side2 ?side3 ?side4 ?side5 ?side6 A7.out).mono ?_); (case side1 => exact vc (Kd.C_below HR242_4.out HB.out)); (case side2 => exact HC242_4.out); (case side3 => exact vc (Kd.C_below HR242_5.out HB.out)); (case side4 => exact HC242_5.out); (case side5 => exact vc (Kd.C_below HR2.out HB.out)); (case side6 => exact HC2.out); rintro e w9 ⟨rfl, hb⟩; refine ⟨_, rfl, ?_⟩; replace HB := zA (zP apA hb); (try clear hb); (try clear hb2); (try clear hk); (try clear hi)))
       go_ret
       exact ⟨apD, apA⟩
      ·replace c8 := Bool.eq_false_iff.mpr c8
       subst c8
       have H1 := H; rw [if_neg (show ¬ (false = true) by decide)] at H1
       clear H
       have H := H1
       clear H1
       have H' := zA H
       clear H
       have p242 : 0 ≤ (x8_1 : Int) := yF apB
       have q242 : x8_1 < (l0.length : Int) := yF apB
       obtain ⟨ad242, A242_4, c242_4, A242_5, c242_5, e242, hx242_0, hx242_1, hx242_2, hx242_3, hx242_4, hx242_5, hl242_4, hi242_4, hl242_5, hi242_5⟩ := at_T34 HR0.out x8_1 p242 q242
       cases e242
       replace hx242_0 := (HB.out.cell (zR w _ hx242_0)).trans hx242_0
       replace hx242_1 := (HB.out.cell (zR w _ hx242_1)).trans hx242_1
       replace hx242_2 := (HB.out.cell (zR w _ hx242_2)).trans hx242_2
       replace hx242_3 := (HB.out.cell (zR w _ hx242_3)).trans hx242_3
       replace hx242_4 := (HB.out.cell (zR w _ hx242_4)).trans hx242_4
       replace hx242_5 := (HB.out.cell (zR w _ hx242_5)).trans hx242_5
       have HR242_4 := zA hi242_4
       have HC242_4 := zA hl242_4
       clear hi242_4 hl242_4
       have HR242_5 := zA hi242_5
       have HC242_5 := zA hl242_5
       clear hi242_5 hl242_5
       replace p242 := eq_true p242
       replace q242 := eq_true q242
       go_wp2_with (first | ((refine gate_calleevc (f := 28) rfl rfl ?_); refine goesvcL_ (some 16) rfl rfl Tryd.func28 (by kernel_rfl) rfl #[.agg #[.int .i64 ((rd_T34 l0 x8_1).f0), .int .i64 ((rd_T34 l0 x8_1).f1.f0), .int .i64 ((rd_T34 l0 x8_1).f1.f1), .string ((rd_T34 l0 x8_1).f2), .slice A242_4 ((rd_T34 l0 x8_1).f3).length c242_4, .slice A242_5 ((rd_T34 l0 x8_1).f4).length c242_5], .pointer A2] rfl rfl apE ?_; (with_reducible refine (impl_isIni_2.calls k1 ((rd_T34 l0 x8_1).f0) ((rd_T34 l0 x8_1).f1.f0) ((rd_T34 l0 x8_1).f1.f1) ((rd_T34 l0 x8_1).f2) _ _ ((rd_T34 l0 x8_1).f3) _ _ ((rd_T34 l0 x8_1).f4) A2 c2 l2 false _ ?side1 ?side2 ?side3 ?side4 ?side5 ?side6 A7.out).mono ?_); (case side1 => exact vc (Kd.C_below HR242_4.out HB.out)); (case side2 => exact HC242_4.out); (case side3 => exact vc (Kd.C_below HR242_5.out HB.out)); (case side4 => exact HC242_5.out); (case side5 => exact vc (Kd.C_below HR2.out HB.out)); (case side6 => exact HC2.out); rintro e w10 ⟨rfl, hb⟩; refine ⟨_, rfl, ?_⟩; replace HB := zA (zP apA hb); (try clear hb); (try clear hb2); (try clear hk); (try clear hi)))
       go_roundg k1
       case measure => have := HK1.out; omega
       case rel => exact ⟨(wrap64 (x8_1 + 1)), apC, H', ⟨by have := HK1.out; omega⟩, ⟨apA⟩⟩
     ·rw [if_neg c6] at H
      exact absurd H (by simp)
    ·rw [if_neg c5] at H
     exact absurd H (by simp)
   ·rw [if_neg c4] at H
    have c4b0 : decide (x8_1 < (l0.length : Int)) = false := decide_eq_false c4
    clear c4
    obtain rfl := yG H
    go_wp2
    go_ret
    exact ⟨apD, apA⟩


def impl_Value_27_at_isIni_2.f (k : Nat) (l0 : List (S34))  (l2 : List Int) : Option (Bool) := (impl_Value_36_at_isIni_2.f k l0 l2).bind fun t244 => (some (decide (t244 ≥ 0)))
theorem impl_Value_27_at_isIni_2.mono : ∀ a0 a1 k, LeO (impl_Value_27_at_isIni_2.f k a0 a1) (impl_Value_27_at_isIni_2.f (k + 1) a0 a1) := by
 intro a0 a1 k
 unfold impl_Value_27_at_isIni_2.f
 repeat' first
   | (with_reducible exact impl_Value_36_at_isIni_2.mono _ _ _)
   | (with_reducible exact LeO.refl _)
   | (with_reducible exact LeO.none _)
   | (with_reducible refine LeO.ite ?_ ?_)
   | (with_reducible refine LeO.bind ?_ (fun _ => ?_))
set_option maxHeartbeats 8000000 in
set_option maxRecDepth 100000 in
theorem impl_Value_27_at_isIni_2.calls (k : Nat) (A0 : Option Addr) (c0 : Nat) (l0 : List (S34))  (A2 : Option Addr) (c2 : Nat) (l2 : List Int) (r : Bool) (w : World) (hr0 : Kd.C k34 w A0 l0.length l0) (hc0 : l0.length ≤ c0) (hr2 : Kd.C (kFn 26) w A2 l2.length l2) (hc2 : l2.length ≤ c2) (h : impl_Value_27_at_isIni_2.f k l0 l2 = some r) :
  Calls Tryd.prog 27 #[.slice A0 l0.length c0, .func (.func 28) #[] #[.pointer A2]] w fun e w' => e = .returned (.bool r) ∧ Below w.heap.size w w' := by
 have HR0 := zA hr0
 have HC0 := zA hc0
 clear hr0 hc0
 have HR2 := zA hr2
 have HC2 := zA hc2
 clear hr2 hc2
 have HB := zA (yH w.heap.size w)
 have H : ((impl_Value_36_at_isIni_2.f k l0 l2).bind fun t244 => (some (decide (t244 ≥ 0)))) = some r := h
 clear h
 replace H := Option.bind_eq_some_iff.mp H
 obtain ⟨t244, A40, H⟩ := H
 have A4 := zA A40
 clear A40
 obtain rfl := yG H
 go_enter Tryd.func27, Tryd.ntmps27
 go_wp2_with (first | ((with_reducible refine zT (f := 36) rfl ?_); refine goesL_ (some 7) rfl rfl Tryd.func36 (by kernel_rfl) rfl #[.slice A0 l0.length c0, .func (.func 28) #[] #[.pointer A2]] rfl apE ?_; (with_reducible refine (impl_Value_36_at_isIni_2.calls k _ _ l0 A2 c2 l2 t244 _ ?side1 ?side2 ?side3 ?side4 A4.out).mono ?_); (case side1 => repeat (first | exact HR0.out | (with_reducible refine Kd.C_alloc ?_ _) | (with_reducible refine Kd.C_drewN ?_ _) | (with_reducible refine Kd.C_drew ?_))); (case side2 => exact HC0.out); (case side3 => repeat (first | exact HR2.out | (with_reducible refine Kd.C_alloc ?_ _) | (with_reducible refine Kd.C_drewN ?_ _) | (with_reducible refine Kd.C_drew ?_))); (case side4 => exact HC2.out); rintro e w5 ⟨rfl, hb⟩; refine ⟨_, rfl, ?_⟩; replace HB := zA (zP apA hb); (try clear hb); (try clear hb2); (try clear hk); (try clear hi)))
 go_ret
 exact ⟨apD, apA⟩

end Go.Proofs.YthaceblepbkjjaaDoor.Q
